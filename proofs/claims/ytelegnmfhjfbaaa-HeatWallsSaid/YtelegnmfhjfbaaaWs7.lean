/- Walks of the functions of the program, and the laws that join them: what the last theorem of this claim needs, in order. -/
import Derived.Test.YtelegnmfhjfbaaaWs6
namespace Go.Proofs.Ytelegnmfhjfbaaa
set_option linter.unusedSimpArgs false
set_option linter.unusedVariables false
open Go
theorem ap91 : apT Try.prog 91 = some (93, 2, 32) := by kernel_rfl
theorem cal114 : cal Try.prog 114 = true := by kernel_rfl
theorem cn128 : cellN Try.prog 128 = some 1 := by kernel_rfl
theorem cn155 : cellN Try.prog 155 = some 1 := by kernel_rfl
theorem pl93 : placeL Try.prog 93 = some [(0, 1), (1, 1)] := by kernel_rfl
theorem sl91 : slE Try.prog 91 = some (93, 2) := by kernel_rfl
theorem zl128 : zeroL Try.prog 128 = some ([.map none]) := by kernel_rfl
theorem zl155 : zeroL Try.prog 155 = some ([.nilFunc]) := by kernel_rfl
def WallQ (b : Barn) (H : Heap) (R : Facts) : Value → Heap → Facts → Prop := fun v H' R' => H' = H ∧
  ((b.check ≠ 0 ∧ v = .tuple #[.slice none 0 0, .int .i64 b.check] ∧ R' = R) ∨
   (b.check = 0 ∧ Kpt b.dsk b.state 1000000 ∧ v = .tuple #[.slice none 0 0, .int .i64 6] ∧ R' = R) ∨
   (b.check = 0 ∧ ∃ (m : Int) (W : List WE) (aw : Option Addr) (cw : Nat), m ≠ 1000000 ∧ Kpt b.dsk b.state m ∧ shwV b (wls W) = (m, 0) ∧ W.length ≤ b.dsk.nst ∧ W.length ≤ cw ∧ v = .tuple #[.slice aw W.length cw, .int .i64 0] ∧
      R' = RowsA aw 2 (werows W) :: InW W :: R))
theorem lvl_mono {d : Dsk} (hd : d.ok) {n : Nat} (hn : n ≤ 14641) (hf : d.alive (n + 1) = d.alive n) {s t : HSt} (hs : d.inS s) (ht : d.inS t) (h : undP d.n s t = true) : d.lvl n s ≤ d.lvl n t :=
  (Les.kpt (d := d) (d' := d) ⟨rfl, Int.le_refl _, fun _ _ => Int.le_refl _⟩ hd hd hs ht (undP_iff.1 h) (kpt_of ((d.mem_sts hd s).2 hs) hn hf) (kpt_of ((d.mem_sts hd t).2 ht) hn hf)).1
theorem wlV_snoc {d : Dsk} {n : Nat} {V : List HSt} {j : Nat} {p : HSt} (h : V[j]? = some p) : wlV d n (V.take (j + 1)) = wlV d n (V.take j) ++ [(p.take d.n, d.lvl n p)] := by
  rw [take_snoc h]; unfold wlV; rw [List.map_append]; rfl
theorem strows_drop {V : List HSt} {j : Nat} {p : HSt} (h : V[j]? = some p) : strows (V.drop j) = ints p :: strows (V.drop (j + 1)) := by
  rw [List.drop_eq_getElem_cons (List.getElem?_eq_some_iff.1 h).1, (List.getElem?_eq_some_iff.1 h).2]; rfl
theorem strows_add {V : List HSt} {j : Nat} (h : j ≤ V.length) (u : HSt) : strows (V.drop j) ++ [ints u] = strows ((V ++ [u]).drop j) := by
  rw [List.drop_append_of_le_length h]; unfold strows; rw [List.map_append]; rfl
theorem lk_factE {H : Heap} {R : Facts} {kv : KV} {s : HSt} {v : Value} {m : Nat} (hs : s.length = 4) (hk : ∀ e ∈ kv, e.1.length = 4) (hg : kv.get s = some v) (hm : ∀ w, St H R w → w.heap[m]? = some (mapO true kv)) :
    ∀ w, St H R w → Lkp Try.prog 128 (.map (some m)) (mkv true s) false v w := fun w hw => by
  have h := lk_fact (b := true) kv s mke128 (KeyT.of eqf127 noa127) (run_zv zv3) hs hk hm false w hw
  rw [hg] at h
  exact h
set_option maxHeartbeats 1000000 in
theorem c_Wall (b : Barn) (ab : Option Addr) (cb : Nat) (hl : b.bins.length ≤ 9223372036854775807) (hr : b.rise.length = 6) (H : Heap) (R : Facts) [hB : MemRows ab 4 (brows b.bins) R] :
    Fn Try.prog 60 [b.v (b.sl ab cb)] H R (WallQ b H R) := by
 refine fnM_of Try.func60 rfl Try.ntmps60 rfl ?_
 refine sy_seq ?_
 refine sy_tx' [0, 1, 2] rfl ?_
 refine bx rfl rfl rfl (fun b1 => ?_)
 refine sp rfl (PE.assign rfl) rfl ?_
 refine sp rfl (PE.assign rfl) rfl ?_
 refine sy_seq ?_
 refine sy_tx' [0, 1, 2, 3, 4, 5, 6, 7] rfl ?_
 refine spL rfl rfl (lhA (btl b (b.sl ab cb)) ag25 rfl rfl rfl) rfl ?_
 refine cl rfl cal89 rfl rfl (c_opened b ab cb hl hr _ _) ?_
 rintro _ _ _ (⟨hck, rfl, rfl, rfl⟩ | ⟨hck, bd, m, rfl, rfl, rfl⟩)
 refine sp rfl (PE.move rfl) rfl ?_
 refine sp rfl (PE.extract rfl rfl) rfl ?_
 refine sp rfl (PE.extract rfl rfl) rfl ?_
 refine alc rfl zl123 rfl (fun b4 => ?_)
 refine sto rfl rfl rfl cn123 rfl rfl rfl rfl ?_
 refine sp rfl (PE.assign rfl) rfl ?_
 refine sy_seq ?_
 refine sy_seq ?_
 refine sy_tx' [0, 1] rfl ?_
 refine sp rfl (PE.move rfl) rfl ?_
 refine sp rfl (PE.neq rfl rfl) rfl ?_
 refine sy_condT (congrArg (fun b => some (Value.bool b)) (decide_eq_true hck)) ?_
 refine sy_seq ?_
 refine sy_tx' [0, 1, 2] rfl ?_
 refine sp rfl (PE.move rfl) rfl ?_
 refine sp rfl (PE.assign rfl) rfl ?_
 refine sp rfl (PE.assign rfl) rfl ?_
 refine sy_ret ?_
 exact sy_returnM [] (fun _ h => h) rfl (.cons (RV.tmp rfl) (.cons (RV.tmp rfl) .nil)) rfl ⟨rfl, .inl ⟨hck, rfl, rfl⟩⟩ (fun w h => (h.del b4).del b1)
 ·
  have hok := Barn.ok_of hr hck
  have hdk := b.dsk_ok hok
  have hl4 := hdk.lasts.len
  have hm4 := hdk.most.len
  have hmn := hok.many
  refine sp rfl (PE.move rfl) rfl ?_
  refine sp rfl (PE.extract rfl rfl) rfl ?_
  refine sp rfl (PE.extract rfl rfl) rfl ?_
  refine alc rfl zl123 rfl (fun b4 => ?_)
  refine sto rfl rfl rfl cn123 rfl rfl rfl rfl ?_
  refine sp rfl (PE.assign rfl) rfl ?_
  refine sy_seq ?_
  refine sy_seq ?_
  refine sy_tx' [0, 1] rfl ?_
  refine sp rfl (PE.move rfl) rfl ?_
  refine sp rfl (PE.neq rfl rfl) rfl ?_
  refine sy_condF (rfl) ?_
  refine sy_skip ?_
  refine sy_seq ?_
  refine sy_tx' [0, 1] rfl ?_
  refine spL rfl rfl (lh sc123 rfl rfl) rfl ?_
  refine sy_pull m ?_
  refine cl rfl cal90 rfl rfl (c_work b hok ab cb bd m _ _) ?_
  rintro v _ _ ⟨n, kv, hn, hfx, hkv, rfl, rfl⟩
  have hst := b.state_sts hok
  have hsi := b.state_inS hok
  have hks := kpt_of hst hn hfx
  have hkg := hkv.get _ hst
  refine sy_seq ?_
  refine sy_seq ?_
  refine sy_draw [0, 1, 3, 7, 0, 16, 63, 127] (.ld 0 (.tk 1 (.tk 2 (.ld 3 (.ld 4 (.big 5 (.ld 6 (.tk 7 .done)))))))) mixed (by kernel_rfl) ?_
  refine ld rfl rfl (lh sc123 rfl rfl) rfl ?_
  refine tk rfl (PE.nilCheck rfl) rfl ?_
  refine tk rfl (PE.fieldAddr fo130_3 rfl) rfl ?_
  refine ld rfl rfl (lfB (sz := 18) sc128 (dcs_map hl4 hm4)) rfl ?_
  refine ld rfl rfl (lhA (btl b (b.sl ab cb)) ag25 rfl rfl rfl) rfl ?_
  refine clV rfl cal91 rfl rfl (c_state b ab cb hok _ _) ?_
  refine bg (fun w hs => ⟨trivial, (lfB (sz := 18) sc128 (dcs_map hl4 hm4)) w hs, (lh sc123 rfl rfl) w hs, trivial⟩) ?_
  refine ldK rfl rfl rfl ((lk_held (b := true) kv b.state mke128 (KeyT.of eqf127 noa127) (run_zv zv3) (b.state_sml hok).len hkv.len false)) rfl ?_
  rw [hkg]
  refine tk rfl (PE.eql rfl rfl) rfl ?_
  refine sy_cond rfl (fun hc1 => ?_) (fun hc1 => ?_)
  try simp only [decide_eq_true_eq, decide_eq_false_iff_not, Bool.and_eq_true, Bool.or_eq_true, Bool.not_eq_true', Int.not_le, Int.not_lt] at hc1
  refine sy_seq ?_
  refine sy_tx' [0, 1] rfl ?_
  refine sp rfl (PE.assign rfl) rfl ?_
  refine sp rfl (PE.assign rfl) rfl ?_
  refine sy_ret ?_
  exact sy_returnM [] (fun _ h => h) rfl (.cons (RV.tmp rfl) (.cons (RV.tmp rfl) .nil)) rfl ⟨rfl, .inr (.inl ⟨hck, hc1 ▸ hks, rfl, rfl⟩)⟩ (fun w h => St.sub (((h.del m).del b4).del b1))
  ·
   try simp only [decide_eq_true_eq, decide_eq_false_iff_not, Bool.and_eq_true, Bool.or_eq_true, Bool.not_eq_true', Int.not_le, Int.not_lt] at hc1
   have hkr := kpt_nn hks
   have hn14 := (b.dsk.nst_le hdk).2
   refine sy_skip ?_
   refine sy_seq ?_
   refine sy_tx' [0] rfl ?_
   refine alc rfl zl155 rfl (fun b6 => ?_)
   refine sy_seq ?_
   refine sy_tx' [0, 1] rfl ?_
   refine sp rfl (PE.makeFunc rfl rfl) rfl ?_
   refine sto rfl rfl rfl cn155 rfl rfl rfl rfl ?_
   refine sy_seq ?_
   refine sy_tx' [0, 1, 2, 3] rfl ?_
   refine Sy.heap (fun w h => St.kpf (h.pull m)) ?_
   refine Sy.heap (fun w h => St.rows (sz := 1) (rows := [[.pointer (some ⟨bd, 0, none⟩)]]) (rest := []) (h.pull b4) (by simp)) ?_
   refine Sy.heap (fun w h => St.rows (sz := 1) (rows := [[.func (.func 113) #[] #[.pointer (some ⟨b4, 0, none⟩), .pointer (some ⟨b6, 0, none⟩)]]]) (rest := []) (h.pull b6) (by simp)) ?_
   refine spL rfl rfl (lhA (btl b (b.sl ab cb)) ag25 rfl rfl rfl) rfl ?_
   refine clV rfl cal91 rfl rfl (c_state b ab cb hok _ _) ?_
   refine alc rfl zl127 rfl (fun b7 => ?_)
   refine stoA rfl rfl rfl cn127 rfl (by rw [ints_length]; exact hsi.len) rfl (ints_one _) ?_
   refine sy_seq ?_
   refine sy_draw [0, 0, 0, 4, 12, 28, 0, 124, 255, 511, 0, 2047] (.ld 0 (.ld 1 (.ld 2 (.tk 3 (.tk 4 (.ld 5 (.ld 6 (.ld 7 (.any (.alt 8 (.any (.alt 9 (.big 10 (.big 11 .done)) (.alt 10 (.big 9 (.big 11 .done)) .stop))) (.alt 10 (.big 8 (.big 9 (.big 11 .done))) .stop))))))))))) mixed (by kernel_rfl) ?_
   refine ld rfl rfl (lfB (sz := 1) sc155 rfl) rfl ?_
   refine ld rfl rfl (lhA (rest := []) (ints b.state) ag127 rfl (by rw [List.append_nil]; rfl) (by rw [ints_length]; exact hsi.len)) rfl ?_
   refine ld rfl rfl (lfB (sz := 1) sc123 rfl) rfl ?_
   refine tk rfl (PE.nilCheck rfl) rfl ?_
   refine tk rfl (PE.fieldAddr fo130_3 rfl) rfl ?_
   refine ld rfl rfl (lfB (sz := 18) sc128 (dcs_map hl4 hm4)) rfl ?_
   refine ld rfl rfl (lhA (rest := []) (ints b.state) ag127 rfl (by rw [List.append_nil]; rfl) (by rw [ints_length]; exact hsi.len)) rfl ?_
   refine ldK rfl rfl rfl (lk_factE hsi.len hkv.len hkg (fun w hs => hs.now (MemF.mem (f := KpF m kv)))) rfl ?_
   refine sy_alt ?_ ?_
   ·
    refine clF rfl rfl (cal113) rfl rfl (c_raise b hok ab cb bd m n hn kv hkv b4 b6 (b.dsk.lvl n b.state) b.state hsi _ _) ?_
    rintro _ _ _ ⟨uf, huf, rfl, rfl, rfl⟩
    obtain ⟨f0, f1, f2, f3, rfl⟩ := list4 huf.inS.len
    refine bg (fun w hs => ⟨trivial, trivial, trivial, trivial, trivial, trivial, trivial⟩) ?_
    refine sy_alt ?_ ?_
    ·
     refine bsl (out := [_, _, _, _]) rfl sl156 zl127 rfl rfl rfl rfl rfl rfl (fun b47 => ?_)
     refine bg (fun w hs => trivial) ?_
     refine alc rfl zl156 rfl (fun b8 => ?_)
     refine bg (fun w hs => trivial) ?_
     refine sto rfl rfl rfl cn156 rfl rfl rfl rfl ?_
     refine bg (fun w hs => trivial) ?_
     refine sy_seq ?_
     refine sy_cut (ι := {x : (Nat × Nat × Nat × Nat) × HSt // Rz b.dsk n (b.dsk.lvl n b.state) b.state x.2}) (fun x => ⟨[(1, .pointer (some ⟨b1, 0, none⟩)), (4, .pointer (some ⟨b4, 0, none⟩)), (6, .pointer (some ⟨b6, 0, none⟩)), (8, .pointer (some ⟨x.1.1.1, 0, none⟩)), (9, .pointer (some ⟨x.1.1.2.1, 0, none⟩))], (x.1.1.1, cel 156 [.slice (some ⟨x.1.1.2.2.2, 0, none⟩) 1 1]) :: (x.1.1.2.1, cel 128 [.map (some x.1.1.2.2.1)]) :: (x.1.1.2.2.1, mapO true [(x.1.2, .int .i64 (b.dsk.lvl n b.state))]) :: (x.1.1.2.2.2, cel 127 (ints x.1.2)) :: (b1, cel 25 (btl b (b.sl ab cb))) :: H, RowsA (some ⟨b6, 0, none⟩) 1 [[.func (.func 113) #[] #[.pointer (some ⟨b4, 0, none⟩), .pointer (some ⟨b6, 0, none⟩)]]] :: RowsA (some ⟨b4, 0, none⟩) 1 [[.pointer (some ⟨bd, 0, none⟩)]] :: KpF m kv :: RowsA (some ⟨bd, 0, none⟩) 18 [dcs b (b.sl ab cb) b.lasts b.most m] :: R⟩) ?_ ?_
     refine sy_draw [0, 0, 2, 6, 0, 16, 48, 112, 0, 496, 1023, 2047, 0, 8191] (.ld 1 (.tk 2 (.ld 3 (.ld 4 (.tk 5 (.tk 6 (.ld 7 (.ld 8 (.ld 9 (.any (.alt 0 (.any (.alt 10 (.tk 11 (.big 12 (.big 13 .done))) (.alt 12 (.big 10 (.tk 11 (.big 13 .done))) .stop))) (.alt 12 (.big 0 (.big 10 (.tk 11 (.big 13 .done)))) .stop)))))))))))) mixed (by kernel_rfl) ?_
     refine ld rfl rfl (lh sc156 rfl rfl) rfl ?_
     refine tk rfl (PE.indexAddr el156 rfl rfl (by decide) (by decide)) rfl ?_
     refine ld rfl rfl (lhA (rest := []) (ints [f0, f1, f2, f3]) ag127 rfl (by rw [List.append_nil]; rfl) (by rw [ints_length]; exact rfl)) rfl ?_
     refine ld rfl rfl (lfB (sz := 1) sc123 rfl) rfl ?_
     refine tk rfl (PE.nilCheck rfl) rfl ?_
     refine tk rfl (PE.fieldAddr fo130_3 rfl) rfl ?_
     refine ld rfl rfl (lfB (sz := 18) sc128 (dcs_map hl4 hm4)) rfl ?_
     refine ld rfl rfl (lhA (rest := []) (ints b.state) ag127 rfl (by rw [List.append_nil]; rfl) (by rw [ints_length]; exact hsi.len)) rfl ?_
     refine ldK rfl rfl rfl (lk_factE hsi.len hkv.len hkg (fun w hs => hs.now (MemF.mem (f := KpF m kv)))) rfl ?_
     refine sy_alt ?_ ?_
     refine mkm rfl rfl true (fun m48 => ?_)
     refine bg (fun w hs => ⟨(lk_factE hsi.len hkv.len hkg (fun w hs => hs.now (MemF.mem (f := KpF m kv)))) w hs, (lhA (rest := []) (ints b.state) ag127 rfl (by rw [List.append_nil]; rfl) (by rw [ints_length]; exact hsi.len)) w hs, (lfB (sz := 18) sc128 (dcs_map hl4 hm4)) w hs, (lfB (sz := 1) sc123 rfl) w hs, (lhA (rest := []) (ints [f0, f1, f2, f3]) ag127 rfl (by rw [List.append_nil]; rfl) (by rw [ints_length]; exact rfl)) w hs, (lh sc156 rfl rfl) w hs, trivial⟩) ?_
     refine sy_alt ?_ ?_
     refine mpi [] [f0, f1, f2, f3] rfl mke128 (KeyT.of eqf127 noa127) rfl rfl rfl rfl (by simp) ?_
     refine bg (fun w hs => ⟨trivial, trivial, trivial, trivial, trivial, trivial, trivial⟩) ?_
     refine tk rfl (PE.move rfl) rfl ?_
     refine alc rfl zl128 rfl (fun b9 => ?_)
     refine bg (fun w hs => trivial) ?_
     refine sto rfl rfl rfl cn128 rfl rfl rfl rfl ?_
     refine bg (fun w hs => trivial) ?_
     exact sy_cutEnd ⟨((b8, b9, m48, b47), [f0, f1, f2, f3]), huf⟩ (by repeat' first | exact Sub.nil | apply Sub.cons | rfl | (simp [lk]; omega)) (fun w h => (((((h.pull b1).pull b47).pull m48).pull b9).pull b8 |>.del b7))
     refine sy_alt ?_ ?_
     refine alc rfl zl128 rfl (fun b9 => ?_)
     refine bg (fun w hs => ⟨(lk_factE hsi.len hkv.len hkg (fun w hs => hs.now (MemF.mem (f := KpF m kv)))) w hs, (lhA (rest := []) (ints b.state) ag127 rfl (by rw [List.append_nil]; rfl) (by rw [ints_length]; exact hsi.len)) w hs, (lfB (sz := 18) sc128 (dcs_map hl4 hm4)) w hs, (lfB (sz := 1) sc123 rfl) w hs, (lhA (rest := []) (ints [f0, f1, f2, f3]) ag127 rfl (by rw [List.append_nil]; rfl) (by rw [ints_length]; exact rfl)) w hs, (lh sc156 rfl rfl) w hs, trivial⟩) ?_
     refine mpi [] [f0, f1, f2, f3] rfl mke128 (KeyT.of eqf127 noa127) rfl rfl rfl rfl (by simp) ?_
     refine bg (fun w hs => ⟨trivial, trivial, trivial, trivial, trivial, trivial, trivial⟩) ?_
     refine tk rfl (PE.move rfl) rfl ?_
     refine sto rfl rfl rfl cn128 rfl rfl rfl rfl ?_
     refine bg (fun w hs => trivial) ?_
     exact sy_cutEnd ⟨((b8, b9, m48, b47), [f0, f1, f2, f3]), huf⟩ (by repeat' first | exact Sub.nil | apply Sub.cons | rfl | (simp [lk]; omega)) (fun w h => (((((h.pull b1).pull b47).pull m48).pull b9).pull b8 |>.del b7))
     exact sy_stop
     refine sy_alt ?_ ?_
     refine alc rfl zl128 rfl (fun b9 => ?_)
     refine bg (fun w hs => ⟨(lk_factE hsi.len hkv.len hkg (fun w hs => hs.now (MemF.mem (f := KpF m kv)))) w hs, (lhA (rest := []) (ints b.state) ag127 rfl (by rw [List.append_nil]; rfl) (by rw [ints_length]; exact hsi.len)) w hs, (lfB (sz := 18) sc128 (dcs_map hl4 hm4)) w hs, (lfB (sz := 1) sc123 rfl) w hs, (lhA (rest := []) (ints [f0, f1, f2, f3]) ag127 rfl (by rw [List.append_nil]; rfl) (by rw [ints_length]; exact rfl)) w hs, (lh sc156 rfl rfl) w hs, trivial⟩) ?_
     refine mkm rfl rfl true (fun m48 => ?_)
     refine bg (fun w hs => ⟨(lk_factE hsi.len hkv.len hkg (fun w hs => hs.now (MemF.mem (f := KpF m kv)))) w hs, (lhA (rest := []) (ints b.state) ag127 rfl (by rw [List.append_nil]; rfl) (by rw [ints_length]; exact hsi.len)) w hs, (lfB (sz := 18) sc128 (dcs_map hl4 hm4)) w hs, (lfB (sz := 1) sc123 rfl) w hs, (lhA (rest := []) (ints [f0, f1, f2, f3]) ag127 rfl (by rw [List.append_nil]; rfl) (by rw [ints_length]; exact rfl)) w hs, (lh sc156 rfl rfl) w hs, trivial⟩) ?_
     refine mpi [] [f0, f1, f2, f3] rfl mke128 (KeyT.of eqf127 noa127) rfl rfl rfl rfl (by simp) ?_
     refine bg (fun w hs => ⟨trivial, trivial, trivial, trivial, trivial, trivial, trivial⟩) ?_
     refine tk rfl (PE.move rfl) rfl ?_
     refine sto rfl rfl rfl cn128 rfl rfl rfl rfl ?_
     refine bg (fun w hs => trivial) ?_
     exact sy_cutEnd ⟨((b8, b9, m48, b47), [f0, f1, f2, f3]), huf⟩ (by repeat' first | exact Sub.nil | apply Sub.cons | rfl | (simp [lk]; omega)) (fun w h => (((((h.pull b1).pull b47).pull m48).pull b9).pull b8 |>.del b7))
     exact sy_stop
     ·
      rintro ⟨⟨⟨b8, b9, m48, b47⟩, uf⟩, huf⟩
      dsimp only at huf ⊢
      obtain ⟨f0, f1, f2, f3, rfl⟩ := list4 huf.inS.len
      have hfl : b.dsk.lvl n [f0, f1, f2, f3] = b.dsk.lvl n b.state := by
        have h1 := lvl_mono hdk hn hfx hsi huf.inS huf.le
        have h2 := (Bq.start huf).lv [f0, f1, f2, f3] (by simp)
        omega
      refine sy_seq ?_
      refine sy_tx' [0] rfl ?_
      refine sp rfl (PE.assign rfl) rfl ?_
      refine sy_seq ?_
      refine sy_block ?_
      obtain ⟨q0, hq0, hqG⟩ := OQ.one (e := 127) (sz := 4) b47 (row := ints [f0, f1, f2, f3]) rfl
      obtain ⟨q1, hq1, hqG1⟩ : ∃ q1 : OQ 127 4 (strows (([[f0, f1, f2, f3]] : List HSt).drop 0)), q1.fs = .slice (some ⟨b47, 0, none⟩) 1 1 ∧ q1.G = [(b47, cel 127 (ints [f0, f1, f2, f3]))] := ⟨q0, hq0, hqG⟩
      refine Sy.heap (H' := (b8, cel 156 [q1.fs]) :: (b9, cel 128 [.map (some m48)]) :: (m48, mapO true (kvL b.dsk n [[f0, f1, f2, f3]])) :: (q1.G ++ ((OSl.nil 93 2).G ++ (b1, cel 25 (btl b (b.sl ab cb))) :: (mkh [] ++ H)))) (R' := InW [] :: RowsA (some ⟨b6, 0, none⟩) 1 [[.func (.func 113) #[] #[.pointer (some ⟨b4, 0, none⟩), .pointer (some ⟨b6, 0, none⟩)]]] :: RowsA (some ⟨b4, 0, none⟩) 1 [[.pointer (some ⟨bd, 0, none⟩)]] :: KpF m kv :: RowsA (some ⟨bd, 0, none⟩) 18 [dcs b (b.sl ab cb) b.lasts b.most m] :: R) (fun w h => by
        rw [hq1, hqG1, show kvL b.dsk n [[f0, f1, f2, f3]] = [([f0, f1, f2, f3], .int .i64 (b.dsk.lvl n b.state))] by unfold kvL; simp [hfl]]
        exact St.inw0 (show St ((b8, cel 156 [.slice (some ⟨b47, 0, none⟩) 1 1]) :: (b9, cel 128 [.map (some m48)]) :: (m48, mapO true [([f0, f1, f2, f3], .int .i64 (b.dsk.lvl n b.state))]) :: (b47, cel 127 (ints [f0, f1, f2, f3])) :: (b1, cel 25 (btl b (b.sl ab cb))) :: H) _ w from h)) ?_
      refine sy_loopD (ι := (y : {y : List HSt × Nat × List WE × List Nat // Bq b.dsk n b.state y.1 y.2.1 ∧ y.2.1 ≤ y.1.length ∧ wls y.2.2.1 = wlV b.dsk n (y.1.take y.2.1)}) × (OSl 93 2 (werows y.1.2.2.1) × OQ 127 4 (strows (y.1.1.drop y.1.2.1)))) (fun y => ⟨[(1, .pointer (some ⟨b1, 0, none⟩)), (4, .pointer (some ⟨b4, 0, none⟩)), (6, .pointer (some ⟨b6, 0, none⟩)), (8, .pointer (some ⟨b8, 0, none⟩)), (9, .pointer (some ⟨b9, 0, none⟩)), (10, y.2.1.fs)], mks y.1.1.2.2.2, (b8, cel 156 [y.2.2.fs]) :: (b9, cel 128 [.map (some m48)]) :: (m48, mapO true (kvL b.dsk n y.1.1.1)) :: (y.2.2.G ++ (y.2.1.G ++ (b1, cel 25 (btl b (b.sl ab cb))) :: (mkh y.1.1.2.2.2 ++ H))), InW y.1.1.2.2.1 :: RowsA (some ⟨b6, 0, none⟩) 1 [[.func (.func 113) #[] #[.pointer (some ⟨b4, 0, none⟩), .pointer (some ⟨b6, 0, none⟩)]]] :: RowsA (some ⟨b4, 0, none⟩) 1 [[.pointer (some ⟨bd, 0, none⟩)]] :: KpF m kv :: RowsA (some ⟨bd, 0, none⟩) 18 [dcs b (b.sl ab cb) b.lasts b.most m] :: R⟩) (fun y => b.dsk.nst - y.1.1.2.1) ⟨⟨([[f0, f1, f2, f3]], 0, [], []), Bq.start huf, Nat.zero_le _, rfl⟩, OSl.nil _ _, q1⟩ ?_ (fun y => ?_)
      exact sy_atD (by repeat' first | exact Sub.nil | apply Sub.cons | rfl | (simp [lk]; omega)) rfl (fun _ h => h)
      ·
       obtain ⟨⟨⟨V, j, W, mk⟩, hbq, hjv, hwv⟩, o, q⟩ := y
       dsimp only at hbq hjv hwv o q ⊢
       have hfew := hbq.few hdk
       have hWl : W.length = j := by have := congrArg List.length hwv; unfold wlV at this; rw [wls_len, List.length_map, List.length_take] at this; omega
       have hqs : q.fs = .slice (some ⟨q.b, q.off, none⟩) (V.length - j) q.cap := by unfold OQ.fs; rw [strows_len, List.length_drop]
       rw [hqs]
       refine sy_seq ?_
       refine sy_seq ?_
       refine sy_tx' [0, 1, 2] rfl ?_
       refine spL rfl rfl (lh sc156 rfl rfl) rfl ?_
       refine sp rfl (PE.lenSl isl156 rfl) rfl ?_
       refine sp rfl (PE.gtr rfl rfl) rfl ?_
       refine sy_cond rfl (fun hc2 => ?_) (fun hc2 => ?_)
       ·
        try simp only [decide_eq_true_eq, decide_eq_false_iff_not, Bool.and_eq_true, Bool.or_eq_true, Bool.not_eq_true', Int.not_le, Int.not_lt] at hc2
        obtain ⟨p, hp⟩ : ∃ p, V[j]? = some p := ⟨_, List.getElem?_eq_getElem (by omega)⟩
        have hpV := List.mem_of_getElem? hp
        have hps := hbq.sts p hpV
        have hpl := hps.len
        have hpm := b.dsk.inS_sml hdk hps
        have hplv := hbq.lv p hpV
        have hpk := kpt_of ((b.dsk.mem_sts hdk p).2 hps) hn hfx
        have hpr := kpt_nn hpk
        have hpe : (ints p).length = 4 := by rw [ints_length]; exact hpl
        have hV4 : ∀ s ∈ V, s.length = 4 := fun s hs => (hbq.sts s hs).len
        refine Sy.heap (H' := (b8, cel 156 [.slice (some ⟨q.b, q.off, none⟩) (V.length - j) q.cap]) :: (b9, cel 128 [.map (some m48)]) :: (m48, mapO true (kvL b.dsk n V)) :: (q.b, cel 127 (q.pre ++ ((strows (V.drop j)).flatten ++ q.junk))) :: (o.G ++ (b1, cel 25 (btl b (b.sl ab cb))) :: (mkh mk ++ H))) (fun w h => h) ?_
        have hdr : (q.pre ++ ((strows (V.drop j)).flatten ++ q.junk)).drop (q.off + (0 : Int).toNat * 4) = ints p ++ ((strows (V.drop (j + 1))).flatten ++ q.junk) := by
          have hfl : (strows (V.drop j)).flatten = ints p ++ (strows (V.drop (j + 1))).flatten := by rw [strows_drop hp, List.flatten_cons]
          rw [hfl, show q.off + (0 : Int).toNat * 4 = q.pre.length by rw [q.pl]; simp, List.drop_left, List.append_assoc]
        obtain ⟨q2, hq2, hqG2⟩ := (q.cast (strows_drop hp)).pop
        have hqc : (q.cast (strows_drop hp)).b = q.b ∧ (q.cast (strows_drop hp)).off = q.off ∧ (q.cast (strows_drop hp)).cap = q.cap := by
          generalize strows_drop hp = e
          generalize ints p :: strows (V.drop (j + 1)) = r at e
          subst e; exact ⟨rfl, rfl, rfl⟩
        rw [hqc.1, hqc.2.1, hqc.2.2, strows_len, List.length_drop] at hq2
        rw [OQ.cast_G] at hqG2
        refine sy_skip ?_
        refine sy_block ?_
        refine sy_seq ?_
        refine sy_tx' [0, 1, 2, 3, 4] rfl ?_
        refine spL rfl rfl (lh sc156 rfl rfl) rfl ?_
        refine sp rfl (PE.indexAddr el156 rfl rfl (by omega) (by omega)) rfl ?_
        refine spL rfl rfl (lhA (ints p) ag127 rfl hdr hpe) rfl ?_
        refine alc rfl zl127 rfl (fun b11 => ?_)
        refine stoA rfl rfl rfl cn127 rfl (by rw [ints_length]; exact hpl) rfl (ints_one _) ?_
        refine sy_seq ?_
        refine sy_tx' [0, 1, 2] rfl ?_
        refine spL rfl rfl (lh sc156 rfl rfl) rfl ?_
        refine sp rfl (PE.slLoA (l := 1) sl156 rfl rfl (by omega)) rfl ?_
        have hq2e : Value.slice (if q.cap = 1 then some ⟨q.b, q.off, none⟩ else (some (⟨q.b, q.off, none⟩ : Addr)).map (·.add (1 * 4))) (V.length - j - 1) (q.cap - 1) = q2.fs := by
          rw [hq2, Option.map_some, addr_add, show V.length - (j + 1) = V.length - j - 1 by omega]
        rw [hq2e]
        refine stoE (l' := [q2.fs]) rfl rfl rfl cn156 rfl rfl rfl rfl (Nat.le_refl _) ?_
        refine Sy.heap (H' := (b11, cel 127 (ints p)) :: (b8, cel 156 [q2.fs]) :: (b9, cel 128 [.map (some m48)]) :: (m48, mapO true (kvL b.dsk n V)) :: (q2.G ++ (o.G ++ (b1, cel 25 (btl b (b.sl ab cb))) :: (mkh mk ++ H)))) (fun w h => by rw [hqG2]; exact h) ?_
        refine sy_seq ?_
        refine sy_draw [0, 0, 2, 6, 14, 30, 0, 0, 192, 510, 1022, 2047, 4095] (.tk 0 (.tk 1 (.ld 2 (.tk 3 (.tk 4 (.ld 6 (.ld 7 (.ld 8 (.big 5 (.tk 9 (.big 10 (.big 11 (.tk 12 .done))))))))))))) mixed (by kernel_rfl) ?_
        refine tk rfl (PE.move rfl) rfl ?_
        refine tk rfl (PE.fieldAddr fo25_3 rfl) rfl ?_
        refine ld rfl rfl (lh sc23 rfl rfl) rfl ?_
        refine tk rfl (PE.lenSl isl23 rfl) rfl ?_
        refine tk rfl (PE.slArrHi (h := b.bins.length) ar127 rfl rfl (by omega)) rfl ?_
        refine ld rfl rfl (lh sc128 rfl rfl) rfl ?_
        refine ld rfl rfl (lhA (rest := []) (ints p) ag127 rfl (by rw [List.append_nil]; rfl) (by rw [ints_length]; exact hpl)) rfl ?_
        refine ldK rfl rfl rfl (lk_factE hpl (kvL_len hV4) (kvL_get hpV) (heldM (x := m48))) rfl ?_
        refine cl rfl cal114 rfl rfl (c_Clone b11 127 b.bins.length 4 p (by omega) (by omega) _ _) ?_
        rintro _ _ _ ⟨ol, rfl, rfl, rfl⟩
        obtain ⟨ay, cy, he, hf⟩ := ol.freeze
        rw [he, irows_len]
        refine Sy.heap (fun w h => hf h) ?_
        clear he hf
        refine bg (fun w hs => ⟨(lk_factE hpl (kvL_len hV4) (kvL_get hpV) (heldM (x := m48))) w hs, (lhA (rest := []) (ints p) ag127 rfl (by rw [List.append_nil]; rfl) (by rw [ints_length]; exact hpl)) w hs, (lh sc128 rfl rfl) w hs, trivial, trivial⟩) ?_
        refine tk rfl (PE.build (out := [_, _]) pl93 zl93 rfl rfl) rfl ?_
        refine bsl (out := [_, _]) rfl sl91 zl93 rfl rfl rfl rfl rfl rfl (fun b77 => ?_)
        refine bg (fun w hs => ⟨trivial, trivial, trivial, trivial⟩) ?_
        refine apO (o) rfl ap91 rfl rfl (rowsH (row := werow ⟨ay, cy, p.take b.bins.length, b.dsk.lvl n p⟩) rfl) rfl rfl ((by rw [werows_len]; simp only [List.length_singleton]; omega)) rfl (fun o78 => ?_)
        refine bg (fun w hs => trivial) ?_
        refine tk rfl (PE.assign rfl) rfl ?_
        refine sy_seq ?_
        refine sy_tx' [0, 1] rfl ?_
        refine Sy.heap (fun w h => St.inwSnoc (l := W) ⟨ay, cy, p.take b.bins.length, b.dsk.lvl n p⟩ h) ?_
        obtain ⟨o78, e78, g78⟩ : ∃ o' : OSl 93 2 (werows (W ++ [⟨ay, cy, p.take b.bins.length, b.dsk.lvl n p⟩])), o'.fs = o78.fs ∧ o'.G = o78.G := ⟨o78.cast (by rw [werows_app]; rfl), rfl, rfl⟩
        rw [← e78]
        refine Sy.heap (H' := (b11, cel 127 (ints p)) :: (b8, cel 156 [q2.fs]) :: (b9, cel 128 [.map (some m48)]) :: (m48, mapO true (kvL b.dsk n V)) :: (q2.G ++ (o78.G ++ (b1, cel 25 (btl b (b.sl ab cb))) :: (mkh mk ++ H)))) (R' := InW (W ++ [⟨ay, cy, p.take b.bins.length, b.dsk.lvl n p⟩]) :: RowsA (some ⟨b6, 0, none⟩) 1 [[.func (.func 113) #[] #[.pointer (some ⟨b4, 0, none⟩), .pointer (some ⟨b6, 0, none⟩)]]] :: RowsA (some ⟨b4, 0, none⟩) 1 [[.pointer (some ⟨bd, 0, none⟩)]] :: KpF m kv :: RowsA (some ⟨bd, 0, none⟩) 18 [dcs b (b.sl ab cb) b.lasts b.most m] :: R) (fun w h => by rw [← g78] at h; exact St.sub (h.del b77)) ?_
        clear e78 g78
        refine spL rfl rfl (lfB (sz := 1) sc123 rfl) rfl ?_
        refine cl rfl cal115 rfl rfl (c_turnings bd false _ _) ?_
        rintro _ _ _ ⟨xb, xf, rfl, rfl, rfl⟩
        refine sy_block ?_
        refine sy_range rfl cal133 (fun c0 bl0 bd0 hcp0 hca0 hcb0 hck0 => ?_)
        refine ⟨fun st pend T R' => st = .ready ∧ pend = none ∧ ∃ (V' : List HSt) (q' : OQ 127 4 (strows (V'.drop (j + 1)))), Bq b.dsk n b.state V' j ∧ V'.take (j + 1) = V.take (j + 1) ∧ V'[j]? = some p ∧ CvK b.dsk n V' p ((b.dsk.trs false).length) ∧ T = (bd0, .deferred (some [])) :: (b11, cel 127 (ints p)) :: (b8, cel 156 [q'.fs]) :: (b9, cel 128 [.map (some m48)]) :: (m48, mapO true (kvL b.dsk n V')) :: (q'.G ++ (o78.G ++ (b1, cel 25 (btl b (b.sl ab cb))) :: (mkh mk ++ H))) ∧ R' = RowsA (some ⟨xf, 0, none⟩) 1 [[.bool false]] :: RowsA (some ⟨xb, 0, none⟩) 1 [[.pointer (some ⟨bd, 0, none⟩)]] :: InW (W ++ [⟨ay, cy, p.take b.bins.length, b.dsk.lvl n p⟩]) :: RowsA (some ⟨b6, 0, none⟩) 1 [[.func (.func 113) #[] #[.pointer (some ⟨b4, 0, none⟩), .pointer (some ⟨b6, 0, none⟩)]]] :: RowsA (some ⟨b4, 0, none⟩) 1 [[.pointer (some ⟨bd, 0, none⟩)]] :: KpF m kv :: RowsA (some ⟨bd, 0, none⟩) 18 [dcs b (b.sl ab cb) b.lasts b.most m] :: R,
          Fn.mono (c_turnings1 b hok ab cb bd m false xb xf bl0 (fun k H' R' => ∃ (V' : List HSt) (q' : OQ 127 4 (strows (V'.drop (j + 1)))), Bq b.dsk n b.state V' j ∧ V'.take (j + 1) = V.take (j + 1) ∧ V'[j]? = some p ∧ CvK b.dsk n V' p (k) ∧ H' = (bl0, lob c0 .ready none) :: (bd0, .deferred (some [])) :: (b11, cel 127 (ints p)) :: (b8, cel 156 [q'.fs]) :: (b9, cel 128 [.map (some m48)]) :: (m48, mapO true (kvL b.dsk n V')) :: (q'.G ++ (o78.G ++ (b1, cel 25 (btl b (b.sl ab cb))) :: (mkh mk ++ H))) ∧ R' = RowsA (some ⟨xf, 0, none⟩) 1 [[.bool false]] :: RowsA (some ⟨xb, 0, none⟩) 1 [[.pointer (some ⟨bd, 0, none⟩)]] :: InW (W ++ [⟨ay, cy, p.take b.bins.length, b.dsk.lvl n p⟩]) :: RowsA (some ⟨b6, 0, none⟩) 1 [[.func (.func 113) #[] #[.pointer (some ⟨b4, 0, none⟩), .pointer (some ⟨b6, 0, none⟩)]]] :: RowsA (some ⟨b4, 0, none⟩) 1 [[.pointer (some ⟨bd, 0, none⟩)]] :: KpF m kv :: RowsA (some ⟨bd, 0, none⟩) 18 [dcs b (b.sl ab cb) b.lasts b.most m] :: R)
            (fun _ _ => False)
            (fun k H' R' h => by obtain ⟨_, _, _, _, _, _, _, rfl⟩ := h; exact ⟨by simp, by simp, by simp⟩) (fun k l a c H' R' hk hI => ?_) _ _ ⟨V, q2, hbq, rfl, hp, fun i l hi => absurd hi (Nat.not_lt_zero _), rfl, rfl⟩) (fun v H' R' h => ?_), ?_⟩
        rotate_left
        · rcases h with ⟨V', q', h1, h2, h3, h4, rfl, rfl⟩ | h
          · exact ⟨.ready, none, _, by simp, .refl _, rfl, rfl, V', q', h1, h2, h3, h4, rfl, rfl⟩
          · exact h.elim
        rotate_left
        have hlm := List.mem_of_getElem? hk
        have hlt := b.dsk.trs_lt hlm
        have hll : l.length ≤ 1000000 := by
          obtain ⟨i, _, rfl⟩ := List.mem_map.1 (List.mem_filter.1 hlm).1
          have := bitl_len b.dsk.n i
          have := hdk.n
          omega
        obtain ⟨V1, q3, hb1, ht1, hp1, hcv, rfl, rfl⟩ := hI
        have hj1 := (List.getElem?_eq_some_iff.1 hp1).1
        have hf1 := hb1.few hdk
        have hp1V := List.mem_of_getElem? hp1
        have hV14 : ∀ s ∈ V1, s.length = 4 := fun s hs => (hb1.sts s hs).len
        refine yd_of hcp0 hca0 hcb0 hck0 rfl ?_
        refine sy_tx' [0] rfl ?_
        refine sp rfl (PE.assign rfl) rfl ?_
        refine sy_beginRound ?_
        refine sy_block ?_
        refine sy_seq ?_
        refine sy_tx' [0, 1, 2, 3, 4, 5, 6, 7, 8, 9] rfl ?_
        refine spL rfl rfl (lfB (sz := 1) sc123 rfl) rfl ?_
        refine spL rfl rfl (lhA (rest := []) (ints p) ag127 rfl (by rw [List.append_nil]; rfl) (by rw [ints_length]; exact hpl)) rfl ?_
        refine sp rfl (PE.move rfl) rfl ?_
        refine cl rfl cal116 rfl rfl (c_next b hok ab cb bd m p hpm l hlt hll a c _ _) ?_
        rintro _ _ _ ⟨rfl, rfl, rfl⟩
        rcases hnx : b.dsk.next p l with _ | t
        refine sp rfl (PE.move rfl) rfl ?_
        refine sp rfl (PE.extract rfl rfl) rfl ?_
        refine sp rfl (PE.extract rfl rfl) rfl ?_
        refine alc rfl zl127 rfl (fun b13 => ?_)
        first | (refine stoA rfl rfl rfl cn127 rfl rfl rfl (ints_one _) ?_) | (refine stoA rfl rfl rfl cn127 rfl (by rw [ints_length]; exact htl) rfl (ints_one _) ?_)
        refine sp rfl (PE.assign rfl) rfl ?_
        refine sy_seq ?_
        refine sy_seq ?_
        refine sy_tx' [0, 1] rfl ?_
        refine sp rfl (PE.move rfl) rfl ?_
        refine sp rfl (PE.not rfl) rfl ?_
        refine sy_condT rfl ?_
        refine sy_exit ?_
        refine sy_tx ?_
        refine sy_bx ?_
        exact sy_roundOn (.inl ⟨rfl, V1, q3, hb1, ht1, hp1, hcv.more hk (fun t ht => by rw [hnx] at ht; cases ht), rfl, rfl⟩) (fun _ h => (h.del b13).ftail)
        refine sp rfl (PE.move rfl) rfl ?_
        have hts := b.dsk.next_inS hdk hps hlt hnx
        have htl := hts.len
        have htlv : b.dsk.lvl n t < b.dsk.lvl n p := kpt_next hdk hps hlm hnx hpk (kpt_of ((b.dsk.mem_sts hdk t).2 hts) hn hfx) (by omega)
        refine sp rfl (PE.extract rfl rfl) rfl ?_
        refine sp rfl (PE.extract rfl rfl) rfl ?_
        refine alc rfl zl127 rfl (fun b13 => ?_)
        first | (refine stoA rfl rfl rfl cn127 rfl rfl rfl (ints_one _) ?_) | (refine stoA rfl rfl rfl cn127 rfl (by rw [ints_length]; exact htl) rfl (ints_one _) ?_)
        refine sp rfl (PE.assign rfl) rfl ?_
        refine sy_seq ?_
        refine sy_seq ?_
        refine sy_tx' [0, 1] rfl ?_
        refine sp rfl (PE.move rfl) rfl ?_
        refine sp rfl (PE.not rfl) rfl ?_
        refine sy_condF rfl ?_
        refine sy_skip ?_
        refine sy_seq ?_
        refine sy_draw [0, 0, 0, 0, 12, 28, 63, 127] (.ld 0 (.ld 1 (.ld 2 (.ld 3 (.ld 4 (.tk 5 (.big 6 (.big 7 .done)))))))) mixed (by kernel_rfl) ?_
        refine ld rfl rfl (lfB (sz := 1) sc155 rfl) rfl ?_
        refine ld rfl rfl (lhA (rest := []) (ints t) ag127 rfl (by rw [List.append_nil]; rfl) (by rw [ints_length]; exact htl)) rfl ?_
        refine ld rfl rfl (lh sc128 rfl rfl) rfl ?_
        refine ld rfl rfl (lhA (rest := []) (ints p) ag127 rfl (by rw [List.append_nil]; rfl) (by rw [ints_length]; exact hpl)) rfl ?_
        refine ldK rfl rfl rfl (lk_factE hpl (kvL_len hV14) (kvL_get hp1V) (heldM (x := m48))) rfl ?_
        refine tk rfl (PE.sub rfl rfl (by omega)) rfl ?_
        refine clF rfl rfl (cal113) rfl rfl (c_raise b hok ab cb bd m n hn kv hkv b4 b6 (b.dsk.lvl n p - 1) t hts _ _) ?_
        rintro _ _ _ ⟨uf, hu, rfl, rfl, rfl⟩
        obtain ⟨u0, u1, u2, u3, rfl⟩ := list4 hu.inS.len
        have hulv : b.dsk.lvl n [u0, u1, u2, u3] < b.dsk.lvl n p := by
          rcases hu.lv with h1 | h1
          · rw [h1]; exact htlv
          · omega
        have hum := (b.dsk.mem_sts hdk _).2 hu.inS
        have hukv := hkv.get _ hum
        have hcvu : ∀ V2 : List HSt, [u0, u1, u2, u3] ∈ V2 → ∀ t2, b.dsk.next p l = some t2 → ∃ u ∈ V2, undP b.dsk.n t2 u = true ∧ b.dsk.lvl n u < b.dsk.lvl n p := fun V2 hm t2 ht2 => by rw [hnx] at ht2; cases ht2; exact ⟨_, hm, hu.le, hulv⟩
        obtain ⟨go, hgo⟩ : ∃ go, (kvL b.dsk n V1).get [u0, u1, u2, u3] = go := ⟨_, rfl⟩
        refine bg (fun w hs => ⟨trivial, trivial, trivial, trivial, trivial, trivial⟩) ?_
        refine stoA rfl rfl rfl cn127 rfl (by rw [ints_length]; rfl) (by rw [ints_length]; exact htl) (ints_one _) ?_
        refine bg (fun w hs => trivial) ?_
        refine sy_seq ?_
        refine sy_tx' [0, 1, 2, 3, 4, 5, 6, 7] rfl ?_
        refine spL rfl rfl (lh sc128 rfl rfl) rfl ?_
        refine spL rfl rfl (lhA (rest := []) (ints [u0, u1, u2, u3]) ag127 rfl (by rw [List.append_nil]; rfl) (by rw [ints_length]; exact rfl)) rfl ?_
        refine spK rfl rfl rfl (lk_held (b := true) (kvL b.dsk n V1) [u0, u1, u2, u3] mke128 (KeyT.of eqf127 noa127) (run_zv zv3) rfl (kvL_len hV14) true) rfl ?_
        rw [hgo]
        refine sp rfl (PE.move rfl) rfl ?_
        refine sp rfl (PE.extract rfl rfl) rfl ?_
        refine sp rfl (PE.extract rfl rfl) rfl ?_
        refine sp rfl (PE.assign rfl) rfl ?_
        refine sp rfl (PE.assign rfl) rfl ?_
        refine sy_seq ?_
        refine sy_draw [0, 1, 3, 7, 7, 23, 55, 119, 7, 503, 1023, 2047] (.tk 0 (.tk 1 (.tk 2 (.tk 3 (.ld 4 (.tk 5 (.tk 6 (.ld 7 (.ld 8 (.ld 9 (.tk 10 (.tk 11 .done)))))))))))) mixed (by kernel_rfl) ?_
        refine tk rfl (PE.move rfl) rfl ?_
        refine tk rfl (PE.not rfl) rfl ?_
        refine tk rfl (PE.move rfl) rfl ?_
        refine sy_case (t := 106) rfl (fun g106 => ?_) (fun g106 => ?_)
        obtain rfl : go = none := by cases go with
          | none => rfl
          | some g => exact absurd g106 (by simp)
        have hun : [u0, u1, u2, u3] ∉ V1 := fun hm => by rw [kvL_get hm] at hgo; cases hgo
        refine tkN rfl rfl rfl rfl rfl rfl rfl rfl ?_
        refine ldN rfl rfl rfl rfl rfl rfl rfl rfl ?_
        repeat refine tkN rfl rfl rfl rfl rfl rfl rfl rfl ?_
        repeat refine ldN rfl rfl rfl rfl rfl rfl rfl rfl ?_
        refine tkN rfl rfl rfl rfl rfl rfl rfl rfl ?_
        refine tk rfl (PE.pick rfl rfl rfl) rfl ?_
        refine sy_condT rfl ?_
        refine sy_seq ?_
        refine sy_draw [0, 0, 0, 4, 12, 28, 0, 124, 255] (.ld 0 (.ld 1 (.ld 2 (.tk 3 (.tk 4 (.ld 5 (.ld 6 (.ld 7 (.big 8 .done))))))))) mixed (by kernel_rfl) ?_
        refine ld rfl rfl (lh sc128 rfl rfl) rfl ?_
        refine ld rfl rfl (lhA (rest := []) (ints [u0, u1, u2, u3]) ag127 rfl (by rw [List.append_nil]; rfl) (by rw [ints_length]; exact rfl)) rfl ?_
        refine ld rfl rfl (lfB (sz := 1) sc123 rfl) rfl ?_
        refine tk rfl (PE.nilCheck rfl) rfl ?_
        refine tk rfl (PE.fieldAddr fo130_3 rfl) rfl ?_
        refine ld rfl rfl (lfB (sz := 18) sc128 (dcs_map hl4 hm4)) rfl ?_
        refine ld rfl rfl (lhA (rest := []) (ints [u0, u1, u2, u3]) ag127 rfl (by rw [List.append_nil]; rfl) (by rw [ints_length]; exact rfl)) rfl ?_
        refine ldK rfl rfl rfl (lk_factE rfl hkv.len hukv (fun w hs => hs.now (MemF.mem (f := KpF m kv)))) rfl ?_
        refine mpu (kvL b.dsk n V1) [u0, u1, u2, u3] (v := .int .i64 (b.dsk.lvl n [u0, u1, u2, u3])) rfl mke128 (KeyT.of eqf127 noa127) rfl rfl rfl rfl (kvL_len hV14) ?_
        rw [kvL_put hun]
        refine bg (fun w hs => ⟨trivial, trivial, trivial, trivial, trivial, trivial, trivial⟩) ?_
        refine sy_tx' [0, 1, 2, 3, 4] rfl ?_
        refine spL rfl rfl (lh sc156 rfl rfl) rfl ?_
        refine spL rfl rfl (lhA (rest := []) (ints [u0, u1, u2, u3]) ag127 rfl (by rw [List.append_nil]; rfl) (by rw [ints_length]; exact rfl)) rfl ?_
        refine bsl (out := [_, _, _, _]) rfl sl156 zl127 rfl rfl rfl rfl rfl rfl (fun b126 => ?_)
        refine apQ q3 rfl ap156 rfl rfl (rowsH (row := ints [u0, u1, u2, u3]) rfl) rfl (by simp) rfl (by rw [strows_len, List.length_drop]; simp only [List.length_singleton]; omega) rfl (fun q4 => ?_)
        refine stoE (l' := [q4.fs]) rfl rfl rfl cn156 rfl rfl rfl rfl (Nat.le_refl _) ?_
        obtain ⟨q5, e5, g5⟩ : ∃ q5 : OQ 127 4 (strows ((V1 ++ [[u0, u1, u2, u3]]).drop (j + 1))), q5.fs = q4.fs ∧ q5.G = q4.G := ⟨q4.cast (strows_add (by omega) _), OQ.cast_fs _ _, OQ.cast_G _ _⟩
        exact sy_roundOn (.inl ⟨rfl, V1 ++ [[u0, u1, u2, u3]], q5, hb1.add (by omega) hu.inS hun (by have := hulv; omega), by rw [List.take_append_of_le_length (by omega)]; exact ht1, by rw [List.getElem?_append_left hj1]; exact hp1, (hcv.add _).more hk (hcvu _ (by simp)), rfl, rfl⟩) (fun _ h => by rw [e5, g5]; exact ((h.del b126).del b13).ftail)
        obtain ⟨g, rfl⟩ : ∃ g, go = some g := by cases go with
          | none => exact absurd g106 (by simp)
          | some g => exact ⟨g, rfl⟩
        have hui : [u0, u1, u2, u3] ∈ V1 := Classical.byContradiction fun hm => by rw [kvL_no hm] at hgo; cases hgo
        obtain rfl : g = .int .i64 (b.dsk.lvl n [u0, u1, u2, u3]) := by rw [kvL_get hui] at hgo; cases hgo; rfl
        refine tkG rfl rfl rfl rfl (PE.move rfl) rfl ?_
        refine ldG rfl rfl rfl rfl rfl (lfB (sz := 1) sc123 rfl) rfl ?_
        refine tkG rfl rfl rfl rfl (PE.nilCheck rfl) rfl ?_
        refine tkG rfl rfl rfl rfl (PE.fieldAddr fo130_3 rfl) rfl ?_
        refine ldG rfl rfl rfl rfl rfl (lfB (sz := 18) sc128 (dcs_map hl4 hm4)) rfl ?_
        refine ldG rfl rfl rfl rfl rfl (lhA (rest := []) (ints [u0, u1, u2, u3]) ag127 rfl (by rw [List.append_nil]; rfl) (by rw [ints_length]; exact rfl)) rfl ?_
        refine ldKG rfl rfl rfl rfl rfl rfl (lk_factE rfl hkv.len hukv (fun w hs => hs.now (MemF.mem (f := KpF m kv)))) rfl ?_
        refine tkG rfl rfl rfl rfl (PE.neq rfl rfl) rfl ?_
        refine tk rfl (PE.pick rfl rfl rfl) rfl ?_
        refine sy_cond rfl (fun hc4 => ?_) (fun hc4 => ?_)
        exact absurd hc4 (by simp)
        refine sy_skip ?_
        exact sy_roundOn (.inl ⟨rfl, V1, q3, hb1, ht1, hp1, hcv.more hk (hcvu V1 hui), rfl, rfl⟩) (fun _ h => (h.del b13).ftail)
        ·
         rintro _ _ _ _ ⟨rfl, rfl, V1, q3, hb1, ht1, hp1, hcv, rfl, rfl⟩
         refine sy_jn ?_
         have hj1 := (List.getElem?_eq_some_iff.1 hp1).1
         have hf1 := hb1.few hdk
         exact sy_nextD ⟨⟨(V1, j + 1, W ++ [⟨ay, cy, p.take b.bins.length, b.dsk.lvl n p⟩], bd0 :: mk), hb1.next hp1 hcv, hj1, by dsimp only; rw [wls_app, hwv, ht1, wlV_snoc hp]; rfl⟩, o78, q3⟩ (by dsimp only; omega) (by repeat' first | exact Sub.nil | apply Sub.cons | rfl | (simp [lk]; omega)) rfl (fun w h => St.sub ((h.del b11).perm ((perm_swap3 [_] [_, _, _] _).trans (List.Perm.append_left [_, _, _] ((List.perm_middle (l₁ := q3.G)).symm.trans (List.Perm.append_left q3.G ((List.perm_middle (l₁ := o78.G)).symm.trans (List.Perm.append_left o78.G (List.Perm.swap _ _ _)))))))))
       try simp only [decide_eq_true_eq, decide_eq_false_iff_not, Bool.and_eq_true, Bool.or_eq_true, Bool.not_eq_true', Int.not_le, Int.not_lt] at hc2
       obtain rfl : j = V.length := by omega
       rw [List.take_of_length_le (Nat.le_refl _)] at hwv
       have hw := hbq.wall hok hn hfx hc1
       rw [← hwv] at hw
       obtain ⟨aw, cw, he, hcw, hf⟩ := o.freezeC
       rw [he, werows_len]
       rw [werows_len] at hcw
       refine sy_exit ?_
       repeat refine sy_tx ?_
       refine sy_bx ?_
       refine sy_seq ?_
       refine sy_tx' [0, 1, 2] rfl ?_
       refine sp rfl (PE.move rfl) rfl ?_
       refine sp rfl (PE.assign rfl) rfl ?_
       refine sp rfl (PE.assign rfl) rfl ?_
       refine sy_ret ?_
       refine Sy.heap (H' := mkh mk ++ H) (R' := RowsA aw 2 (werows W) :: InW W :: R) (fun w h => St.sub (hf ((St.drop (G := q.G) (((h.del m48).del b9).del b8)).del b1))) ?_
       exact sy_returnM mk (fun _ h => h) rfl (.cons (RV.tmp rfl) (.cons (RV.tmp rfl) .nil)) rfl ⟨rfl, .inr (.inr ⟨hck, _, W, aw, cw, hc1, hks, hw, by omega, hcw, rfl, rfl⟩)⟩ (fun w h => h)
    refine sy_alt ?_ ?_
    ·
     refine alc rfl zl156 rfl (fun b8 => ?_)
     refine bg (fun w hs => trivial) ?_
     refine bsl (out := [_, _, _, _]) rfl sl156 zl127 rfl rfl rfl rfl rfl rfl (fun b47 => ?_)
     refine bg (fun w hs => trivial) ?_
     refine sto rfl rfl rfl cn156 rfl rfl rfl rfl ?_
     refine bg (fun w hs => trivial) ?_
     refine sy_seq ?_
     refine sy_cut (ι := {x : (Nat × Nat × Nat × Nat) × HSt // Rz b.dsk n (b.dsk.lvl n b.state) b.state x.2}) (fun x => ⟨[(1, .pointer (some ⟨b1, 0, none⟩)), (4, .pointer (some ⟨b4, 0, none⟩)), (6, .pointer (some ⟨b6, 0, none⟩)), (8, .pointer (some ⟨x.1.1.1, 0, none⟩)), (9, .pointer (some ⟨x.1.1.2.1, 0, none⟩))], (x.1.1.1, cel 156 [.slice (some ⟨x.1.1.2.2.2, 0, none⟩) 1 1]) :: (x.1.1.2.1, cel 128 [.map (some x.1.1.2.2.1)]) :: (x.1.1.2.2.1, mapO true [(x.1.2, .int .i64 (b.dsk.lvl n b.state))]) :: (x.1.1.2.2.2, cel 127 (ints x.1.2)) :: (b1, cel 25 (btl b (b.sl ab cb))) :: H, RowsA (some ⟨b6, 0, none⟩) 1 [[.func (.func 113) #[] #[.pointer (some ⟨b4, 0, none⟩), .pointer (some ⟨b6, 0, none⟩)]]] :: RowsA (some ⟨b4, 0, none⟩) 1 [[.pointer (some ⟨bd, 0, none⟩)]] :: KpF m kv :: RowsA (some ⟨bd, 0, none⟩) 18 [dcs b (b.sl ab cb) b.lasts b.most m] :: R⟩) ?_ ?_
     refine sy_draw [0, 0, 2, 6, 0, 16, 48, 112, 0, 496, 1023, 2047, 0, 8191] (.ld 1 (.tk 2 (.ld 3 (.ld 4 (.tk 5 (.tk 6 (.ld 7 (.ld 8 (.ld 9 (.any (.alt 0 (.any (.alt 10 (.tk 11 (.big 12 (.big 13 .done))) (.alt 12 (.big 10 (.tk 11 (.big 13 .done))) .stop))) (.alt 12 (.big 0 (.big 10 (.tk 11 (.big 13 .done)))) .stop)))))))))))) mixed (by kernel_rfl) ?_
     refine ld rfl rfl (lh sc156 rfl rfl) rfl ?_
     refine tk rfl (PE.indexAddr el156 rfl rfl (by decide) (by decide)) rfl ?_
     refine ld rfl rfl (lhA (rest := []) (ints [f0, f1, f2, f3]) ag127 rfl (by rw [List.append_nil]; rfl) (by rw [ints_length]; exact rfl)) rfl ?_
     refine ld rfl rfl (lfB (sz := 1) sc123 rfl) rfl ?_
     refine tk rfl (PE.nilCheck rfl) rfl ?_
     refine tk rfl (PE.fieldAddr fo130_3 rfl) rfl ?_
     refine ld rfl rfl (lfB (sz := 18) sc128 (dcs_map hl4 hm4)) rfl ?_
     refine ld rfl rfl (lhA (rest := []) (ints b.state) ag127 rfl (by rw [List.append_nil]; rfl) (by rw [ints_length]; exact hsi.len)) rfl ?_
     refine ldK rfl rfl rfl (lk_factE hsi.len hkv.len hkg (fun w hs => hs.now (MemF.mem (f := KpF m kv)))) rfl ?_
     refine sy_alt ?_ ?_
     refine mkm rfl rfl true (fun m48 => ?_)
     refine bg (fun w hs => ⟨(lk_factE hsi.len hkv.len hkg (fun w hs => hs.now (MemF.mem (f := KpF m kv)))) w hs, (lhA (rest := []) (ints b.state) ag127 rfl (by rw [List.append_nil]; rfl) (by rw [ints_length]; exact hsi.len)) w hs, (lfB (sz := 18) sc128 (dcs_map hl4 hm4)) w hs, (lfB (sz := 1) sc123 rfl) w hs, (lhA (rest := []) (ints [f0, f1, f2, f3]) ag127 rfl (by rw [List.append_nil]; rfl) (by rw [ints_length]; exact rfl)) w hs, (lh sc156 rfl rfl) w hs, trivial⟩) ?_
     refine sy_alt ?_ ?_
     refine mpi [] [f0, f1, f2, f3] rfl mke128 (KeyT.of eqf127 noa127) rfl rfl rfl rfl (by simp) ?_
     refine bg (fun w hs => ⟨trivial, trivial, trivial, trivial, trivial, trivial, trivial⟩) ?_
     refine tk rfl (PE.move rfl) rfl ?_
     refine alc rfl zl128 rfl (fun b9 => ?_)
     refine bg (fun w hs => trivial) ?_
     refine sto rfl rfl rfl cn128 rfl rfl rfl rfl ?_
     refine bg (fun w hs => trivial) ?_
     exact sy_cutEnd ⟨((b8, b9, m48, b47), [f0, f1, f2, f3]), huf⟩ (by repeat' first | exact Sub.nil | apply Sub.cons | rfl | (simp [lk]; omega)) (fun w h => (((((h.pull b1).pull b47).pull m48).pull b9).pull b8 |>.del b7))
     refine sy_alt ?_ ?_
     refine alc rfl zl128 rfl (fun b9 => ?_)
     refine bg (fun w hs => ⟨(lk_factE hsi.len hkv.len hkg (fun w hs => hs.now (MemF.mem (f := KpF m kv)))) w hs, (lhA (rest := []) (ints b.state) ag127 rfl (by rw [List.append_nil]; rfl) (by rw [ints_length]; exact hsi.len)) w hs, (lfB (sz := 18) sc128 (dcs_map hl4 hm4)) w hs, (lfB (sz := 1) sc123 rfl) w hs, (lhA (rest := []) (ints [f0, f1, f2, f3]) ag127 rfl (by rw [List.append_nil]; rfl) (by rw [ints_length]; exact rfl)) w hs, (lh sc156 rfl rfl) w hs, trivial⟩) ?_
     refine mpi [] [f0, f1, f2, f3] rfl mke128 (KeyT.of eqf127 noa127) rfl rfl rfl rfl (by simp) ?_
     refine bg (fun w hs => ⟨trivial, trivial, trivial, trivial, trivial, trivial, trivial⟩) ?_
     refine tk rfl (PE.move rfl) rfl ?_
     refine sto rfl rfl rfl cn128 rfl rfl rfl rfl ?_
     refine bg (fun w hs => trivial) ?_
     exact sy_cutEnd ⟨((b8, b9, m48, b47), [f0, f1, f2, f3]), huf⟩ (by repeat' first | exact Sub.nil | apply Sub.cons | rfl | (simp [lk]; omega)) (fun w h => (((((h.pull b1).pull b47).pull m48).pull b9).pull b8 |>.del b7))
     exact sy_stop
     refine sy_alt ?_ ?_
     refine alc rfl zl128 rfl (fun b9 => ?_)
     refine bg (fun w hs => ⟨(lk_factE hsi.len hkv.len hkg (fun w hs => hs.now (MemF.mem (f := KpF m kv)))) w hs, (lhA (rest := []) (ints b.state) ag127 rfl (by rw [List.append_nil]; rfl) (by rw [ints_length]; exact hsi.len)) w hs, (lfB (sz := 18) sc128 (dcs_map hl4 hm4)) w hs, (lfB (sz := 1) sc123 rfl) w hs, (lhA (rest := []) (ints [f0, f1, f2, f3]) ag127 rfl (by rw [List.append_nil]; rfl) (by rw [ints_length]; exact rfl)) w hs, (lh sc156 rfl rfl) w hs, trivial⟩) ?_
     refine mkm rfl rfl true (fun m48 => ?_)
     refine bg (fun w hs => ⟨(lk_factE hsi.len hkv.len hkg (fun w hs => hs.now (MemF.mem (f := KpF m kv)))) w hs, (lhA (rest := []) (ints b.state) ag127 rfl (by rw [List.append_nil]; rfl) (by rw [ints_length]; exact hsi.len)) w hs, (lfB (sz := 18) sc128 (dcs_map hl4 hm4)) w hs, (lfB (sz := 1) sc123 rfl) w hs, (lhA (rest := []) (ints [f0, f1, f2, f3]) ag127 rfl (by rw [List.append_nil]; rfl) (by rw [ints_length]; exact rfl)) w hs, (lh sc156 rfl rfl) w hs, trivial⟩) ?_
     refine mpi [] [f0, f1, f2, f3] rfl mke128 (KeyT.of eqf127 noa127) rfl rfl rfl rfl (by simp) ?_
     refine bg (fun w hs => ⟨trivial, trivial, trivial, trivial, trivial, trivial, trivial⟩) ?_
     refine tk rfl (PE.move rfl) rfl ?_
     refine sto rfl rfl rfl cn128 rfl rfl rfl rfl ?_
     refine bg (fun w hs => trivial) ?_
     exact sy_cutEnd ⟨((b8, b9, m48, b47), [f0, f1, f2, f3]), huf⟩ (by repeat' first | exact Sub.nil | apply Sub.cons | rfl | (simp [lk]; omega)) (fun w h => (((((h.pull b1).pull b47).pull m48).pull b9).pull b8 |>.del b7))
     exact sy_stop
     ·
      rintro ⟨⟨⟨b8, b9, m48, b47⟩, uf⟩, huf⟩
      dsimp only at huf ⊢
      obtain ⟨f0, f1, f2, f3, rfl⟩ := list4 huf.inS.len
      have hfl : b.dsk.lvl n [f0, f1, f2, f3] = b.dsk.lvl n b.state := by
        have h1 := lvl_mono hdk hn hfx hsi huf.inS huf.le
        have h2 := (Bq.start huf).lv [f0, f1, f2, f3] (by simp)
        omega
      refine sy_seq ?_
      refine sy_tx' [0] rfl ?_
      refine sp rfl (PE.assign rfl) rfl ?_
      refine sy_seq ?_
      refine sy_block ?_
      obtain ⟨q0, hq0, hqG⟩ := OQ.one (e := 127) (sz := 4) b47 (row := ints [f0, f1, f2, f3]) rfl
      obtain ⟨q1, hq1, hqG1⟩ : ∃ q1 : OQ 127 4 (strows (([[f0, f1, f2, f3]] : List HSt).drop 0)), q1.fs = .slice (some ⟨b47, 0, none⟩) 1 1 ∧ q1.G = [(b47, cel 127 (ints [f0, f1, f2, f3]))] := ⟨q0, hq0, hqG⟩
      refine Sy.heap (H' := (b8, cel 156 [q1.fs]) :: (b9, cel 128 [.map (some m48)]) :: (m48, mapO true (kvL b.dsk n [[f0, f1, f2, f3]])) :: (q1.G ++ ((OSl.nil 93 2).G ++ (b1, cel 25 (btl b (b.sl ab cb))) :: (mkh [] ++ H)))) (R' := InW [] :: RowsA (some ⟨b6, 0, none⟩) 1 [[.func (.func 113) #[] #[.pointer (some ⟨b4, 0, none⟩), .pointer (some ⟨b6, 0, none⟩)]]] :: RowsA (some ⟨b4, 0, none⟩) 1 [[.pointer (some ⟨bd, 0, none⟩)]] :: KpF m kv :: RowsA (some ⟨bd, 0, none⟩) 18 [dcs b (b.sl ab cb) b.lasts b.most m] :: R) (fun w h => by
        rw [hq1, hqG1, show kvL b.dsk n [[f0, f1, f2, f3]] = [([f0, f1, f2, f3], .int .i64 (b.dsk.lvl n b.state))] by unfold kvL; simp [hfl]]
        exact St.inw0 (show St ((b8, cel 156 [.slice (some ⟨b47, 0, none⟩) 1 1]) :: (b9, cel 128 [.map (some m48)]) :: (m48, mapO true [([f0, f1, f2, f3], .int .i64 (b.dsk.lvl n b.state))]) :: (b47, cel 127 (ints [f0, f1, f2, f3])) :: (b1, cel 25 (btl b (b.sl ab cb))) :: H) _ w from h)) ?_
      refine sy_loopD (ι := (y : {y : List HSt × Nat × List WE × List Nat // Bq b.dsk n b.state y.1 y.2.1 ∧ y.2.1 ≤ y.1.length ∧ wls y.2.2.1 = wlV b.dsk n (y.1.take y.2.1)}) × (OSl 93 2 (werows y.1.2.2.1) × OQ 127 4 (strows (y.1.1.drop y.1.2.1)))) (fun y => ⟨[(1, .pointer (some ⟨b1, 0, none⟩)), (4, .pointer (some ⟨b4, 0, none⟩)), (6, .pointer (some ⟨b6, 0, none⟩)), (8, .pointer (some ⟨b8, 0, none⟩)), (9, .pointer (some ⟨b9, 0, none⟩)), (10, y.2.1.fs)], mks y.1.1.2.2.2, (b8, cel 156 [y.2.2.fs]) :: (b9, cel 128 [.map (some m48)]) :: (m48, mapO true (kvL b.dsk n y.1.1.1)) :: (y.2.2.G ++ (y.2.1.G ++ (b1, cel 25 (btl b (b.sl ab cb))) :: (mkh y.1.1.2.2.2 ++ H))), InW y.1.1.2.2.1 :: RowsA (some ⟨b6, 0, none⟩) 1 [[.func (.func 113) #[] #[.pointer (some ⟨b4, 0, none⟩), .pointer (some ⟨b6, 0, none⟩)]]] :: RowsA (some ⟨b4, 0, none⟩) 1 [[.pointer (some ⟨bd, 0, none⟩)]] :: KpF m kv :: RowsA (some ⟨bd, 0, none⟩) 18 [dcs b (b.sl ab cb) b.lasts b.most m] :: R⟩) (fun y => b.dsk.nst - y.1.1.2.1) ⟨⟨([[f0, f1, f2, f3]], 0, [], []), Bq.start huf, Nat.zero_le _, rfl⟩, OSl.nil _ _, q1⟩ ?_ (fun y => ?_)
      exact sy_atD (by repeat' first | exact Sub.nil | apply Sub.cons | rfl | (simp [lk]; omega)) rfl (fun _ h => h)
      ·
       obtain ⟨⟨⟨V, j, W, mk⟩, hbq, hjv, hwv⟩, o, q⟩ := y
       dsimp only at hbq hjv hwv o q ⊢
       have hfew := hbq.few hdk
       have hWl : W.length = j := by have := congrArg List.length hwv; unfold wlV at this; rw [wls_len, List.length_map, List.length_take] at this; omega
       have hqs : q.fs = .slice (some ⟨q.b, q.off, none⟩) (V.length - j) q.cap := by unfold OQ.fs; rw [strows_len, List.length_drop]
       rw [hqs]
       refine sy_seq ?_
       refine sy_seq ?_
       refine sy_tx' [0, 1, 2] rfl ?_
       refine spL rfl rfl (lh sc156 rfl rfl) rfl ?_
       refine sp rfl (PE.lenSl isl156 rfl) rfl ?_
       refine sp rfl (PE.gtr rfl rfl) rfl ?_
       refine sy_cond rfl (fun hc2 => ?_) (fun hc2 => ?_)
       ·
        try simp only [decide_eq_true_eq, decide_eq_false_iff_not, Bool.and_eq_true, Bool.or_eq_true, Bool.not_eq_true', Int.not_le, Int.not_lt] at hc2
        obtain ⟨p, hp⟩ : ∃ p, V[j]? = some p := ⟨_, List.getElem?_eq_getElem (by omega)⟩
        have hpV := List.mem_of_getElem? hp
        have hps := hbq.sts p hpV
        have hpl := hps.len
        have hpm := b.dsk.inS_sml hdk hps
        have hplv := hbq.lv p hpV
        have hpk := kpt_of ((b.dsk.mem_sts hdk p).2 hps) hn hfx
        have hpr := kpt_nn hpk
        have hpe : (ints p).length = 4 := by rw [ints_length]; exact hpl
        have hV4 : ∀ s ∈ V, s.length = 4 := fun s hs => (hbq.sts s hs).len
        refine Sy.heap (H' := (b8, cel 156 [.slice (some ⟨q.b, q.off, none⟩) (V.length - j) q.cap]) :: (b9, cel 128 [.map (some m48)]) :: (m48, mapO true (kvL b.dsk n V)) :: (q.b, cel 127 (q.pre ++ ((strows (V.drop j)).flatten ++ q.junk))) :: (o.G ++ (b1, cel 25 (btl b (b.sl ab cb))) :: (mkh mk ++ H))) (fun w h => h) ?_
        have hdr : (q.pre ++ ((strows (V.drop j)).flatten ++ q.junk)).drop (q.off + (0 : Int).toNat * 4) = ints p ++ ((strows (V.drop (j + 1))).flatten ++ q.junk) := by
          have hfl : (strows (V.drop j)).flatten = ints p ++ (strows (V.drop (j + 1))).flatten := by rw [strows_drop hp, List.flatten_cons]
          rw [hfl, show q.off + (0 : Int).toNat * 4 = q.pre.length by rw [q.pl]; simp, List.drop_left, List.append_assoc]
        obtain ⟨q2, hq2, hqG2⟩ := (q.cast (strows_drop hp)).pop
        have hqc : (q.cast (strows_drop hp)).b = q.b ∧ (q.cast (strows_drop hp)).off = q.off ∧ (q.cast (strows_drop hp)).cap = q.cap := by
          generalize strows_drop hp = e
          generalize ints p :: strows (V.drop (j + 1)) = r at e
          subst e; exact ⟨rfl, rfl, rfl⟩
        rw [hqc.1, hqc.2.1, hqc.2.2, strows_len, List.length_drop] at hq2
        rw [OQ.cast_G] at hqG2
        refine sy_skip ?_
        refine sy_block ?_
        refine sy_seq ?_
        refine sy_tx' [0, 1, 2, 3, 4] rfl ?_
        refine spL rfl rfl (lh sc156 rfl rfl) rfl ?_
        refine sp rfl (PE.indexAddr el156 rfl rfl (by omega) (by omega)) rfl ?_
        refine spL rfl rfl (lhA (ints p) ag127 rfl hdr hpe) rfl ?_
        refine alc rfl zl127 rfl (fun b11 => ?_)
        refine stoA rfl rfl rfl cn127 rfl (by rw [ints_length]; exact hpl) rfl (ints_one _) ?_
        refine sy_seq ?_
        refine sy_tx' [0, 1, 2] rfl ?_
        refine spL rfl rfl (lh sc156 rfl rfl) rfl ?_
        refine sp rfl (PE.slLoA (l := 1) sl156 rfl rfl (by omega)) rfl ?_
        have hq2e : Value.slice (if q.cap = 1 then some ⟨q.b, q.off, none⟩ else (some (⟨q.b, q.off, none⟩ : Addr)).map (·.add (1 * 4))) (V.length - j - 1) (q.cap - 1) = q2.fs := by
          rw [hq2, Option.map_some, addr_add, show V.length - (j + 1) = V.length - j - 1 by omega]
        rw [hq2e]
        refine stoE (l' := [q2.fs]) rfl rfl rfl cn156 rfl rfl rfl rfl (Nat.le_refl _) ?_
        refine Sy.heap (H' := (b11, cel 127 (ints p)) :: (b8, cel 156 [q2.fs]) :: (b9, cel 128 [.map (some m48)]) :: (m48, mapO true (kvL b.dsk n V)) :: (q2.G ++ (o.G ++ (b1, cel 25 (btl b (b.sl ab cb))) :: (mkh mk ++ H)))) (fun w h => by rw [hqG2]; exact h) ?_
        refine sy_seq ?_
        refine sy_draw [0, 0, 2, 6, 14, 30, 0, 0, 192, 510, 1022, 2047, 4095] (.tk 0 (.tk 1 (.ld 2 (.tk 3 (.tk 4 (.ld 6 (.ld 7 (.ld 8 (.big 5 (.tk 9 (.big 10 (.big 11 (.tk 12 .done))))))))))))) mixed (by kernel_rfl) ?_
        refine tk rfl (PE.move rfl) rfl ?_
        refine tk rfl (PE.fieldAddr fo25_3 rfl) rfl ?_
        refine ld rfl rfl (lh sc23 rfl rfl) rfl ?_
        refine tk rfl (PE.lenSl isl23 rfl) rfl ?_
        refine tk rfl (PE.slArrHi (h := b.bins.length) ar127 rfl rfl (by omega)) rfl ?_
        refine ld rfl rfl (lh sc128 rfl rfl) rfl ?_
        refine ld rfl rfl (lhA (rest := []) (ints p) ag127 rfl (by rw [List.append_nil]; rfl) (by rw [ints_length]; exact hpl)) rfl ?_
        refine ldK rfl rfl rfl (lk_factE hpl (kvL_len hV4) (kvL_get hpV) (heldM (x := m48))) rfl ?_
        refine cl rfl cal114 rfl rfl (c_Clone b11 127 b.bins.length 4 p (by omega) (by omega) _ _) ?_
        rintro _ _ _ ⟨ol, rfl, rfl, rfl⟩
        obtain ⟨ay, cy, he, hf⟩ := ol.freeze
        rw [he, irows_len]
        refine Sy.heap (fun w h => hf h) ?_
        clear he hf
        refine bg (fun w hs => ⟨(lk_factE hpl (kvL_len hV4) (kvL_get hpV) (heldM (x := m48))) w hs, (lhA (rest := []) (ints p) ag127 rfl (by rw [List.append_nil]; rfl) (by rw [ints_length]; exact hpl)) w hs, (lh sc128 rfl rfl) w hs, trivial, trivial⟩) ?_
        refine tk rfl (PE.build (out := [_, _]) pl93 zl93 rfl rfl) rfl ?_
        refine bsl (out := [_, _]) rfl sl91 zl93 rfl rfl rfl rfl rfl rfl (fun b77 => ?_)
        refine bg (fun w hs => ⟨trivial, trivial, trivial, trivial⟩) ?_
        refine apO (o) rfl ap91 rfl rfl (rowsH (row := werow ⟨ay, cy, p.take b.bins.length, b.dsk.lvl n p⟩) rfl) rfl rfl ((by rw [werows_len]; simp only [List.length_singleton]; omega)) rfl (fun o78 => ?_)
        refine bg (fun w hs => trivial) ?_
        refine tk rfl (PE.assign rfl) rfl ?_
        refine sy_seq ?_
        refine sy_tx' [0, 1] rfl ?_
        refine Sy.heap (fun w h => St.inwSnoc (l := W) ⟨ay, cy, p.take b.bins.length, b.dsk.lvl n p⟩ h) ?_
        obtain ⟨o78, e78, g78⟩ : ∃ o' : OSl 93 2 (werows (W ++ [⟨ay, cy, p.take b.bins.length, b.dsk.lvl n p⟩])), o'.fs = o78.fs ∧ o'.G = o78.G := ⟨o78.cast (by rw [werows_app]; rfl), rfl, rfl⟩
        rw [← e78]
        refine Sy.heap (H' := (b11, cel 127 (ints p)) :: (b8, cel 156 [q2.fs]) :: (b9, cel 128 [.map (some m48)]) :: (m48, mapO true (kvL b.dsk n V)) :: (q2.G ++ (o78.G ++ (b1, cel 25 (btl b (b.sl ab cb))) :: (mkh mk ++ H)))) (R' := InW (W ++ [⟨ay, cy, p.take b.bins.length, b.dsk.lvl n p⟩]) :: RowsA (some ⟨b6, 0, none⟩) 1 [[.func (.func 113) #[] #[.pointer (some ⟨b4, 0, none⟩), .pointer (some ⟨b6, 0, none⟩)]]] :: RowsA (some ⟨b4, 0, none⟩) 1 [[.pointer (some ⟨bd, 0, none⟩)]] :: KpF m kv :: RowsA (some ⟨bd, 0, none⟩) 18 [dcs b (b.sl ab cb) b.lasts b.most m] :: R) (fun w h => by rw [← g78] at h; exact St.sub (h.del b77)) ?_
        clear e78 g78
        refine spL rfl rfl (lfB (sz := 1) sc123 rfl) rfl ?_
        refine cl rfl cal115 rfl rfl (c_turnings bd false _ _) ?_
        rintro _ _ _ ⟨xb, xf, rfl, rfl, rfl⟩
        refine sy_block ?_
        refine sy_range rfl cal133 (fun c0 bl0 bd0 hcp0 hca0 hcb0 hck0 => ?_)
        refine ⟨fun st pend T R' => st = .ready ∧ pend = none ∧ ∃ (V' : List HSt) (q' : OQ 127 4 (strows (V'.drop (j + 1)))), Bq b.dsk n b.state V' j ∧ V'.take (j + 1) = V.take (j + 1) ∧ V'[j]? = some p ∧ CvK b.dsk n V' p ((b.dsk.trs false).length) ∧ T = (bd0, .deferred (some [])) :: (b11, cel 127 (ints p)) :: (b8, cel 156 [q'.fs]) :: (b9, cel 128 [.map (some m48)]) :: (m48, mapO true (kvL b.dsk n V')) :: (q'.G ++ (o78.G ++ (b1, cel 25 (btl b (b.sl ab cb))) :: (mkh mk ++ H))) ∧ R' = RowsA (some ⟨xf, 0, none⟩) 1 [[.bool false]] :: RowsA (some ⟨xb, 0, none⟩) 1 [[.pointer (some ⟨bd, 0, none⟩)]] :: InW (W ++ [⟨ay, cy, p.take b.bins.length, b.dsk.lvl n p⟩]) :: RowsA (some ⟨b6, 0, none⟩) 1 [[.func (.func 113) #[] #[.pointer (some ⟨b4, 0, none⟩), .pointer (some ⟨b6, 0, none⟩)]]] :: RowsA (some ⟨b4, 0, none⟩) 1 [[.pointer (some ⟨bd, 0, none⟩)]] :: KpF m kv :: RowsA (some ⟨bd, 0, none⟩) 18 [dcs b (b.sl ab cb) b.lasts b.most m] :: R,
          Fn.mono (c_turnings1 b hok ab cb bd m false xb xf bl0 (fun k H' R' => ∃ (V' : List HSt) (q' : OQ 127 4 (strows (V'.drop (j + 1)))), Bq b.dsk n b.state V' j ∧ V'.take (j + 1) = V.take (j + 1) ∧ V'[j]? = some p ∧ CvK b.dsk n V' p (k) ∧ H' = (bl0, lob c0 .ready none) :: (bd0, .deferred (some [])) :: (b11, cel 127 (ints p)) :: (b8, cel 156 [q'.fs]) :: (b9, cel 128 [.map (some m48)]) :: (m48, mapO true (kvL b.dsk n V')) :: (q'.G ++ (o78.G ++ (b1, cel 25 (btl b (b.sl ab cb))) :: (mkh mk ++ H))) ∧ R' = RowsA (some ⟨xf, 0, none⟩) 1 [[.bool false]] :: RowsA (some ⟨xb, 0, none⟩) 1 [[.pointer (some ⟨bd, 0, none⟩)]] :: InW (W ++ [⟨ay, cy, p.take b.bins.length, b.dsk.lvl n p⟩]) :: RowsA (some ⟨b6, 0, none⟩) 1 [[.func (.func 113) #[] #[.pointer (some ⟨b4, 0, none⟩), .pointer (some ⟨b6, 0, none⟩)]]] :: RowsA (some ⟨b4, 0, none⟩) 1 [[.pointer (some ⟨bd, 0, none⟩)]] :: KpF m kv :: RowsA (some ⟨bd, 0, none⟩) 18 [dcs b (b.sl ab cb) b.lasts b.most m] :: R)
            (fun _ _ => False)
            (fun k H' R' h => by obtain ⟨_, _, _, _, _, _, _, rfl⟩ := h; exact ⟨by simp, by simp, by simp⟩) (fun k l a c H' R' hk hI => ?_) _ _ ⟨V, q2, hbq, rfl, hp, fun i l hi => absurd hi (Nat.not_lt_zero _), rfl, rfl⟩) (fun v H' R' h => ?_), ?_⟩
        rotate_left
        · rcases h with ⟨V', q', h1, h2, h3, h4, rfl, rfl⟩ | h
          · exact ⟨.ready, none, _, by simp, .refl _, rfl, rfl, V', q', h1, h2, h3, h4, rfl, rfl⟩
          · exact h.elim
        rotate_left
        have hlm := List.mem_of_getElem? hk
        have hlt := b.dsk.trs_lt hlm
        have hll : l.length ≤ 1000000 := by
          obtain ⟨i, _, rfl⟩ := List.mem_map.1 (List.mem_filter.1 hlm).1
          have := bitl_len b.dsk.n i
          have := hdk.n
          omega
        obtain ⟨V1, q3, hb1, ht1, hp1, hcv, rfl, rfl⟩ := hI
        have hj1 := (List.getElem?_eq_some_iff.1 hp1).1
        have hf1 := hb1.few hdk
        have hp1V := List.mem_of_getElem? hp1
        have hV14 : ∀ s ∈ V1, s.length = 4 := fun s hs => (hb1.sts s hs).len
        refine yd_of hcp0 hca0 hcb0 hck0 rfl ?_
        refine sy_tx' [0] rfl ?_
        refine sp rfl (PE.assign rfl) rfl ?_
        refine sy_beginRound ?_
        refine sy_block ?_
        refine sy_seq ?_
        refine sy_tx' [0, 1, 2, 3, 4, 5, 6, 7, 8, 9] rfl ?_
        refine spL rfl rfl (lfB (sz := 1) sc123 rfl) rfl ?_
        refine spL rfl rfl (lhA (rest := []) (ints p) ag127 rfl (by rw [List.append_nil]; rfl) (by rw [ints_length]; exact hpl)) rfl ?_
        refine sp rfl (PE.move rfl) rfl ?_
        refine cl rfl cal116 rfl rfl (c_next b hok ab cb bd m p hpm l hlt hll a c _ _) ?_
        rintro _ _ _ ⟨rfl, rfl, rfl⟩
        rcases hnx : b.dsk.next p l with _ | t
        refine sp rfl (PE.move rfl) rfl ?_
        refine sp rfl (PE.extract rfl rfl) rfl ?_
        refine sp rfl (PE.extract rfl rfl) rfl ?_
        refine alc rfl zl127 rfl (fun b13 => ?_)
        first | (refine stoA rfl rfl rfl cn127 rfl rfl rfl (ints_one _) ?_) | (refine stoA rfl rfl rfl cn127 rfl (by rw [ints_length]; exact htl) rfl (ints_one _) ?_)
        refine sp rfl (PE.assign rfl) rfl ?_
        refine sy_seq ?_
        refine sy_seq ?_
        refine sy_tx' [0, 1] rfl ?_
        refine sp rfl (PE.move rfl) rfl ?_
        refine sp rfl (PE.not rfl) rfl ?_
        refine sy_condT rfl ?_
        refine sy_exit ?_
        refine sy_tx ?_
        refine sy_bx ?_
        exact sy_roundOn (.inl ⟨rfl, V1, q3, hb1, ht1, hp1, hcv.more hk (fun t ht => by rw [hnx] at ht; cases ht), rfl, rfl⟩) (fun _ h => (h.del b13).ftail)
        refine sp rfl (PE.move rfl) rfl ?_
        have hts := b.dsk.next_inS hdk hps hlt hnx
        have htl := hts.len
        have htlv : b.dsk.lvl n t < b.dsk.lvl n p := kpt_next hdk hps hlm hnx hpk (kpt_of ((b.dsk.mem_sts hdk t).2 hts) hn hfx) (by omega)
        refine sp rfl (PE.extract rfl rfl) rfl ?_
        refine sp rfl (PE.extract rfl rfl) rfl ?_
        refine alc rfl zl127 rfl (fun b13 => ?_)
        first | (refine stoA rfl rfl rfl cn127 rfl rfl rfl (ints_one _) ?_) | (refine stoA rfl rfl rfl cn127 rfl (by rw [ints_length]; exact htl) rfl (ints_one _) ?_)
        refine sp rfl (PE.assign rfl) rfl ?_
        refine sy_seq ?_
        refine sy_seq ?_
        refine sy_tx' [0, 1] rfl ?_
        refine sp rfl (PE.move rfl) rfl ?_
        refine sp rfl (PE.not rfl) rfl ?_
        refine sy_condF rfl ?_
        refine sy_skip ?_
        refine sy_seq ?_
        refine sy_draw [0, 0, 0, 0, 12, 28, 63, 127] (.ld 0 (.ld 1 (.ld 2 (.ld 3 (.ld 4 (.tk 5 (.big 6 (.big 7 .done)))))))) mixed (by kernel_rfl) ?_
        refine ld rfl rfl (lfB (sz := 1) sc155 rfl) rfl ?_
        refine ld rfl rfl (lhA (rest := []) (ints t) ag127 rfl (by rw [List.append_nil]; rfl) (by rw [ints_length]; exact htl)) rfl ?_
        refine ld rfl rfl (lh sc128 rfl rfl) rfl ?_
        refine ld rfl rfl (lhA (rest := []) (ints p) ag127 rfl (by rw [List.append_nil]; rfl) (by rw [ints_length]; exact hpl)) rfl ?_
        refine ldK rfl rfl rfl (lk_factE hpl (kvL_len hV14) (kvL_get hp1V) (heldM (x := m48))) rfl ?_
        refine tk rfl (PE.sub rfl rfl (by omega)) rfl ?_
        refine clF rfl rfl (cal113) rfl rfl (c_raise b hok ab cb bd m n hn kv hkv b4 b6 (b.dsk.lvl n p - 1) t hts _ _) ?_
        rintro _ _ _ ⟨uf, hu, rfl, rfl, rfl⟩
        obtain ⟨u0, u1, u2, u3, rfl⟩ := list4 hu.inS.len
        have hulv : b.dsk.lvl n [u0, u1, u2, u3] < b.dsk.lvl n p := by
          rcases hu.lv with h1 | h1
          · rw [h1]; exact htlv
          · omega
        have hum := (b.dsk.mem_sts hdk _).2 hu.inS
        have hukv := hkv.get _ hum
        have hcvu : ∀ V2 : List HSt, [u0, u1, u2, u3] ∈ V2 → ∀ t2, b.dsk.next p l = some t2 → ∃ u ∈ V2, undP b.dsk.n t2 u = true ∧ b.dsk.lvl n u < b.dsk.lvl n p := fun V2 hm t2 ht2 => by rw [hnx] at ht2; cases ht2; exact ⟨_, hm, hu.le, hulv⟩
        obtain ⟨go, hgo⟩ : ∃ go, (kvL b.dsk n V1).get [u0, u1, u2, u3] = go := ⟨_, rfl⟩
        refine bg (fun w hs => ⟨trivial, trivial, trivial, trivial, trivial, trivial⟩) ?_
        refine stoA rfl rfl rfl cn127 rfl (by rw [ints_length]; rfl) (by rw [ints_length]; exact htl) (ints_one _) ?_
        refine bg (fun w hs => trivial) ?_
        refine sy_seq ?_
        refine sy_tx' [0, 1, 2, 3, 4, 5, 6, 7] rfl ?_
        refine spL rfl rfl (lh sc128 rfl rfl) rfl ?_
        refine spL rfl rfl (lhA (rest := []) (ints [u0, u1, u2, u3]) ag127 rfl (by rw [List.append_nil]; rfl) (by rw [ints_length]; exact rfl)) rfl ?_
        refine spK rfl rfl rfl (lk_held (b := true) (kvL b.dsk n V1) [u0, u1, u2, u3] mke128 (KeyT.of eqf127 noa127) (run_zv zv3) rfl (kvL_len hV14) true) rfl ?_
        rw [hgo]
        refine sp rfl (PE.move rfl) rfl ?_
        refine sp rfl (PE.extract rfl rfl) rfl ?_
        refine sp rfl (PE.extract rfl rfl) rfl ?_
        refine sp rfl (PE.assign rfl) rfl ?_
        refine sp rfl (PE.assign rfl) rfl ?_
        refine sy_seq ?_
        refine sy_draw [0, 1, 3, 7, 7, 23, 55, 119, 7, 503, 1023, 2047] (.tk 0 (.tk 1 (.tk 2 (.tk 3 (.ld 4 (.tk 5 (.tk 6 (.ld 7 (.ld 8 (.ld 9 (.tk 10 (.tk 11 .done)))))))))))) mixed (by kernel_rfl) ?_
        refine tk rfl (PE.move rfl) rfl ?_
        refine tk rfl (PE.not rfl) rfl ?_
        refine tk rfl (PE.move rfl) rfl ?_
        refine sy_case (t := 106) rfl (fun g106 => ?_) (fun g106 => ?_)
        obtain rfl : go = none := by cases go with
          | none => rfl
          | some g => exact absurd g106 (by simp)
        have hun : [u0, u1, u2, u3] ∉ V1 := fun hm => by rw [kvL_get hm] at hgo; cases hgo
        refine tkN rfl rfl rfl rfl rfl rfl rfl rfl ?_
        refine ldN rfl rfl rfl rfl rfl rfl rfl rfl ?_
        repeat refine tkN rfl rfl rfl rfl rfl rfl rfl rfl ?_
        repeat refine ldN rfl rfl rfl rfl rfl rfl rfl rfl ?_
        refine tkN rfl rfl rfl rfl rfl rfl rfl rfl ?_
        refine tk rfl (PE.pick rfl rfl rfl) rfl ?_
        refine sy_condT rfl ?_
        refine sy_seq ?_
        refine sy_draw [0, 0, 0, 4, 12, 28, 0, 124, 255] (.ld 0 (.ld 1 (.ld 2 (.tk 3 (.tk 4 (.ld 5 (.ld 6 (.ld 7 (.big 8 .done))))))))) mixed (by kernel_rfl) ?_
        refine ld rfl rfl (lh sc128 rfl rfl) rfl ?_
        refine ld rfl rfl (lhA (rest := []) (ints [u0, u1, u2, u3]) ag127 rfl (by rw [List.append_nil]; rfl) (by rw [ints_length]; exact rfl)) rfl ?_
        refine ld rfl rfl (lfB (sz := 1) sc123 rfl) rfl ?_
        refine tk rfl (PE.nilCheck rfl) rfl ?_
        refine tk rfl (PE.fieldAddr fo130_3 rfl) rfl ?_
        refine ld rfl rfl (lfB (sz := 18) sc128 (dcs_map hl4 hm4)) rfl ?_
        refine ld rfl rfl (lhA (rest := []) (ints [u0, u1, u2, u3]) ag127 rfl (by rw [List.append_nil]; rfl) (by rw [ints_length]; exact rfl)) rfl ?_
        refine ldK rfl rfl rfl (lk_factE rfl hkv.len hukv (fun w hs => hs.now (MemF.mem (f := KpF m kv)))) rfl ?_
        refine mpu (kvL b.dsk n V1) [u0, u1, u2, u3] (v := .int .i64 (b.dsk.lvl n [u0, u1, u2, u3])) rfl mke128 (KeyT.of eqf127 noa127) rfl rfl rfl rfl (kvL_len hV14) ?_
        rw [kvL_put hun]
        refine bg (fun w hs => ⟨trivial, trivial, trivial, trivial, trivial, trivial, trivial⟩) ?_
        refine sy_tx' [0, 1, 2, 3, 4] rfl ?_
        refine spL rfl rfl (lh sc156 rfl rfl) rfl ?_
        refine spL rfl rfl (lhA (rest := []) (ints [u0, u1, u2, u3]) ag127 rfl (by rw [List.append_nil]; rfl) (by rw [ints_length]; exact rfl)) rfl ?_
        refine bsl (out := [_, _, _, _]) rfl sl156 zl127 rfl rfl rfl rfl rfl rfl (fun b126 => ?_)
        refine apQ q3 rfl ap156 rfl rfl (rowsH (row := ints [u0, u1, u2, u3]) rfl) rfl (by simp) rfl (by rw [strows_len, List.length_drop]; simp only [List.length_singleton]; omega) rfl (fun q4 => ?_)
        refine stoE (l' := [q4.fs]) rfl rfl rfl cn156 rfl rfl rfl rfl (Nat.le_refl _) ?_
        obtain ⟨q5, e5, g5⟩ : ∃ q5 : OQ 127 4 (strows ((V1 ++ [[u0, u1, u2, u3]]).drop (j + 1))), q5.fs = q4.fs ∧ q5.G = q4.G := ⟨q4.cast (strows_add (by omega) _), OQ.cast_fs _ _, OQ.cast_G _ _⟩
        exact sy_roundOn (.inl ⟨rfl, V1 ++ [[u0, u1, u2, u3]], q5, hb1.add (by omega) hu.inS hun (by have := hulv; omega), by rw [List.take_append_of_le_length (by omega)]; exact ht1, by rw [List.getElem?_append_left hj1]; exact hp1, (hcv.add _).more hk (hcvu _ (by simp)), rfl, rfl⟩) (fun _ h => by rw [e5, g5]; exact ((h.del b126).del b13).ftail)
        obtain ⟨g, rfl⟩ : ∃ g, go = some g := by cases go with
          | none => exact absurd g106 (by simp)
          | some g => exact ⟨g, rfl⟩
        have hui : [u0, u1, u2, u3] ∈ V1 := Classical.byContradiction fun hm => by rw [kvL_no hm] at hgo; cases hgo
        obtain rfl : g = .int .i64 (b.dsk.lvl n [u0, u1, u2, u3]) := by rw [kvL_get hui] at hgo; cases hgo; rfl
        refine tkG rfl rfl rfl rfl (PE.move rfl) rfl ?_
        refine ldG rfl rfl rfl rfl rfl (lfB (sz := 1) sc123 rfl) rfl ?_
        refine tkG rfl rfl rfl rfl (PE.nilCheck rfl) rfl ?_
        refine tkG rfl rfl rfl rfl (PE.fieldAddr fo130_3 rfl) rfl ?_
        refine ldG rfl rfl rfl rfl rfl (lfB (sz := 18) sc128 (dcs_map hl4 hm4)) rfl ?_
        refine ldG rfl rfl rfl rfl rfl (lhA (rest := []) (ints [u0, u1, u2, u3]) ag127 rfl (by rw [List.append_nil]; rfl) (by rw [ints_length]; exact rfl)) rfl ?_
        refine ldKG rfl rfl rfl rfl rfl rfl (lk_factE rfl hkv.len hukv (fun w hs => hs.now (MemF.mem (f := KpF m kv)))) rfl ?_
        refine tkG rfl rfl rfl rfl (PE.neq rfl rfl) rfl ?_
        refine tk rfl (PE.pick rfl rfl rfl) rfl ?_
        refine sy_cond rfl (fun hc4 => ?_) (fun hc4 => ?_)
        exact absurd hc4 (by simp)
        refine sy_skip ?_
        exact sy_roundOn (.inl ⟨rfl, V1, q3, hb1, ht1, hp1, hcv.more hk (hcvu V1 hui), rfl, rfl⟩) (fun _ h => (h.del b13).ftail)
        ·
         rintro _ _ _ _ ⟨rfl, rfl, V1, q3, hb1, ht1, hp1, hcv, rfl, rfl⟩
         refine sy_jn ?_
         have hj1 := (List.getElem?_eq_some_iff.1 hp1).1
         have hf1 := hb1.few hdk
         exact sy_nextD ⟨⟨(V1, j + 1, W ++ [⟨ay, cy, p.take b.bins.length, b.dsk.lvl n p⟩], bd0 :: mk), hb1.next hp1 hcv, hj1, by dsimp only; rw [wls_app, hwv, ht1, wlV_snoc hp]; rfl⟩, o78, q3⟩ (by dsimp only; omega) (by repeat' first | exact Sub.nil | apply Sub.cons | rfl | (simp [lk]; omega)) rfl (fun w h => St.sub ((h.del b11).perm ((perm_swap3 [_] [_, _, _] _).trans (List.Perm.append_left [_, _, _] ((List.perm_middle (l₁ := q3.G)).symm.trans (List.Perm.append_left q3.G ((List.perm_middle (l₁ := o78.G)).symm.trans (List.Perm.append_left o78.G (List.Perm.swap _ _ _)))))))))
       try simp only [decide_eq_true_eq, decide_eq_false_iff_not, Bool.and_eq_true, Bool.or_eq_true, Bool.not_eq_true', Int.not_le, Int.not_lt] at hc2
       obtain rfl : j = V.length := by omega
       rw [List.take_of_length_le (Nat.le_refl _)] at hwv
       have hw := hbq.wall hok hn hfx hc1
       rw [← hwv] at hw
       obtain ⟨aw, cw, he, hcw, hf⟩ := o.freezeC
       rw [he, werows_len]
       rw [werows_len] at hcw
       refine sy_exit ?_
       repeat refine sy_tx ?_
       refine sy_bx ?_
       refine sy_seq ?_
       refine sy_tx' [0, 1, 2] rfl ?_
       refine sp rfl (PE.move rfl) rfl ?_
       refine sp rfl (PE.assign rfl) rfl ?_
       refine sp rfl (PE.assign rfl) rfl ?_
       refine sy_ret ?_
       refine Sy.heap (H' := mkh mk ++ H) (R' := RowsA aw 2 (werows W) :: InW W :: R) (fun w h => St.sub (hf ((St.drop (G := q.G) (((h.del m48).del b9).del b8)).del b1))) ?_
       exact sy_returnM mk (fun _ h => h) rfl (.cons (RV.tmp rfl) (.cons (RV.tmp rfl) .nil)) rfl ⟨rfl, .inr (.inr ⟨hck, _, W, aw, cw, hc1, hks, hw, by omega, hcw, rfl, rfl⟩)⟩ (fun w h => h)
    exact sy_stop
   refine sy_alt ?_ ?_
   ·
    refine alc rfl zl156 rfl (fun b8 => ?_)
    refine bg (fun w hs => ⟨(lk_factE hsi.len hkv.len hkg (fun w hs => hs.now (MemF.mem (f := KpF m kv)))) w hs, (lhA (rest := []) (ints b.state) ag127 rfl (by rw [List.append_nil]; rfl) (by rw [ints_length]; exact hsi.len)) w hs, (lfB (sz := 18) sc128 (dcs_map hl4 hm4)) w hs, (lfB (sz := 1) sc123 rfl) w hs, (lhA (rest := []) (ints b.state) ag127 rfl (by rw [List.append_nil]; rfl) (by rw [ints_length]; exact hsi.len)) w hs, (lfB (sz := 1) sc155 rfl) w hs, trivial⟩) ?_
    refine clF rfl rfl (cal113) rfl rfl (c_raise b hok ab cb bd m n hn kv hkv b4 b6 (b.dsk.lvl n b.state) b.state hsi _ _) ?_
    rintro _ _ _ ⟨uf, huf, rfl, rfl, rfl⟩
    obtain ⟨f0, f1, f2, f3, rfl⟩ := list4 huf.inS.len
    refine bg (fun w hs => ⟨trivial, trivial, trivial, trivial, trivial, trivial, trivial⟩) ?_
    refine bsl (out := [_, _, _, _]) rfl sl156 zl127 rfl rfl rfl rfl rfl rfl (fun b47 => ?_)
    refine bg (fun w hs => trivial) ?_
    refine sto rfl rfl rfl cn156 rfl rfl rfl rfl ?_
    refine bg (fun w hs => trivial) ?_
    refine sy_seq ?_
    refine sy_cut (ι := {x : (Nat × Nat × Nat × Nat) × HSt // Rz b.dsk n (b.dsk.lvl n b.state) b.state x.2}) (fun x => ⟨[(1, .pointer (some ⟨b1, 0, none⟩)), (4, .pointer (some ⟨b4, 0, none⟩)), (6, .pointer (some ⟨b6, 0, none⟩)), (8, .pointer (some ⟨x.1.1.1, 0, none⟩)), (9, .pointer (some ⟨x.1.1.2.1, 0, none⟩))], (x.1.1.1, cel 156 [.slice (some ⟨x.1.1.2.2.2, 0, none⟩) 1 1]) :: (x.1.1.2.1, cel 128 [.map (some x.1.1.2.2.1)]) :: (x.1.1.2.2.1, mapO true [(x.1.2, .int .i64 (b.dsk.lvl n b.state))]) :: (x.1.1.2.2.2, cel 127 (ints x.1.2)) :: (b1, cel 25 (btl b (b.sl ab cb))) :: H, RowsA (some ⟨b6, 0, none⟩) 1 [[.func (.func 113) #[] #[.pointer (some ⟨b4, 0, none⟩), .pointer (some ⟨b6, 0, none⟩)]]] :: RowsA (some ⟨b4, 0, none⟩) 1 [[.pointer (some ⟨bd, 0, none⟩)]] :: KpF m kv :: RowsA (some ⟨bd, 0, none⟩) 18 [dcs b (b.sl ab cb) b.lasts b.most m] :: R⟩) ?_ ?_
    refine sy_draw [0, 0, 2, 6, 0, 16, 48, 112, 0, 496, 1023, 2047, 0, 8191] (.ld 1 (.tk 2 (.ld 3 (.ld 4 (.tk 5 (.tk 6 (.ld 7 (.ld 8 (.ld 9 (.any (.alt 0 (.any (.alt 10 (.tk 11 (.big 12 (.big 13 .done))) (.alt 12 (.big 10 (.tk 11 (.big 13 .done))) .stop))) (.alt 12 (.big 0 (.big 10 (.tk 11 (.big 13 .done)))) .stop)))))))))))) mixed (by kernel_rfl) ?_
    refine ld rfl rfl (lh sc156 rfl rfl) rfl ?_
    refine tk rfl (PE.indexAddr el156 rfl rfl (by decide) (by decide)) rfl ?_
    refine ld rfl rfl (lhA (rest := []) (ints [f0, f1, f2, f3]) ag127 rfl (by rw [List.append_nil]; rfl) (by rw [ints_length]; exact rfl)) rfl ?_
    refine ld rfl rfl (lfB (sz := 1) sc123 rfl) rfl ?_
    refine tk rfl (PE.nilCheck rfl) rfl ?_
    refine tk rfl (PE.fieldAddr fo130_3 rfl) rfl ?_
    refine ld rfl rfl (lfB (sz := 18) sc128 (dcs_map hl4 hm4)) rfl ?_
    refine ld rfl rfl (lhA (rest := []) (ints b.state) ag127 rfl (by rw [List.append_nil]; rfl) (by rw [ints_length]; exact hsi.len)) rfl ?_
    refine ldK rfl rfl rfl (lk_factE hsi.len hkv.len hkg (fun w hs => hs.now (MemF.mem (f := KpF m kv)))) rfl ?_
    refine sy_alt ?_ ?_
    refine mkm rfl rfl true (fun m48 => ?_)
    refine bg (fun w hs => ⟨(lk_factE hsi.len hkv.len hkg (fun w hs => hs.now (MemF.mem (f := KpF m kv)))) w hs, (lhA (rest := []) (ints b.state) ag127 rfl (by rw [List.append_nil]; rfl) (by rw [ints_length]; exact hsi.len)) w hs, (lfB (sz := 18) sc128 (dcs_map hl4 hm4)) w hs, (lfB (sz := 1) sc123 rfl) w hs, (lhA (rest := []) (ints [f0, f1, f2, f3]) ag127 rfl (by rw [List.append_nil]; rfl) (by rw [ints_length]; exact rfl)) w hs, (lh sc156 rfl rfl) w hs, trivial⟩) ?_
    refine sy_alt ?_ ?_
    refine mpi [] [f0, f1, f2, f3] rfl mke128 (KeyT.of eqf127 noa127) rfl rfl rfl rfl (by simp) ?_
    refine bg (fun w hs => ⟨trivial, trivial, trivial, trivial, trivial, trivial, trivial⟩) ?_
    refine tk rfl (PE.move rfl) rfl ?_
    refine alc rfl zl128 rfl (fun b9 => ?_)
    refine bg (fun w hs => trivial) ?_
    refine sto rfl rfl rfl cn128 rfl rfl rfl rfl ?_
    refine bg (fun w hs => trivial) ?_
    exact sy_cutEnd ⟨((b8, b9, m48, b47), [f0, f1, f2, f3]), huf⟩ (by repeat' first | exact Sub.nil | apply Sub.cons | rfl | (simp [lk]; omega)) (fun w h => (((((h.pull b1).pull b47).pull m48).pull b9).pull b8 |>.del b7))
    refine sy_alt ?_ ?_
    refine alc rfl zl128 rfl (fun b9 => ?_)
    refine bg (fun w hs => ⟨(lk_factE hsi.len hkv.len hkg (fun w hs => hs.now (MemF.mem (f := KpF m kv)))) w hs, (lhA (rest := []) (ints b.state) ag127 rfl (by rw [List.append_nil]; rfl) (by rw [ints_length]; exact hsi.len)) w hs, (lfB (sz := 18) sc128 (dcs_map hl4 hm4)) w hs, (lfB (sz := 1) sc123 rfl) w hs, (lhA (rest := []) (ints [f0, f1, f2, f3]) ag127 rfl (by rw [List.append_nil]; rfl) (by rw [ints_length]; exact rfl)) w hs, (lh sc156 rfl rfl) w hs, trivial⟩) ?_
    refine mpi [] [f0, f1, f2, f3] rfl mke128 (KeyT.of eqf127 noa127) rfl rfl rfl rfl (by simp) ?_
    refine bg (fun w hs => ⟨trivial, trivial, trivial, trivial, trivial, trivial, trivial⟩) ?_
    refine tk rfl (PE.move rfl) rfl ?_
    refine sto rfl rfl rfl cn128 rfl rfl rfl rfl ?_
    refine bg (fun w hs => trivial) ?_
    exact sy_cutEnd ⟨((b8, b9, m48, b47), [f0, f1, f2, f3]), huf⟩ (by repeat' first | exact Sub.nil | apply Sub.cons | rfl | (simp [lk]; omega)) (fun w h => (((((h.pull b1).pull b47).pull m48).pull b9).pull b8 |>.del b7))
    exact sy_stop
    refine sy_alt ?_ ?_
    refine alc rfl zl128 rfl (fun b9 => ?_)
    refine bg (fun w hs => ⟨(lk_factE hsi.len hkv.len hkg (fun w hs => hs.now (MemF.mem (f := KpF m kv)))) w hs, (lhA (rest := []) (ints b.state) ag127 rfl (by rw [List.append_nil]; rfl) (by rw [ints_length]; exact hsi.len)) w hs, (lfB (sz := 18) sc128 (dcs_map hl4 hm4)) w hs, (lfB (sz := 1) sc123 rfl) w hs, (lhA (rest := []) (ints [f0, f1, f2, f3]) ag127 rfl (by rw [List.append_nil]; rfl) (by rw [ints_length]; exact rfl)) w hs, (lh sc156 rfl rfl) w hs, trivial⟩) ?_
    refine mkm rfl rfl true (fun m48 => ?_)
    refine bg (fun w hs => ⟨(lk_factE hsi.len hkv.len hkg (fun w hs => hs.now (MemF.mem (f := KpF m kv)))) w hs, (lhA (rest := []) (ints b.state) ag127 rfl (by rw [List.append_nil]; rfl) (by rw [ints_length]; exact hsi.len)) w hs, (lfB (sz := 18) sc128 (dcs_map hl4 hm4)) w hs, (lfB (sz := 1) sc123 rfl) w hs, (lhA (rest := []) (ints [f0, f1, f2, f3]) ag127 rfl (by rw [List.append_nil]; rfl) (by rw [ints_length]; exact rfl)) w hs, (lh sc156 rfl rfl) w hs, trivial⟩) ?_
    refine mpi [] [f0, f1, f2, f3] rfl mke128 (KeyT.of eqf127 noa127) rfl rfl rfl rfl (by simp) ?_
    refine bg (fun w hs => ⟨trivial, trivial, trivial, trivial, trivial, trivial, trivial⟩) ?_
    refine tk rfl (PE.move rfl) rfl ?_
    refine sto rfl rfl rfl cn128 rfl rfl rfl rfl ?_
    refine bg (fun w hs => trivial) ?_
    exact sy_cutEnd ⟨((b8, b9, m48, b47), [f0, f1, f2, f3]), huf⟩ (by repeat' first | exact Sub.nil | apply Sub.cons | rfl | (simp [lk]; omega)) (fun w h => (((((h.pull b1).pull b47).pull m48).pull b9).pull b8 |>.del b7))
    exact sy_stop
    ·
     rintro ⟨⟨⟨b8, b9, m48, b47⟩, uf⟩, huf⟩
     dsimp only at huf ⊢
     obtain ⟨f0, f1, f2, f3, rfl⟩ := list4 huf.inS.len
     have hfl : b.dsk.lvl n [f0, f1, f2, f3] = b.dsk.lvl n b.state := by
       have h1 := lvl_mono hdk hn hfx hsi huf.inS huf.le
       have h2 := (Bq.start huf).lv [f0, f1, f2, f3] (by simp)
       omega
     refine sy_seq ?_
     refine sy_tx' [0] rfl ?_
     refine sp rfl (PE.assign rfl) rfl ?_
     refine sy_seq ?_
     refine sy_block ?_
     obtain ⟨q0, hq0, hqG⟩ := OQ.one (e := 127) (sz := 4) b47 (row := ints [f0, f1, f2, f3]) rfl
     obtain ⟨q1, hq1, hqG1⟩ : ∃ q1 : OQ 127 4 (strows (([[f0, f1, f2, f3]] : List HSt).drop 0)), q1.fs = .slice (some ⟨b47, 0, none⟩) 1 1 ∧ q1.G = [(b47, cel 127 (ints [f0, f1, f2, f3]))] := ⟨q0, hq0, hqG⟩
     refine Sy.heap (H' := (b8, cel 156 [q1.fs]) :: (b9, cel 128 [.map (some m48)]) :: (m48, mapO true (kvL b.dsk n [[f0, f1, f2, f3]])) :: (q1.G ++ ((OSl.nil 93 2).G ++ (b1, cel 25 (btl b (b.sl ab cb))) :: (mkh [] ++ H)))) (R' := InW [] :: RowsA (some ⟨b6, 0, none⟩) 1 [[.func (.func 113) #[] #[.pointer (some ⟨b4, 0, none⟩), .pointer (some ⟨b6, 0, none⟩)]]] :: RowsA (some ⟨b4, 0, none⟩) 1 [[.pointer (some ⟨bd, 0, none⟩)]] :: KpF m kv :: RowsA (some ⟨bd, 0, none⟩) 18 [dcs b (b.sl ab cb) b.lasts b.most m] :: R) (fun w h => by
       rw [hq1, hqG1, show kvL b.dsk n [[f0, f1, f2, f3]] = [([f0, f1, f2, f3], .int .i64 (b.dsk.lvl n b.state))] by unfold kvL; simp [hfl]]
       exact St.inw0 (show St ((b8, cel 156 [.slice (some ⟨b47, 0, none⟩) 1 1]) :: (b9, cel 128 [.map (some m48)]) :: (m48, mapO true [([f0, f1, f2, f3], .int .i64 (b.dsk.lvl n b.state))]) :: (b47, cel 127 (ints [f0, f1, f2, f3])) :: (b1, cel 25 (btl b (b.sl ab cb))) :: H) _ w from h)) ?_
     refine sy_loopD (ι := (y : {y : List HSt × Nat × List WE × List Nat // Bq b.dsk n b.state y.1 y.2.1 ∧ y.2.1 ≤ y.1.length ∧ wls y.2.2.1 = wlV b.dsk n (y.1.take y.2.1)}) × (OSl 93 2 (werows y.1.2.2.1) × OQ 127 4 (strows (y.1.1.drop y.1.2.1)))) (fun y => ⟨[(1, .pointer (some ⟨b1, 0, none⟩)), (4, .pointer (some ⟨b4, 0, none⟩)), (6, .pointer (some ⟨b6, 0, none⟩)), (8, .pointer (some ⟨b8, 0, none⟩)), (9, .pointer (some ⟨b9, 0, none⟩)), (10, y.2.1.fs)], mks y.1.1.2.2.2, (b8, cel 156 [y.2.2.fs]) :: (b9, cel 128 [.map (some m48)]) :: (m48, mapO true (kvL b.dsk n y.1.1.1)) :: (y.2.2.G ++ (y.2.1.G ++ (b1, cel 25 (btl b (b.sl ab cb))) :: (mkh y.1.1.2.2.2 ++ H))), InW y.1.1.2.2.1 :: RowsA (some ⟨b6, 0, none⟩) 1 [[.func (.func 113) #[] #[.pointer (some ⟨b4, 0, none⟩), .pointer (some ⟨b6, 0, none⟩)]]] :: RowsA (some ⟨b4, 0, none⟩) 1 [[.pointer (some ⟨bd, 0, none⟩)]] :: KpF m kv :: RowsA (some ⟨bd, 0, none⟩) 18 [dcs b (b.sl ab cb) b.lasts b.most m] :: R⟩) (fun y => b.dsk.nst - y.1.1.2.1) ⟨⟨([[f0, f1, f2, f3]], 0, [], []), Bq.start huf, Nat.zero_le _, rfl⟩, OSl.nil _ _, q1⟩ ?_ (fun y => ?_)
     exact sy_atD (by repeat' first | exact Sub.nil | apply Sub.cons | rfl | (simp [lk]; omega)) rfl (fun _ h => h)
     ·
      obtain ⟨⟨⟨V, j, W, mk⟩, hbq, hjv, hwv⟩, o, q⟩ := y
      dsimp only at hbq hjv hwv o q ⊢
      have hfew := hbq.few hdk
      have hWl : W.length = j := by have := congrArg List.length hwv; unfold wlV at this; rw [wls_len, List.length_map, List.length_take] at this; omega
      have hqs : q.fs = .slice (some ⟨q.b, q.off, none⟩) (V.length - j) q.cap := by unfold OQ.fs; rw [strows_len, List.length_drop]
      rw [hqs]
      refine sy_seq ?_
      refine sy_seq ?_
      refine sy_tx' [0, 1, 2] rfl ?_
      refine spL rfl rfl (lh sc156 rfl rfl) rfl ?_
      refine sp rfl (PE.lenSl isl156 rfl) rfl ?_
      refine sp rfl (PE.gtr rfl rfl) rfl ?_
      refine sy_cond rfl (fun hc2 => ?_) (fun hc2 => ?_)
      ·
       try simp only [decide_eq_true_eq, decide_eq_false_iff_not, Bool.and_eq_true, Bool.or_eq_true, Bool.not_eq_true', Int.not_le, Int.not_lt] at hc2
       obtain ⟨p, hp⟩ : ∃ p, V[j]? = some p := ⟨_, List.getElem?_eq_getElem (by omega)⟩
       have hpV := List.mem_of_getElem? hp
       have hps := hbq.sts p hpV
       have hpl := hps.len
       have hpm := b.dsk.inS_sml hdk hps
       have hplv := hbq.lv p hpV
       have hpk := kpt_of ((b.dsk.mem_sts hdk p).2 hps) hn hfx
       have hpr := kpt_nn hpk
       have hpe : (ints p).length = 4 := by rw [ints_length]; exact hpl
       have hV4 : ∀ s ∈ V, s.length = 4 := fun s hs => (hbq.sts s hs).len
       refine Sy.heap (H' := (b8, cel 156 [.slice (some ⟨q.b, q.off, none⟩) (V.length - j) q.cap]) :: (b9, cel 128 [.map (some m48)]) :: (m48, mapO true (kvL b.dsk n V)) :: (q.b, cel 127 (q.pre ++ ((strows (V.drop j)).flatten ++ q.junk))) :: (o.G ++ (b1, cel 25 (btl b (b.sl ab cb))) :: (mkh mk ++ H))) (fun w h => h) ?_
       have hdr : (q.pre ++ ((strows (V.drop j)).flatten ++ q.junk)).drop (q.off + (0 : Int).toNat * 4) = ints p ++ ((strows (V.drop (j + 1))).flatten ++ q.junk) := by
         have hfl : (strows (V.drop j)).flatten = ints p ++ (strows (V.drop (j + 1))).flatten := by rw [strows_drop hp, List.flatten_cons]
         rw [hfl, show q.off + (0 : Int).toNat * 4 = q.pre.length by rw [q.pl]; simp, List.drop_left, List.append_assoc]
       obtain ⟨q2, hq2, hqG2⟩ := (q.cast (strows_drop hp)).pop
       have hqc : (q.cast (strows_drop hp)).b = q.b ∧ (q.cast (strows_drop hp)).off = q.off ∧ (q.cast (strows_drop hp)).cap = q.cap := by
         generalize strows_drop hp = e
         generalize ints p :: strows (V.drop (j + 1)) = r at e
         subst e; exact ⟨rfl, rfl, rfl⟩
       rw [hqc.1, hqc.2.1, hqc.2.2, strows_len, List.length_drop] at hq2
       rw [OQ.cast_G] at hqG2
       refine sy_skip ?_
       refine sy_block ?_
       refine sy_seq ?_
       refine sy_tx' [0, 1, 2, 3, 4] rfl ?_
       refine spL rfl rfl (lh sc156 rfl rfl) rfl ?_
       refine sp rfl (PE.indexAddr el156 rfl rfl (by omega) (by omega)) rfl ?_
       refine spL rfl rfl (lhA (ints p) ag127 rfl hdr hpe) rfl ?_
       refine alc rfl zl127 rfl (fun b11 => ?_)
       refine stoA rfl rfl rfl cn127 rfl (by rw [ints_length]; exact hpl) rfl (ints_one _) ?_
       refine sy_seq ?_
       refine sy_tx' [0, 1, 2] rfl ?_
       refine spL rfl rfl (lh sc156 rfl rfl) rfl ?_
       refine sp rfl (PE.slLoA (l := 1) sl156 rfl rfl (by omega)) rfl ?_
       have hq2e : Value.slice (if q.cap = 1 then some ⟨q.b, q.off, none⟩ else (some (⟨q.b, q.off, none⟩ : Addr)).map (·.add (1 * 4))) (V.length - j - 1) (q.cap - 1) = q2.fs := by
         rw [hq2, Option.map_some, addr_add, show V.length - (j + 1) = V.length - j - 1 by omega]
       rw [hq2e]
       refine stoE (l' := [q2.fs]) rfl rfl rfl cn156 rfl rfl rfl rfl (Nat.le_refl _) ?_
       refine Sy.heap (H' := (b11, cel 127 (ints p)) :: (b8, cel 156 [q2.fs]) :: (b9, cel 128 [.map (some m48)]) :: (m48, mapO true (kvL b.dsk n V)) :: (q2.G ++ (o.G ++ (b1, cel 25 (btl b (b.sl ab cb))) :: (mkh mk ++ H)))) (fun w h => by rw [hqG2]; exact h) ?_
       refine sy_seq ?_
       refine sy_draw [0, 0, 2, 6, 14, 30, 0, 0, 192, 510, 1022, 2047, 4095] (.tk 0 (.tk 1 (.ld 2 (.tk 3 (.tk 4 (.ld 6 (.ld 7 (.ld 8 (.big 5 (.tk 9 (.big 10 (.big 11 (.tk 12 .done))))))))))))) mixed (by kernel_rfl) ?_
       refine tk rfl (PE.move rfl) rfl ?_
       refine tk rfl (PE.fieldAddr fo25_3 rfl) rfl ?_
       refine ld rfl rfl (lh sc23 rfl rfl) rfl ?_
       refine tk rfl (PE.lenSl isl23 rfl) rfl ?_
       refine tk rfl (PE.slArrHi (h := b.bins.length) ar127 rfl rfl (by omega)) rfl ?_
       refine ld rfl rfl (lh sc128 rfl rfl) rfl ?_
       refine ld rfl rfl (lhA (rest := []) (ints p) ag127 rfl (by rw [List.append_nil]; rfl) (by rw [ints_length]; exact hpl)) rfl ?_
       refine ldK rfl rfl rfl (lk_factE hpl (kvL_len hV4) (kvL_get hpV) (heldM (x := m48))) rfl ?_
       refine cl rfl cal114 rfl rfl (c_Clone b11 127 b.bins.length 4 p (by omega) (by omega) _ _) ?_
       rintro _ _ _ ⟨ol, rfl, rfl, rfl⟩
       obtain ⟨ay, cy, he, hf⟩ := ol.freeze
       rw [he, irows_len]
       refine Sy.heap (fun w h => hf h) ?_
       clear he hf
       refine bg (fun w hs => ⟨(lk_factE hpl (kvL_len hV4) (kvL_get hpV) (heldM (x := m48))) w hs, (lhA (rest := []) (ints p) ag127 rfl (by rw [List.append_nil]; rfl) (by rw [ints_length]; exact hpl)) w hs, (lh sc128 rfl rfl) w hs, trivial, trivial⟩) ?_
       refine tk rfl (PE.build (out := [_, _]) pl93 zl93 rfl rfl) rfl ?_
       refine bsl (out := [_, _]) rfl sl91 zl93 rfl rfl rfl rfl rfl rfl (fun b77 => ?_)
       refine bg (fun w hs => ⟨trivial, trivial, trivial, trivial⟩) ?_
       refine apO (o) rfl ap91 rfl rfl (rowsH (row := werow ⟨ay, cy, p.take b.bins.length, b.dsk.lvl n p⟩) rfl) rfl rfl ((by rw [werows_len]; simp only [List.length_singleton]; omega)) rfl (fun o78 => ?_)
       refine bg (fun w hs => trivial) ?_
       refine tk rfl (PE.assign rfl) rfl ?_
       refine sy_seq ?_
       refine sy_tx' [0, 1] rfl ?_
       refine Sy.heap (fun w h => St.inwSnoc (l := W) ⟨ay, cy, p.take b.bins.length, b.dsk.lvl n p⟩ h) ?_
       obtain ⟨o78, e78, g78⟩ : ∃ o' : OSl 93 2 (werows (W ++ [⟨ay, cy, p.take b.bins.length, b.dsk.lvl n p⟩])), o'.fs = o78.fs ∧ o'.G = o78.G := ⟨o78.cast (by rw [werows_app]; rfl), rfl, rfl⟩
       rw [← e78]
       refine Sy.heap (H' := (b11, cel 127 (ints p)) :: (b8, cel 156 [q2.fs]) :: (b9, cel 128 [.map (some m48)]) :: (m48, mapO true (kvL b.dsk n V)) :: (q2.G ++ (o78.G ++ (b1, cel 25 (btl b (b.sl ab cb))) :: (mkh mk ++ H)))) (R' := InW (W ++ [⟨ay, cy, p.take b.bins.length, b.dsk.lvl n p⟩]) :: RowsA (some ⟨b6, 0, none⟩) 1 [[.func (.func 113) #[] #[.pointer (some ⟨b4, 0, none⟩), .pointer (some ⟨b6, 0, none⟩)]]] :: RowsA (some ⟨b4, 0, none⟩) 1 [[.pointer (some ⟨bd, 0, none⟩)]] :: KpF m kv :: RowsA (some ⟨bd, 0, none⟩) 18 [dcs b (b.sl ab cb) b.lasts b.most m] :: R) (fun w h => by rw [← g78] at h; exact St.sub (h.del b77)) ?_
       clear e78 g78
       refine spL rfl rfl (lfB (sz := 1) sc123 rfl) rfl ?_
       refine cl rfl cal115 rfl rfl (c_turnings bd false _ _) ?_
       rintro _ _ _ ⟨xb, xf, rfl, rfl, rfl⟩
       refine sy_block ?_
       refine sy_range rfl cal133 (fun c0 bl0 bd0 hcp0 hca0 hcb0 hck0 => ?_)
       refine ⟨fun st pend T R' => st = .ready ∧ pend = none ∧ ∃ (V' : List HSt) (q' : OQ 127 4 (strows (V'.drop (j + 1)))), Bq b.dsk n b.state V' j ∧ V'.take (j + 1) = V.take (j + 1) ∧ V'[j]? = some p ∧ CvK b.dsk n V' p ((b.dsk.trs false).length) ∧ T = (bd0, .deferred (some [])) :: (b11, cel 127 (ints p)) :: (b8, cel 156 [q'.fs]) :: (b9, cel 128 [.map (some m48)]) :: (m48, mapO true (kvL b.dsk n V')) :: (q'.G ++ (o78.G ++ (b1, cel 25 (btl b (b.sl ab cb))) :: (mkh mk ++ H))) ∧ R' = RowsA (some ⟨xf, 0, none⟩) 1 [[.bool false]] :: RowsA (some ⟨xb, 0, none⟩) 1 [[.pointer (some ⟨bd, 0, none⟩)]] :: InW (W ++ [⟨ay, cy, p.take b.bins.length, b.dsk.lvl n p⟩]) :: RowsA (some ⟨b6, 0, none⟩) 1 [[.func (.func 113) #[] #[.pointer (some ⟨b4, 0, none⟩), .pointer (some ⟨b6, 0, none⟩)]]] :: RowsA (some ⟨b4, 0, none⟩) 1 [[.pointer (some ⟨bd, 0, none⟩)]] :: KpF m kv :: RowsA (some ⟨bd, 0, none⟩) 18 [dcs b (b.sl ab cb) b.lasts b.most m] :: R,
         Fn.mono (c_turnings1 b hok ab cb bd m false xb xf bl0 (fun k H' R' => ∃ (V' : List HSt) (q' : OQ 127 4 (strows (V'.drop (j + 1)))), Bq b.dsk n b.state V' j ∧ V'.take (j + 1) = V.take (j + 1) ∧ V'[j]? = some p ∧ CvK b.dsk n V' p (k) ∧ H' = (bl0, lob c0 .ready none) :: (bd0, .deferred (some [])) :: (b11, cel 127 (ints p)) :: (b8, cel 156 [q'.fs]) :: (b9, cel 128 [.map (some m48)]) :: (m48, mapO true (kvL b.dsk n V')) :: (q'.G ++ (o78.G ++ (b1, cel 25 (btl b (b.sl ab cb))) :: (mkh mk ++ H))) ∧ R' = RowsA (some ⟨xf, 0, none⟩) 1 [[.bool false]] :: RowsA (some ⟨xb, 0, none⟩) 1 [[.pointer (some ⟨bd, 0, none⟩)]] :: InW (W ++ [⟨ay, cy, p.take b.bins.length, b.dsk.lvl n p⟩]) :: RowsA (some ⟨b6, 0, none⟩) 1 [[.func (.func 113) #[] #[.pointer (some ⟨b4, 0, none⟩), .pointer (some ⟨b6, 0, none⟩)]]] :: RowsA (some ⟨b4, 0, none⟩) 1 [[.pointer (some ⟨bd, 0, none⟩)]] :: KpF m kv :: RowsA (some ⟨bd, 0, none⟩) 18 [dcs b (b.sl ab cb) b.lasts b.most m] :: R)
           (fun _ _ => False)
           (fun k H' R' h => by obtain ⟨_, _, _, _, _, _, _, rfl⟩ := h; exact ⟨by simp, by simp, by simp⟩) (fun k l a c H' R' hk hI => ?_) _ _ ⟨V, q2, hbq, rfl, hp, fun i l hi => absurd hi (Nat.not_lt_zero _), rfl, rfl⟩) (fun v H' R' h => ?_), ?_⟩
       rotate_left
       · rcases h with ⟨V', q', h1, h2, h3, h4, rfl, rfl⟩ | h
         · exact ⟨.ready, none, _, by simp, .refl _, rfl, rfl, V', q', h1, h2, h3, h4, rfl, rfl⟩
         · exact h.elim
       rotate_left
       have hlm := List.mem_of_getElem? hk
       have hlt := b.dsk.trs_lt hlm
       have hll : l.length ≤ 1000000 := by
         obtain ⟨i, _, rfl⟩ := List.mem_map.1 (List.mem_filter.1 hlm).1
         have := bitl_len b.dsk.n i
         have := hdk.n
         omega
       obtain ⟨V1, q3, hb1, ht1, hp1, hcv, rfl, rfl⟩ := hI
       have hj1 := (List.getElem?_eq_some_iff.1 hp1).1
       have hf1 := hb1.few hdk
       have hp1V := List.mem_of_getElem? hp1
       have hV14 : ∀ s ∈ V1, s.length = 4 := fun s hs => (hb1.sts s hs).len
       refine yd_of hcp0 hca0 hcb0 hck0 rfl ?_
       refine sy_tx' [0] rfl ?_
       refine sp rfl (PE.assign rfl) rfl ?_
       refine sy_beginRound ?_
       refine sy_block ?_
       refine sy_seq ?_
       refine sy_tx' [0, 1, 2, 3, 4, 5, 6, 7, 8, 9] rfl ?_
       refine spL rfl rfl (lfB (sz := 1) sc123 rfl) rfl ?_
       refine spL rfl rfl (lhA (rest := []) (ints p) ag127 rfl (by rw [List.append_nil]; rfl) (by rw [ints_length]; exact hpl)) rfl ?_
       refine sp rfl (PE.move rfl) rfl ?_
       refine cl rfl cal116 rfl rfl (c_next b hok ab cb bd m p hpm l hlt hll a c _ _) ?_
       rintro _ _ _ ⟨rfl, rfl, rfl⟩
       rcases hnx : b.dsk.next p l with _ | t
       refine sp rfl (PE.move rfl) rfl ?_
       refine sp rfl (PE.extract rfl rfl) rfl ?_
       refine sp rfl (PE.extract rfl rfl) rfl ?_
       refine alc rfl zl127 rfl (fun b13 => ?_)
       first | (refine stoA rfl rfl rfl cn127 rfl rfl rfl (ints_one _) ?_) | (refine stoA rfl rfl rfl cn127 rfl (by rw [ints_length]; exact htl) rfl (ints_one _) ?_)
       refine sp rfl (PE.assign rfl) rfl ?_
       refine sy_seq ?_
       refine sy_seq ?_
       refine sy_tx' [0, 1] rfl ?_
       refine sp rfl (PE.move rfl) rfl ?_
       refine sp rfl (PE.not rfl) rfl ?_
       refine sy_condT rfl ?_
       refine sy_exit ?_
       refine sy_tx ?_
       refine sy_bx ?_
       exact sy_roundOn (.inl ⟨rfl, V1, q3, hb1, ht1, hp1, hcv.more hk (fun t ht => by rw [hnx] at ht; cases ht), rfl, rfl⟩) (fun _ h => (h.del b13).ftail)
       refine sp rfl (PE.move rfl) rfl ?_
       have hts := b.dsk.next_inS hdk hps hlt hnx
       have htl := hts.len
       have htlv : b.dsk.lvl n t < b.dsk.lvl n p := kpt_next hdk hps hlm hnx hpk (kpt_of ((b.dsk.mem_sts hdk t).2 hts) hn hfx) (by omega)
       refine sp rfl (PE.extract rfl rfl) rfl ?_
       refine sp rfl (PE.extract rfl rfl) rfl ?_
       refine alc rfl zl127 rfl (fun b13 => ?_)
       first | (refine stoA rfl rfl rfl cn127 rfl rfl rfl (ints_one _) ?_) | (refine stoA rfl rfl rfl cn127 rfl (by rw [ints_length]; exact htl) rfl (ints_one _) ?_)
       refine sp rfl (PE.assign rfl) rfl ?_
       refine sy_seq ?_
       refine sy_seq ?_
       refine sy_tx' [0, 1] rfl ?_
       refine sp rfl (PE.move rfl) rfl ?_
       refine sp rfl (PE.not rfl) rfl ?_
       refine sy_condF rfl ?_
       refine sy_skip ?_
       refine sy_seq ?_
       refine sy_draw [0, 0, 0, 0, 12, 28, 63, 127] (.ld 0 (.ld 1 (.ld 2 (.ld 3 (.ld 4 (.tk 5 (.big 6 (.big 7 .done)))))))) mixed (by kernel_rfl) ?_
       refine ld rfl rfl (lfB (sz := 1) sc155 rfl) rfl ?_
       refine ld rfl rfl (lhA (rest := []) (ints t) ag127 rfl (by rw [List.append_nil]; rfl) (by rw [ints_length]; exact htl)) rfl ?_
       refine ld rfl rfl (lh sc128 rfl rfl) rfl ?_
       refine ld rfl rfl (lhA (rest := []) (ints p) ag127 rfl (by rw [List.append_nil]; rfl) (by rw [ints_length]; exact hpl)) rfl ?_
       refine ldK rfl rfl rfl (lk_factE hpl (kvL_len hV14) (kvL_get hp1V) (heldM (x := m48))) rfl ?_
       refine tk rfl (PE.sub rfl rfl (by omega)) rfl ?_
       refine clF rfl rfl (cal113) rfl rfl (c_raise b hok ab cb bd m n hn kv hkv b4 b6 (b.dsk.lvl n p - 1) t hts _ _) ?_
       rintro _ _ _ ⟨uf, hu, rfl, rfl, rfl⟩
       obtain ⟨u0, u1, u2, u3, rfl⟩ := list4 hu.inS.len
       have hulv : b.dsk.lvl n [u0, u1, u2, u3] < b.dsk.lvl n p := by
         rcases hu.lv with h1 | h1
         · rw [h1]; exact htlv
         · omega
       have hum := (b.dsk.mem_sts hdk _).2 hu.inS
       have hukv := hkv.get _ hum
       have hcvu : ∀ V2 : List HSt, [u0, u1, u2, u3] ∈ V2 → ∀ t2, b.dsk.next p l = some t2 → ∃ u ∈ V2, undP b.dsk.n t2 u = true ∧ b.dsk.lvl n u < b.dsk.lvl n p := fun V2 hm t2 ht2 => by rw [hnx] at ht2; cases ht2; exact ⟨_, hm, hu.le, hulv⟩
       obtain ⟨go, hgo⟩ : ∃ go, (kvL b.dsk n V1).get [u0, u1, u2, u3] = go := ⟨_, rfl⟩
       refine bg (fun w hs => ⟨trivial, trivial, trivial, trivial, trivial, trivial⟩) ?_
       refine stoA rfl rfl rfl cn127 rfl (by rw [ints_length]; rfl) (by rw [ints_length]; exact htl) (ints_one _) ?_
       refine bg (fun w hs => trivial) ?_
       refine sy_seq ?_
       refine sy_tx' [0, 1, 2, 3, 4, 5, 6, 7] rfl ?_
       refine spL rfl rfl (lh sc128 rfl rfl) rfl ?_
       refine spL rfl rfl (lhA (rest := []) (ints [u0, u1, u2, u3]) ag127 rfl (by rw [List.append_nil]; rfl) (by rw [ints_length]; exact rfl)) rfl ?_
       refine spK rfl rfl rfl (lk_held (b := true) (kvL b.dsk n V1) [u0, u1, u2, u3] mke128 (KeyT.of eqf127 noa127) (run_zv zv3) rfl (kvL_len hV14) true) rfl ?_
       rw [hgo]
       refine sp rfl (PE.move rfl) rfl ?_
       refine sp rfl (PE.extract rfl rfl) rfl ?_
       refine sp rfl (PE.extract rfl rfl) rfl ?_
       refine sp rfl (PE.assign rfl) rfl ?_
       refine sp rfl (PE.assign rfl) rfl ?_
       refine sy_seq ?_
       refine sy_draw [0, 1, 3, 7, 7, 23, 55, 119, 7, 503, 1023, 2047] (.tk 0 (.tk 1 (.tk 2 (.tk 3 (.ld 4 (.tk 5 (.tk 6 (.ld 7 (.ld 8 (.ld 9 (.tk 10 (.tk 11 .done)))))))))))) mixed (by kernel_rfl) ?_
       refine tk rfl (PE.move rfl) rfl ?_
       refine tk rfl (PE.not rfl) rfl ?_
       refine tk rfl (PE.move rfl) rfl ?_
       refine sy_case (t := 106) rfl (fun g106 => ?_) (fun g106 => ?_)
       obtain rfl : go = none := by cases go with
         | none => rfl
         | some g => exact absurd g106 (by simp)
       have hun : [u0, u1, u2, u3] ∉ V1 := fun hm => by rw [kvL_get hm] at hgo; cases hgo
       refine tkN rfl rfl rfl rfl rfl rfl rfl rfl ?_
       refine ldN rfl rfl rfl rfl rfl rfl rfl rfl ?_
       repeat refine tkN rfl rfl rfl rfl rfl rfl rfl rfl ?_
       repeat refine ldN rfl rfl rfl rfl rfl rfl rfl rfl ?_
       refine tkN rfl rfl rfl rfl rfl rfl rfl rfl ?_
       refine tk rfl (PE.pick rfl rfl rfl) rfl ?_
       refine sy_condT rfl ?_
       refine sy_seq ?_
       refine sy_draw [0, 0, 0, 4, 12, 28, 0, 124, 255] (.ld 0 (.ld 1 (.ld 2 (.tk 3 (.tk 4 (.ld 5 (.ld 6 (.ld 7 (.big 8 .done))))))))) mixed (by kernel_rfl) ?_
       refine ld rfl rfl (lh sc128 rfl rfl) rfl ?_
       refine ld rfl rfl (lhA (rest := []) (ints [u0, u1, u2, u3]) ag127 rfl (by rw [List.append_nil]; rfl) (by rw [ints_length]; exact rfl)) rfl ?_
       refine ld rfl rfl (lfB (sz := 1) sc123 rfl) rfl ?_
       refine tk rfl (PE.nilCheck rfl) rfl ?_
       refine tk rfl (PE.fieldAddr fo130_3 rfl) rfl ?_
       refine ld rfl rfl (lfB (sz := 18) sc128 (dcs_map hl4 hm4)) rfl ?_
       refine ld rfl rfl (lhA (rest := []) (ints [u0, u1, u2, u3]) ag127 rfl (by rw [List.append_nil]; rfl) (by rw [ints_length]; exact rfl)) rfl ?_
       refine ldK rfl rfl rfl (lk_factE rfl hkv.len hukv (fun w hs => hs.now (MemF.mem (f := KpF m kv)))) rfl ?_
       refine mpu (kvL b.dsk n V1) [u0, u1, u2, u3] (v := .int .i64 (b.dsk.lvl n [u0, u1, u2, u3])) rfl mke128 (KeyT.of eqf127 noa127) rfl rfl rfl rfl (kvL_len hV14) ?_
       rw [kvL_put hun]
       refine bg (fun w hs => ⟨trivial, trivial, trivial, trivial, trivial, trivial, trivial⟩) ?_
       refine sy_tx' [0, 1, 2, 3, 4] rfl ?_
       refine spL rfl rfl (lh sc156 rfl rfl) rfl ?_
       refine spL rfl rfl (lhA (rest := []) (ints [u0, u1, u2, u3]) ag127 rfl (by rw [List.append_nil]; rfl) (by rw [ints_length]; exact rfl)) rfl ?_
       refine bsl (out := [_, _, _, _]) rfl sl156 zl127 rfl rfl rfl rfl rfl rfl (fun b126 => ?_)
       refine apQ q3 rfl ap156 rfl rfl (rowsH (row := ints [u0, u1, u2, u3]) rfl) rfl (by simp) rfl (by rw [strows_len, List.length_drop]; simp only [List.length_singleton]; omega) rfl (fun q4 => ?_)
       refine stoE (l' := [q4.fs]) rfl rfl rfl cn156 rfl rfl rfl rfl (Nat.le_refl _) ?_
       obtain ⟨q5, e5, g5⟩ : ∃ q5 : OQ 127 4 (strows ((V1 ++ [[u0, u1, u2, u3]]).drop (j + 1))), q5.fs = q4.fs ∧ q5.G = q4.G := ⟨q4.cast (strows_add (by omega) _), OQ.cast_fs _ _, OQ.cast_G _ _⟩
       exact sy_roundOn (.inl ⟨rfl, V1 ++ [[u0, u1, u2, u3]], q5, hb1.add (by omega) hu.inS hun (by have := hulv; omega), by rw [List.take_append_of_le_length (by omega)]; exact ht1, by rw [List.getElem?_append_left hj1]; exact hp1, (hcv.add _).more hk (hcvu _ (by simp)), rfl, rfl⟩) (fun _ h => by rw [e5, g5]; exact ((h.del b126).del b13).ftail)
       obtain ⟨g, rfl⟩ : ∃ g, go = some g := by cases go with
         | none => exact absurd g106 (by simp)
         | some g => exact ⟨g, rfl⟩
       have hui : [u0, u1, u2, u3] ∈ V1 := Classical.byContradiction fun hm => by rw [kvL_no hm] at hgo; cases hgo
       obtain rfl : g = .int .i64 (b.dsk.lvl n [u0, u1, u2, u3]) := by rw [kvL_get hui] at hgo; cases hgo; rfl
       refine tkG rfl rfl rfl rfl (PE.move rfl) rfl ?_
       refine ldG rfl rfl rfl rfl rfl (lfB (sz := 1) sc123 rfl) rfl ?_
       refine tkG rfl rfl rfl rfl (PE.nilCheck rfl) rfl ?_
       refine tkG rfl rfl rfl rfl (PE.fieldAddr fo130_3 rfl) rfl ?_
       refine ldG rfl rfl rfl rfl rfl (lfB (sz := 18) sc128 (dcs_map hl4 hm4)) rfl ?_
       refine ldG rfl rfl rfl rfl rfl (lhA (rest := []) (ints [u0, u1, u2, u3]) ag127 rfl (by rw [List.append_nil]; rfl) (by rw [ints_length]; exact rfl)) rfl ?_
       refine ldKG rfl rfl rfl rfl rfl rfl (lk_factE rfl hkv.len hukv (fun w hs => hs.now (MemF.mem (f := KpF m kv)))) rfl ?_
       refine tkG rfl rfl rfl rfl (PE.neq rfl rfl) rfl ?_
       refine tk rfl (PE.pick rfl rfl rfl) rfl ?_
       refine sy_cond rfl (fun hc4 => ?_) (fun hc4 => ?_)
       exact absurd hc4 (by simp)
       refine sy_skip ?_
       exact sy_roundOn (.inl ⟨rfl, V1, q3, hb1, ht1, hp1, hcv.more hk (hcvu V1 hui), rfl, rfl⟩) (fun _ h => (h.del b13).ftail)
       ·
        rintro _ _ _ _ ⟨rfl, rfl, V1, q3, hb1, ht1, hp1, hcv, rfl, rfl⟩
        refine sy_jn ?_
        have hj1 := (List.getElem?_eq_some_iff.1 hp1).1
        have hf1 := hb1.few hdk
        exact sy_nextD ⟨⟨(V1, j + 1, W ++ [⟨ay, cy, p.take b.bins.length, b.dsk.lvl n p⟩], bd0 :: mk), hb1.next hp1 hcv, hj1, by dsimp only; rw [wls_app, hwv, ht1, wlV_snoc hp]; rfl⟩, o78, q3⟩ (by dsimp only; omega) (by repeat' first | exact Sub.nil | apply Sub.cons | rfl | (simp [lk]; omega)) rfl (fun w h => St.sub ((h.del b11).perm ((perm_swap3 [_] [_, _, _] _).trans (List.Perm.append_left [_, _, _] ((List.perm_middle (l₁ := q3.G)).symm.trans (List.Perm.append_left q3.G ((List.perm_middle (l₁ := o78.G)).symm.trans (List.Perm.append_left o78.G (List.Perm.swap _ _ _)))))))))
      try simp only [decide_eq_true_eq, decide_eq_false_iff_not, Bool.and_eq_true, Bool.or_eq_true, Bool.not_eq_true', Int.not_le, Int.not_lt] at hc2
      obtain rfl : j = V.length := by omega
      rw [List.take_of_length_le (Nat.le_refl _)] at hwv
      have hw := hbq.wall hok hn hfx hc1
      rw [← hwv] at hw
      obtain ⟨aw, cw, he, hcw, hf⟩ := o.freezeC
      rw [he, werows_len]
      rw [werows_len] at hcw
      refine sy_exit ?_
      repeat refine sy_tx ?_
      refine sy_bx ?_
      refine sy_seq ?_
      refine sy_tx' [0, 1, 2] rfl ?_
      refine sp rfl (PE.move rfl) rfl ?_
      refine sp rfl (PE.assign rfl) rfl ?_
      refine sp rfl (PE.assign rfl) rfl ?_
      refine sy_ret ?_
      refine Sy.heap (H' := mkh mk ++ H) (R' := RowsA aw 2 (werows W) :: InW W :: R) (fun w h => St.sub (hf ((St.drop (G := q.G) (((h.del m48).del b9).del b8)).del b1))) ?_
      exact sy_returnM mk (fun _ h => h) rfl (.cons (RV.tmp rfl) (.cons (RV.tmp rfl) .nil)) rfl ⟨rfl, .inr (.inr ⟨hck, _, W, aw, cw, hc1, hks, hw, by omega, hcw, rfl, rfl⟩)⟩ (fun w h => h)
   exact sy_stop
end Go.Proofs.Ytelegnmfhjfbaaa
namespace Go.Proofs.Ytelegnmfhjfbaaa
set_option linter.unusedSimpArgs false
set_option linter.unusedVariables false
open Go
theorem cal58 : cal Try.prog 58 = true := by kernel_rfl
theorem cal59 : cal Try.prog 59 = true := by kernel_rfl
theorem cal60 : cal Try.prog 60 = true := by kernel_rfl
theorem cal61 : cal Try.prog 61 = true := by kernel_rfl
theorem cal62 : cal Try.prog 62 = true := by kernel_rfl
structure WWant (b : Barn) (w lo : Int) : Prop where
  is : (b.check ≠ 0 ∧ w = b.check) ∨ (b.check = 0 ∧ Kpt b.dsk b.state lo ∧ ((lo = 1000000 ∧ w = 6) ∨ (lo ≠ 1000000 ∧ w = 0)))
theorem WWant.zero {b : Barn} {w lo : Int} (h : WWant b w lo) (hw : w = 0) : b.check = 0 ∧ Kpt b.dsk b.state lo ∧ lo ≠ 1000000 := by
  rcases h.is with ⟨h1, h2⟩ | ⟨h1, h2, h3⟩
  · omega
  · exact ⟨h1, h2, by omega⟩
theorem shwE_ok {b : Barn} {W : WL} (h : b.check = 0) : shwE b W = shwV b W := by unfold shwE; rw [decide_eq_true h]; rfl
theorem shwE_bad {b : Barn} {W : WL} (h : b.check ≠ 0) : shwE b W = (0, b.check) := by unfold shwE; rw [decide_eq_false h]; rfl
theorem c_Eq_int (xs ys : List Int) (a a2 : Option Addr) (c c2 : Nat) (hl : xs.length ≤ 9223372036854775807) (hl2 : ys.length ≤ 9223372036854775807) (H : Heap) (R : Facts) [hR : MemRows a 1 (irows xs) R] [hR2 : MemRows a2 1 (irows ys) R] :
    FnV Try.prog 62 [.slice a xs.length c, .slice a2 ys.length c2] H R (.bool (decide (xs = ys))) := by
 refine fn_of Try.func62 rfl Try.ntmps62 rfl ?_
 refine sy_seq ?_
 refine sy_tx' [0] rfl ?_
 refine sp rfl (PE.assign rfl) rfl ?_
 refine sy_seq ?_
 refine sy_tx' [0, 1, 2, 3] rfl ?_
 refine sp rfl (PE.move rfl) rfl ?_
 refine sp rfl (PE.move rfl) rfl ?_
 refine clV rfl cal82 rfl rfl (c_eq_int xs ys a a2 c c2 hl hl2 _ _) ?_
 refine sp rfl (PE.assign rfl) rfl ?_
 refine sy_ret ?_
 exact sy_return (vs := [_]) rfl (.cons (RV.tmp rfl) .nil) rfl ⟨rfl, rfl, rfl⟩ drp
theorem c_ShowsN (b : Barn) (ab : Option Addr) (cb : Nat) (hl : b.bins.length ≤ 9223372036854775807) (hr : b.rise.length = 6) (W : List WE) (aw : Option Addr) (cw : Nat) {n : Nat} {V : WL} (hn : W.length = n) (hV : wls W = V) (hwl : W.length ≤ 1000000) (hwx : ∀ x ∈ W, x.l.length ≤ 1000000) (H : Heap) (R : Facts) [hB : MemRows ab 4 (brows b.bins) R] [hW : MemRows aw 2 (werows W) R] [hN : MemF (InW W) R] : FnV Try.prog 61 [b.v (b.sl ab cb), .slice aw n cw] H R (.tuple #[.int .i64 (shwE b V).1, .int .i64 (shwE b V).2]) := by
  subst hn hV; exact c_Shows b ab cb hl hr W aw cw hwl hwx H R
theorem c_rShowsN (b : Barn) (ab : Option Addr) (cb : Nat) (hok : b.ok) (W : List WE) (aw : Option Addr) (cw : Nat) {p : Int × Int} (hp : shwV b (wls W) = p) (hwl : W.length ≤ 1000000) (hwx : ∀ x ∈ W, x.l.length ≤ 1000000) (H : Heap) (R : Facts) [hB : MemRows ab 4 (brows b.bins) R] [hW : MemRows aw 2 (werows W) R] [hN : MemF (InW W) R] : FnV Try.prog 58 [b.v (b.sl ab cb), .slice aw W.length cw] H R (.tuple #[.int .i64 p.1, .int .i64 p.2]) := by
  subst hp; exact c_rShows b ab cb hok W aw cw hwl hwx H R
theorem c_WallX (b : Barn) (ab : Option Addr) (cb : Nat) (hl : b.bins.length ≤ 9223372036854775807) (hr : b.rise.length = 6) {w lo : Int} (hw : WWant b w lo) (H : Heap) (R : Facts) [hB : MemRows ab 4 (brows b.bins) R] : Fn Try.prog 60 [b.v (b.sl ab cb)] H R (fun v H' R' => ∃ (L : List WE) (al : Option Addr) (cl : Nat), (w ≠ 0 → L = []) ∧ (w = 0 → shwV b (wls L) = (lo, 0) ∧ L.length ≤ b.dsk.nst ∧ L.length ≤ cl) ∧ v = .tuple #[.slice al L.length cl, .int .i64 w] ∧ H' = H ∧ R' = RowsA al 2 (werows L) :: InW L :: R) := fun w0 hw0 => by
  refine CallsIn.mono (c_Wall b ab cb hl hr H R w0 hw0) ?_
  rintro e' w' ⟨u, H', R', ⟨rfl, hq⟩, he, hs'⟩
  rcases hq with ⟨h1, rfl, rfl⟩ | ⟨h1, h2, rfl, rfl⟩ | ⟨h1, m, W, aw, cw, h2, h3, h4, h5, h6, rfl, rfl⟩
  · have e : w = b.check := by rcases hw.is with ⟨_, h⟩ | ⟨h, _⟩; exact h; exact absurd h h1
    subst e
    exact ⟨_, _, _, ⟨[], none, 0, fun _ => rfl, fun h => absurd h h1, rfl, rfl, rfl⟩, he, St.noRows (St.inw0 hs')⟩
  · have e : w = 6 := by
      rcases hw.is with ⟨h, _⟩ | ⟨_, h, h3⟩
      · exact absurd h1 h
      · have := kpt_unique h h2; omega
    subst e
    exact ⟨_, _, _, ⟨[], none, 0, fun _ => rfl, fun h => (by cases h), rfl, rfl, rfl⟩, he, St.noRows (St.inw0 hs')⟩
  · have e : w = 0 ∧ lo = m := by
      rcases hw.is with ⟨h, _⟩ | ⟨_, h, h7⟩
      · exact absurd h1 h
      · have := kpt_unique h h3; omega
    obtain ⟨rfl, rfl⟩ := e
    exact ⟨_, _, _, ⟨W, aw, cw, fun h => absurd rfl h, fun _ => ⟨h4, h5, h6⟩, rfl, rfl, rfl⟩, he, hs'⟩
theorem c_HeatWalls (b : Barn) (ab : Option Addr) (cb : Nat) (W : List WE) (aw : Option Addr) (cw : Nat) (hwl : W.length ≤ 9223372036854775807) (hwx : ∀ x ∈ W, x.l.length ≤ 9223372036854775807) (hl9 : b.bins.length ≤ 4398046511104) (hr : b.rise.length = 6) (H : Heap) (R : Facts) [hB : MemRows ab 4 (brows b.bins) R] [hW : MemRows aw 2 (werows W) R] [hN : MemF (InW W) R] :
    Fn Try.prog 11 [b.v (b.sl ab cb), .slice aw W.length cw] H R (fun v H' R' => v = .bool true ∧ H' = H ∧ R' = R) := by
 have hl : b.bins.length ≤ 9223372036854775807 := by omega
 refine fn_of Try.func11 rfl Try.ntmps11 rfl ?_
 refine sy_seq ?_
 refine sy_tx' [0, 1] rfl ?_
 refine bx rfl rfl rfl (fun b2 => ?_)
 refine sp rfl (PE.assign rfl) rfl ?_
 refine sy_seq ?_
 refine sy_seq ?_
 refine sy_tx' [0, 1, 2, 3, 4, 5, 6] rfl ?_
 refine spL rfl rfl (lhA (btl b (b.sl ab cb)) ag25 rfl rfl rfl) rfl ?_
 refine clV rfl cal33 rfl rfl (c_wide b ab cb 80 hl9 hr _ _) ?_
 refine sp rfl (PE.move rfl) rfl ?_
 refine sy_case (t := 24) rfl (fun g24 => ?_) (fun g24 => ?_)
 repeat refine spN rfl rfl rfl rfl rfl rfl rfl rfl ?_
 refine sp rfl (PE.pick rfl rfl rfl) rfl ?_
 refine sy_condT rfl ?_
 refine sy_seq ?_
 refine sy_tx' [0, 1] rfl ?_
 refine clV rfl cal18 rfl rfl (c_awake _ _) ?_
 refine sp rfl (PE.assign rfl) rfl ?_
 refine sy_ret ?_
 exact sy_return (vs := [_]) rfl (.cons (RV.tmp rfl) .nil) rfl ⟨rfl, rfl, rfl⟩ (fun w h => h.del b2)
 have h8 : ¬ 8 < b.bins.length := by unfold wideV at g24; rw [Bool.or_eq_false_iff] at g24; simpa using g24.1
 refine spG rfl rfl rfl rfl (PE.move rfl) rfl ?_
 refine spG rfl rfl rfl rfl (PE.lenSl isl91 rfl) rfl ?_
 refine spG rfl rfl rfl rfl (PE.gtr rfl rfl) rfl ?_
 refine sp rfl (PE.pick rfl rfl rfl) rfl ?_
 refine sy_cond rfl (fun hc0 => ?_) (fun hc0 => ?_)
 refine sy_seq ?_
 refine sy_tx' [0, 1] rfl ?_
 refine clV rfl cal18 rfl rfl (c_awake _ _) ?_
 refine sp rfl (PE.assign rfl) rfl ?_
 refine sy_ret ?_
 exact sy_return (vs := [_]) rfl (.cons (RV.tmp rfl) .nil) rfl ⟨rfl, rfl, rfl⟩ (fun w h => h.del b2)
 try simp only [decide_eq_true_eq, decide_eq_false_iff_not, Bool.and_eq_true, Bool.or_eq_true, Bool.not_eq_true', Int.not_le, Int.not_lt] at hc0
 refine sy_skip ?_
 refine sy_seq ?_
 refine sy_tx' [0] rfl ?_
 refine sp rfl (PE.assign rfl) rfl ?_
 refine sy_seq ?_
 refine sy_seq ?_
 refine sy_tx' [0, 1, 2] rfl ?_
 refine sp rfl (PE.move rfl) rfl ?_
 refine sp rfl (PE.lenSl isl91 rfl) rfl ?_
 refine sp rfl (PE.move rfl) rfl ?_
 refine sy_block ?_
 refine sy_loop (ι := (y : {y : Nat × List WE // y.1 ≤ W.length ∧ wls y.2 = (wls W).take y.1 ∧ ∀ x ∈ W.take y.1, x.l.length ≤ 8}) × OSl 93 2 (werows y.1.2)) (fun y => ⟨[(1, .slice aw W.length cw), (2, .pointer (some ⟨b2, 0, none⟩)), (5, y.2.fs), (30, .slice aw W.length cw), (31, .int .i64 W.length), (32, .int .i64 y.1.1.1)], y.2.G ++ (b2, cel 25 (btl b (b.sl ab cb))) :: H, InW y.1.1.2 :: R⟩) (fun y => W.length - y.1.1.1) ⟨⟨(0, []), Nat.zero_le _, rfl, by simp⟩, OSl.nil _ _⟩ ?_ (fun y => ?_)
 exact sy_at (by repeat' first | exact Sub.nil | apply Sub.cons | rfl | (simp [lk]; omega)) (fun w h => St.inw0 h)
 obtain ⟨⟨⟨i, M⟩, hi, hM, hx8⟩, o⟩ := y
 dsimp only at hi hM hx8 o ⊢
 have hMl : M.length = i := by have := congrArg List.length hM; rw [wls_len, List.length_take, wls_len] at this; omega
 refine sy_seq ?_
 refine sy_tx' [0] rfl ?_
 refine sp rfl (PE.lss rfl rfl) rfl ?_
 refine sy_seq ?_
 refine sy_cond rfl (fun hc1 => ?_) (fun hc1 => ?_)
 try simp only [decide_eq_true_eq, decide_eq_false_iff_not, Bool.and_eq_true, Bool.or_eq_true, Bool.not_eq_true', Int.not_le, Int.not_lt] at hc1
 obtain ⟨x, hx⟩ : ∃ x, W[i]? = some x := ⟨_, List.getElem?_eq_getElem (by omega)⟩
 have hxm := List.mem_of_getElem? hx
 refine sy_addr (a := aw) (sz := 2) (rows := werows W) (by intro h0; have := congrArg List.length h0; rw [werows_len] at this; simp only [List.length_nil] at this; omega) (fun bw ow he => ?_)
 subst he
 refine Sy.heap (fun w h => St.inwAt (x := x) h hxm) ?_
 refine sy_skip ?_
 refine sy_seq ?_
 refine sy_block ?_
 refine sy_seq ?_
 refine sy_tx' [0, 1, 2, 3] rfl ?_
 refine sp rfl (PE.indexAddr el91 rfl rfl (by omega) (by omega)) rfl ?_
 refine spL rfl rfl (lfA ag93 (row := werow x) (we_get hx) rfl) rfl ?_
 refine alc rfl zl93 rfl (fun b7 => ?_)
 refine stoE (l' := werow x) rfl rfl rfl cn93 rfl rfl rfl rfl (Nat.le_of_ble_eq_true rfl) ?_
 refine sy_seq ?_
 refine sy_seq ?_
 refine sy_tx' [0, 1, 2, 3] rfl ?_
 refine sp rfl (PE.fieldAddr fo93_0 rfl) rfl ?_
 refine spL rfl rfl (lh sc40 rfl rfl) rfl ?_
 refine sp rfl (PE.lenSl isl40 rfl) rfl ?_
 refine sp rfl (PE.gtr rfl rfl) rfl ?_
 refine sy_cond rfl (fun hc2 => ?_) (fun hc2 => ?_)
 try simp only [decide_eq_true_eq, decide_eq_false_iff_not, Bool.and_eq_true, Bool.or_eq_true, Bool.not_eq_true', Int.not_le, Int.not_lt] at hc2
 refine sy_seq ?_
 refine sy_tx' [0, 1] rfl ?_
 refine clV rfl cal18 rfl rfl (c_awake _ _) ?_
 refine sp rfl (PE.assign rfl) rfl ?_
 refine sy_ret ?_
 exact sy_return (vs := [_]) rfl (.cons (RV.tmp rfl) .nil) rfl ⟨rfl, rfl, rfl⟩ (fun w h => ((St.drop (G := o.G) (h.del b7)).del b2).facts (fun g hg => by simp [hg]))
 try simp only [decide_eq_true_eq, decide_eq_false_iff_not, Bool.and_eq_true, Bool.or_eq_true, Bool.not_eq_true', Int.not_le, Int.not_lt] at hc2
 refine sy_skip ?_
 refine sy_draw [0, 0, 2, 6, 0, 16, 62, 126, 255, 511] (.tk 0 (.tk 1 (.ld 2 (.tk 4 (.ld 5 (.big 3 (.tk 6 (.big 7 (.big 8 (.tk 9 .done)))))))))) mixed (by kernel_rfl) ?_
 refine tk rfl (PE.move rfl) rfl ?_
 refine tk rfl (PE.fieldAddr fo93_0 rfl) rfl ?_
 refine ld rfl rfl (lh sc40 rfl rfl) rfl ?_
 refine tk rfl (PE.fieldAddr fo93_1 rfl) rfl ?_
 refine ld rfl rfl (lh sc3 rfl rfl) rfl ?_
 refine cl rfl cal57 rfl rfl (c_dup_int x.l x.a x.c (by omega) _ _) ?_
 rintro _ _ _ ⟨od, rfl, _, rfl, rfl⟩
 obtain ⟨ax, cx, he, hf⟩ := od.freeze
 rw [he, irows_len]
 refine Sy.heap (fun w h => hf h) ?_
 clear he hf
 refine bg (fun w hs => ⟨(lh sc3 rfl rfl) w hs, trivial, trivial⟩) ?_
 refine tk rfl (PE.build (out := [_, _]) pl93 zl93 rfl rfl) rfl ?_
 refine bsl (out := [_, _]) rfl sl91 zl93 rfl rfl rfl rfl rfl rfl (fun b48 => ?_)
 refine bg (fun w hs => ⟨trivial, trivial⟩) ?_
 refine apO (o) rfl ap91 rfl rfl (rowsH (row := werow ⟨ax, cx, x.l, x.d⟩) rfl) rfl rfl ((by rw [werows_len]; simp only [List.length_singleton]; omega)) rfl (fun o49 => ?_)
 refine bg (fun w hs => trivial) ?_
 refine tk rfl (PE.assign rfl) rfl ?_
 refine sy_tx' [0, 1] rfl ?_
 refine sp rfl (PE.add rfl rfl (by omega)) rfl ?_
 refine sp rfl (PE.move rfl) rfl ?_
 exact sy_next ⟨⟨(i + 1, M ++ [⟨ax, cx, x.l, x.d⟩]), by dsimp only; omega, by dsimp only; rw [wls_app, hM, take_snoc (wls_get hx)]; rfl, take_all hx hx8 (by omega)⟩, o49.cast (by rw [werows_app]; rfl)⟩ (by dsimp only; omega) (by repeat' first | exact Sub.nil | apply Sub.cons | rfl | (simp [lk]; omega)) (fun w h => (St.inwSnoc (l := M) ⟨ax, cx, x.l, x.d⟩ ((h.del b48).del b7)).facts (fun g hg => by rcases List.mem_cons.1 hg with hg | hg <;> simp [hg]))
 try simp only [decide_eq_true_eq, decide_eq_false_iff_not, Bool.and_eq_true, Bool.or_eq_true, Bool.not_eq_true', Int.not_le, Int.not_lt] at hc1
 obtain rfl : i = W.length := by omega
 rw [List.take_of_length_le (by rw [wls_len]; exact Nat.le_refl _)] at hM
 rw [List.take_length] at hx8
 obtain ⟨am, cm, he, hf⟩ := o.freeze
 rw [he, werows_len, hMl]
 refine Sy.heap (fun w h => hf h) ?_
 clear he hf
 refine sy_exit ?_
 repeat refine sy_tx ?_
 refine sy_bx ?_
 refine sy_seq ?_
 refine sy_free [0, 1, 0, 7, 0, 0, 63, 127] [0, 1, 2, 3, 4, 5, 6, 7] mixed (by kernel_rfl) rfl (fun s L H1 R1 => ∃ (a1 : Option Addr) (c1 : Nat) (a2 : Option Addr) (c2 : Nat) (b8 : Nat) (x8 : List Value) (b9 : Nat) (x9 : List Value), Sub [(1, .slice aw W.length cw), (2, .pointer (some ⟨b2, 0, none⟩)), (5, .slice am W.length cm)] L ∧ (∀ f ∈ (RowsA am 2 (werows M) :: InW M :: R : Facts), f ∈ R1) ∧ (s 0 = true → lk L 51 = some (b.v (b.sl ab cb))) ∧ (s 1 = true → lk L 52 = some (b.v (b.sl a1 c1)) ∧ (RowsA a1 4 (brows b.bins)) ∈ R1) ∧ (s 2 = true → lk L 53 = some (b.v (b.sl ab cb))) ∧ (s 3 = true → lk L 54 = some (b.v (b.sl a2 c2)) ∧ (RowsA a2 4 (brows b.bins)) ∈ R1) ∧ (s 4 = true → lk L 8 = some (.pointer (some ⟨b8, 0, none⟩)) ∧ (s 6 = false → x8 = [.int .i64 0, .int .i64 0, .int .i64 0, .int .i64 0, .int .i64 0, .int .i64 0, .int .i64 0, .int .i64 0, .slice none 0 0])) ∧ (s 5 = true → lk L 9 = some (.pointer (some ⟨b9, 0, none⟩)) ∧ (s 7 = false → x9 = [.int .i64 0, .int .i64 0, .int .i64 0, .int .i64 0, .int .i64 0, .int .i64 0, .int .i64 0, .int .i64 0, .slice none 0 0])) ∧ (s 6 = true → x8 = btl b (b.sl a1 c1)) ∧ (s 7 = true → x9 = btl b (b.sl a2 c2)) ∧ ∀ w, St H1 R1 w → St ((bif s 5 then [(b9, cel 33 x9)] else []) ++ ((bif s 4 then [(b8, cel 25 x8)] else []) ++ ((b2, cel 25 (btl b (b.sl ab cb))) :: H))) R1 w) ?_ ?_ ?_
 exact ⟨none, 0, none, 0, 0, [], 0, [], (by repeat' first | exact Sub.nil | apply Sub.cons | rfl | (simp [lk]; omega)), fun _ hf => hf, (fun h => by cases (show false = true from h)), (fun h => by cases (show false = true from h)), (fun h => by cases (show false = true from h)), (fun h => by cases (show false = true from h)), (fun h => by cases (show false = true from h)), (fun h => by cases (show false = true from h)), (fun h => by cases (show false = true from h)), (fun h => by cases (show false = true from h)), fun w h => h⟩
 refine ⟨?_, ?_, ?_, ?_, ?_, ?_, ?_, ?_, trivial⟩
 intro s Lz Hz Rz hdn hs hpre hI K hK
 obtain ⟨a1, c1, a2, c2, b8, x8, b9, x9, hL0, hR0, q0, q1, q2, q3, q4, q5, q6, q7, hH⟩ := hI
 refine Sy.heap hH ?_
 refine spL rfl (Sub.lk hL0 _ _ rfl) ((lhA (btl b (b.sl ab cb)) ag25 rfl rfl rfl)) rfl ?_
 exact hK _ _ _ ⟨a1, c1, a2, c2, b8, x8, b9, x9, sub_more rfl hL0, hR0, fun _ => lk_same, fun h => ⟨lk_more rfl (q1 h).1, (q1 h).2⟩, fun h => lk_more rfl (q2 h), fun h => ⟨lk_more rfl (q3 h).1, (q3 h).2⟩, fun h => ⟨lk_more rfl (q4 h).1, (q4 h).2⟩, fun h => ⟨lk_more rfl (q5 h).1, (q5 h).2⟩, fun h => q6 h, fun h => q7 h, fun w h => h⟩
 intro s Lz Hz Rz hdn hs hpre hI K hK
 obtain ⟨a1, c1, a2, c2, b8, x8, b9, x9, hL0, hR0, q0, q1, q2, q3, q4, q5, q6, q7, hH⟩ := hI
 have h0 : s 0 = true := hpre 0 rfl
 refine Sy.heap hH ?_
 haveI m0 : MemRows ab 4 (brows b.bins) Rz := ⟨hR0 _ (inferInstance : MemRows ab 4 (brows b.bins) (RowsA am 2 (werows M) :: InW M :: R)).mem⟩
 refine cl rfl cal19 rfl (by simp only [evs, show ev Lz (.tmp 51) = _ from (q0 h0)]) (c_OwnF b ab cb (by omega) _ _) ?_
 rintro _ _ R1 ⟨a1, c1, rfl, rfl, hR1⟩
 obtain rfl := hR1.symm
 clear hR1
 exact hK _ _ _ ⟨a1, c1, a2, c2, b8, x8, b9, x9, sub_more rfl hL0, fin_more (hR0), fun h => lk_more rfl (q0 h), fun _ => ⟨lk_same, (by simp)⟩, fun h => lk_more rfl (q2 h), fun h => ⟨lk_more rfl (q3 h).1, List.mem_cons_of_mem _ ((q3 h).2)⟩, fun h => ⟨lk_more rfl (q4 h).1, (q4 h).2⟩, fun h => ⟨lk_more rfl (q5 h).1, (q5 h).2⟩, fun h => absurd (hdn 6 1 (Nat.le_of_ble_eq_true rfl) rfl h) (by rw [hs]; exact Bool.false_ne_true), fun h => q7 h, fun w h => h⟩
 intro s Lz Hz Rz hdn hs hpre hI K hK
 obtain ⟨a1, c1, a2, c2, b8, x8, b9, x9, hL0, hR0, q0, q1, q2, q3, q4, q5, q6, q7, hH⟩ := hI
 refine Sy.heap hH ?_
 refine spL rfl (Sub.lk hL0 _ _ rfl) ((lhA (btl b (b.sl ab cb)) ag25 rfl rfl rfl)) rfl ?_
 exact hK _ _ _ ⟨a1, c1, a2, c2, b8, x8, b9, x9, sub_more rfl hL0, hR0, fun h => lk_more rfl (q0 h), fun h => ⟨lk_more rfl (q1 h).1, (q1 h).2⟩, fun _ => lk_same, fun h => ⟨lk_more rfl (q3 h).1, (q3 h).2⟩, fun h => ⟨lk_more rfl (q4 h).1, (q4 h).2⟩, fun h => ⟨lk_more rfl (q5 h).1, (q5 h).2⟩, fun h => q6 h, fun h => q7 h, fun w h => h⟩
 intro s Lz Hz Rz hdn hs hpre hI K hK
 obtain ⟨a1, c1, a2, c2, b8, x8, b9, x9, hL0, hR0, q0, q1, q2, q3, q4, q5, q6, q7, hH⟩ := hI
 obtain ⟨h0, h1, h2⟩ : s 0 = true ∧ s 1 = true ∧ s 2 = true := ⟨hpre 0 rfl, hpre 1 rfl, hpre 2 rfl⟩
 refine Sy.heap hH ?_
 haveI m0 : MemRows ab 4 (brows b.bins) Rz := ⟨hR0 _ (inferInstance : MemRows ab 4 (brows b.bins) (RowsA am 2 (werows M) :: InW M :: R)).mem⟩
 refine cl rfl cal20 rfl (by simp only [evs, show ev Lz (.tmp 53) = _ from (q2 h2)]) (c_theirs b ab cb (by omega) _ _) ?_
 rintro _ _ R1 ⟨a2, c2, rfl, rfl, hR1⟩
 obtain rfl := hR1.symm
 clear hR1
 exact hK _ _ _ ⟨a1, c1, a2, c2, b8, x8, b9, x9, sub_more rfl hL0, fin_more (hR0), fun h => lk_more rfl (q0 h), fun h => ⟨lk_more rfl (q1 h).1, List.mem_cons_of_mem _ ((q1 h).2)⟩, fun h => lk_more rfl (q2 h), fun _ => ⟨lk_same, (by simp)⟩, fun h => ⟨lk_more rfl (q4 h).1, (q4 h).2⟩, fun h => ⟨lk_more rfl (q5 h).1, (q5 h).2⟩, fun h => q6 h, fun h => absurd (hdn 7 3 (Nat.le_of_ble_eq_true rfl) rfl h) (by rw [hs]; exact Bool.false_ne_true), fun w h => h⟩
 intro s Lz Hz Rz hdn hs hpre hI K hK
 obtain ⟨a1, c1, a2, c2, b8, x8, b9, x9, hL0, hR0, q0, q1, q2, q3, q4, q5, q6, q7, hH⟩ := hI
 refine Sy.heap hH ?_
 refine alc rfl zl25 rfl (fun b8 => ?_)
 exact hK _ _ _ ⟨a1, c1, a2, c2, b8, [.int .i64 0, .int .i64 0, .int .i64 0, .int .i64 0, .int .i64 0, .int .i64 0, .int .i64 0, .int .i64 0, .slice none 0 0], b9, x9, sub_more rfl hL0, hR0, fun h => lk_more rfl (q0 h), fun h => ⟨lk_more rfl (q1 h).1, (q1 h).2⟩, fun h => lk_more rfl (q2 h), fun h => ⟨lk_more rfl (q3 h).1, (q3 h).2⟩, fun _ => ⟨lk_same, fun _ => rfl⟩, fun h => ⟨lk_more rfl (q5 h).1, (q5 h).2⟩, fun h => absurd (hdn 6 4 (Nat.le_of_ble_eq_true rfl) rfl h) (by rw [hs]; exact Bool.false_ne_true), fun h => q7 h, fun w h => by rw [hs] at h; exact h.perm (List.perm_middle.symm.trans (List.Perm.append_left _ (.refl _)))⟩
 intro s Lz Hz Rz hdn hs hpre hI K hK
 obtain ⟨a1, c1, a2, c2, b8, x8, b9, x9, hL0, hR0, q0, q1, q2, q3, q4, q5, q6, q7, hH⟩ := hI
 refine Sy.heap hH ?_
 refine alc rfl zl33 rfl (fun b9 => ?_)
 exact hK _ _ _ ⟨a1, c1, a2, c2, b8, x8, b9, [.int .i64 0, .int .i64 0, .int .i64 0, .int .i64 0, .int .i64 0, .int .i64 0, .int .i64 0, .int .i64 0, .slice none 0 0], sub_more rfl hL0, hR0, fun h => lk_more rfl (q0 h), fun h => ⟨lk_more rfl (q1 h).1, (q1 h).2⟩, fun h => lk_more rfl (q2 h), fun h => ⟨lk_more rfl (q3 h).1, (q3 h).2⟩, fun h => ⟨lk_more rfl (q4 h).1, (q4 h).2⟩, fun _ => ⟨lk_same, fun _ => rfl⟩, fun h => q6 h, fun h => absurd (hdn 7 5 (Nat.le_of_ble_eq_true rfl) rfl h) (by rw [hs]; exact Bool.false_ne_true), fun w h => by rw [hs] at h; exact h.perm (.refl _)⟩
 intro s Lz Hz Rz hdn hs hpre hI K hK
 obtain ⟨a1, c1, a2, c2, b8, x8, b9, x9, hL0, hR0, q0, q1, q2, q3, q4, q5, q6, q7, hH⟩ := hI
 obtain ⟨h0, h1, h2, h3, h4, h5⟩ : s 0 = true ∧ s 1 = true ∧ s 2 = true ∧ s 3 = true ∧ s 4 = true ∧ s 5 = true := ⟨hpre 0 rfl, hpre 1 rfl, hpre 2 rfl, hpre 3 rfl, hpre 4 rfl, hpre 5 rfl⟩
 refine Sy.heap hH ?_
 obtain rfl := (q4 h4).2 hs
 refine Sy.heap (H' := (bif s 5 then [(b9, cel 33 x9)] else []) ++ ((b8, cel 25 [.int .i64 0, .int .i64 0, .int .i64 0, .int .i64 0, .int .i64 0, .int .i64 0, .int .i64 0, .int .i64 0, .slice none 0 0]) :: ((b2, cel 25 (btl b (b.sl ab cb))) :: H))) (fun w h => by rw [h4] at h; exact h) ?_
 refine stoE (l' := btl b (b.sl a1 c1)) rfl (q4 h4).1 (q1 h1).1 cn25 rfl rfl rfl rfl (Nat.le_refl _) ?_
 exact hK _ _ _ ⟨a1, c1, a2, c2, b8, btl b (b.sl a1 c1), b9, x9, hL0, hR0, fun h => (q0 h), fun h => ⟨(q1 h).1, (q1 h).2⟩, fun h => (q2 h), fun h => ⟨(q3 h).1, (q3 h).2⟩, fun h => ⟨(q4 h).1, fun h => by cases (show true = false from h)⟩, fun h => ⟨(q5 h).1, (q5 h).2⟩, fun _ => rfl, fun h => q7 h, fun w h => by show St ((bif s 5 then [(b9, cel 33 x9)] else []) ++ ((bif s 4 then [(b8, cel 25 (btl b (b.sl a1 c1)))] else []) ++ ((b2, cel 25 (btl b (b.sl ab cb))) :: H))) Rz w; rw [h4]; exact h⟩
 intro s Lz Hz Rz hdn hs hpre hI K hK
 obtain ⟨a1, c1, a2, c2, b8, x8, b9, x9, hL0, hR0, q0, q1, q2, q3, q4, q5, q6, q7, hH⟩ := hI
 obtain ⟨h0, h1, h2, h3, h4, h5, h6⟩ : s 0 = true ∧ s 1 = true ∧ s 2 = true ∧ s 3 = true ∧ s 4 = true ∧ s 5 = true ∧ s 6 = true := ⟨hpre 0 rfl, hpre 1 rfl, hpre 2 rfl, hpre 3 rfl, hpre 4 rfl, hpre 5 rfl, hpre 6 rfl⟩
 refine Sy.heap hH ?_
 obtain rfl := (q5 h5).2 hs
 refine Sy.heap (H' := (b9, cel 33 [.int .i64 0, .int .i64 0, .int .i64 0, .int .i64 0, .int .i64 0, .int .i64 0, .int .i64 0, .int .i64 0, .slice none 0 0]) :: ((bif s 4 then [(b8, cel 25 x8)] else []) ++ ((b2, cel 25 (btl b (b.sl ab cb))) :: H))) (fun w h => by rw [h5] at h; exact h) ?_
 refine stoE (l' := btl b (b.sl a2 c2)) rfl (q5 h5).1 (q3 h3).1 cn33 rfl rfl rfl rfl (Nat.le_refl _) ?_
 exact hK _ _ _ ⟨a1, c1, a2, c2, b8, x8, b9, btl b (b.sl a2 c2), hL0, hR0, fun h => (q0 h), fun h => ⟨(q1 h).1, (q1 h).2⟩, fun h => (q2 h), fun h => ⟨(q3 h).1, (q3 h).2⟩, fun h => ⟨(q4 h).1, (q4 h).2⟩, fun h => ⟨(q5 h).1, fun h => by cases (show true = false from h)⟩, fun h => q6 h, fun _ => rfl, fun w h => by show St ((bif s 5 then [(b9, cel 33 (btl b (b.sl a2 c2)))] else []) ++ ((bif s 4 then [(b8, cel 25 x8)] else []) ++ ((b2, cel 25 (btl b (b.sl ab cb))) :: H))) Rz w; rw [h5]; exact h⟩
 intro Lz Hz Rz hI
 obtain ⟨a1, c1, a2, c2, b8, x8, b9, x9, hL0, hR0, q0, q1, q2, q3, q4, q5, q6, q7, hH⟩ := hI
 obtain rfl := q7 rfl
 obtain rfl := q6 rfl
 refine Sy.weak (L' := [(9, .pointer (some ⟨b9, 0, none⟩)), (8, .pointer (some ⟨b8, 0, none⟩)), (1, .slice aw W.length cw), (2, .pointer (some ⟨b2, 0, none⟩)), (5, .slice am W.length cm)]) (H' := (b9, cel 33 (btl b (b.sl a2 c2))) :: (b8, cel 25 (btl b (b.sl a1 c1))) :: (b2, cel 25 (btl b (b.sl ab cb))) :: H) (R' := RowsA a2 4 (brows b.bins) :: RowsA a1 4 (brows b.bins) :: RowsA am 2 (werows M) :: InW M :: R) ?_ (Sub.cons (q5 rfl).1 (Sub.cons (q4 rfl).1 hL0)).lk (fun w h => St.facts (hH w h) (fin_cons (q3 rfl).2 (fin_cons (q1 rfl).2 hR0)))
 refine sy_seq ?_
 refine sy_tx' [0, 1, 2] rfl ?_
 refine spL rfl rfl (lhA (btl b (b.sl a2 c2)) ag33 rfl rfl rfl) rfl ?_
 refine clV rfl cal22 rfl rfl (c_rCheck b a2 c2 hl hr _ _) ?_
 refine sp rfl (PE.assign rfl) rfl ?_
 refine sy_seq ?_
 refine sy_tx' [0, 1, 2, 3] rfl ?_
 refine sp rfl (PE.move rfl) rfl ?_
 refine sp rfl (PE.assign rfl) rfl ?_
 refine sp rfl (PE.assign rfl) rfl ?_
 refine sp rfl (PE.assign rfl) rfl ?_
 refine sy_seq ?_
 refine sy_seq ?_
 refine sy_tx' [0, 1] rfl ?_
 refine sp rfl (PE.move rfl) rfl ?_
 refine sp rfl (PE.eql rfl rfl) rfl ?_
 refine sy_join (ι := {y : Int × Int // WWant b y.1 y.2}) (fun y => ⟨[(1, .slice aw W.length cw), (2, .pointer (some ⟨b2, 0, none⟩)), (5, .slice am W.length cm), (8, .pointer (some ⟨b8, 0, none⟩)), (9, .pointer (some ⟨b9, 0, none⟩)), (10, .int .i64 y.1.1), (11, .int .i64 (shwE b (wls W)).2), (12, .int .i64 (shwE b (wls W)).1), (13, .int .i64 y.1.2)], (b9, cel 33 (btl b (b.sl a2 c2))) :: (b8, cel 25 (btl b (b.sl a1 c1))) :: (b2, cel 25 (btl b (b.sl ab cb))) :: H, RowsA a2 4 (brows b.bins) :: RowsA a1 4 (brows b.bins) :: RowsA am 2 (werows M) :: InW M :: R⟩) ?_ ?_
 refine sy_cond rfl (fun hc3 => ?_) (fun hc3 => ?_)
 try simp only [decide_eq_true_eq, decide_eq_false_iff_not, Bool.and_eq_true, Bool.or_eq_true, Bool.not_eq_true', Int.not_le, Int.not_lt] at hc3
 have hck : b.check = 0 := hc3
 have hok := Barn.ok_of hr hck
 have hmn := hok.many
 rw [hck]
 refine sy_seq ?_
 refine sy_draw [0, 0, 2, 7, 15, 31, 31, 63, 255] (.ld 0 (.tk 1 (.big 2 (.big 3 (.tk 4 (.tk 5 (.tk 6 (.tk 7 (.tk 8 .done))))))))) mixed (by kernel_rfl) ?_
 refine ld rfl rfl (lhA (btl b (b.sl a2 c2)) ag33 rfl rfl rfl) rfl ?_
 refine tk rfl (PE.move rfl) rfl ?_
 refine cl rfl cal59 rfl rfl (c_walled W aw cw (by omega) _ _) ?_
 rintro _ _ R1 ⟨a3, c3, rfl, rfl, hR1⟩
 obtain rfl := hR1.symm
 clear hR1
 refine bg (fun w hs => ⟨(lhA (btl b (b.sl a2 c2)) ag33 rfl rfl rfl) w hs, trivial⟩) ?_
 refine clV rfl cal58 rfl rfl (c_rShows b a2 c2 hok W a3 c3 (by omega) (fun x hx => by have := hx8 x hx; omega) _ _) ?_
 refine bg (fun w hs => ⟨trivial, trivial⟩) ?_
 refine tk rfl (PE.move rfl) rfl ?_
 refine tk rfl (PE.extract rfl rfl) rfl ?_
 refine tk rfl (PE.extract rfl rfl) rfl ?_
 refine tk rfl (PE.assign rfl) rfl ?_
 refine tk rfl (PE.assign rfl) rfl ?_
 refine sy_seq ?_
 refine sy_tx' [0, 1, 2] rfl ?_
 refine spL rfl rfl (lhA (btl b (b.sl a2 c2)) ag33 rfl rfl rfl) rfl ?_
 refine cl rfl cal34 rfl rfl (c_rLongest b a2 c2 hok _ _) ?_
 rintro _ _ _ ⟨⟨m, hm, rfl⟩, rfl, rfl⟩
 refine sp rfl (PE.assign rfl) rfl ?_
 refine sy_seq ?_
 refine sy_tx' [0, 1] rfl ?_
 refine sp rfl (PE.move rfl) rfl ?_
 refine sp rfl (PE.eql rfl rfl) rfl ?_
 refine sy_cond rfl (fun hc4 => ?_) (fun hc4 => ?_)
 try simp only [decide_eq_true_eq, decide_eq_false_iff_not, Bool.and_eq_true, Bool.or_eq_true, Bool.not_eq_true', Int.not_le, Int.not_lt] at hc4
 refine sy_tx' [0] rfl ?_
 refine sp rfl (PE.assign rfl) rfl ?_
 exact sy_jend ⟨(6, m), ⟨.inr ⟨hck, hm, .inl ⟨hc4, rfl⟩⟩⟩⟩ (by dsimp only; rw [shwE_ok hck]; exact (by repeat' first | exact Sub.nil | apply Sub.cons | rfl | (simp [lk]; omega))) (fun w h => h.facts (fun g hg => by simp only [List.mem_cons] at hg ⊢; rcases hg with hg | hg | hg | hg | hg <;> simp [hg]))
 try simp only [decide_eq_true_eq, decide_eq_false_iff_not, Bool.and_eq_true, Bool.or_eq_true, Bool.not_eq_true', Int.not_le, Int.not_lt] at hc4
 refine sy_skip ?_
 exact sy_jend ⟨(0, m), ⟨.inr ⟨hck, hm, .inr ⟨hc4, rfl⟩⟩⟩⟩ (by dsimp only; rw [shwE_ok hck]; exact (by repeat' first | exact Sub.nil | apply Sub.cons | rfl | (simp [lk]; omega))) (fun w h => h.facts (fun g hg => by simp only [List.mem_cons] at hg ⊢; rcases hg with hg | hg | hg | hg | hg <;> simp [hg]))
 try simp only [decide_eq_true_eq, decide_eq_false_iff_not, Bool.and_eq_true, Bool.or_eq_true, Bool.not_eq_true', Int.not_le, Int.not_lt] at hc3
 have hck : b.check ≠ 0 := hc3
 refine sy_skip ?_
 exact sy_jend ⟨(b.check, 0), ⟨.inl ⟨hck, rfl⟩⟩⟩ (by dsimp only; rw [shwE_bad hck]; exact (by repeat' first | exact Sub.nil | apply Sub.cons | rfl | (simp [lk]; omega))) (fun w h => h)
 rintro ⟨⟨w, lo⟩, hw⟩
 dsimp only at hw ⊢
 refine sy_seq ?_
 refine sy_tx' [0, 1, 2, 3, 4, 5, 6] rfl ?_
 refine spL rfl rfl (lhA (btl b (b.sl a1 c1)) ag25 rfl rfl rfl) rfl ?_
 refine cl rfl cal60 rfl rfl (c_WallX b a1 c1 hl hr hw _ _) ?_
 rintro _ _ R1 ⟨L, al, cz, hL1, hL2, rfl, rfl, hR1⟩
 obtain rfl := hR1.symm
 clear hR1
 refine sp rfl (PE.move rfl) rfl ?_
 refine sp rfl (PE.extract rfl rfl) rfl ?_
 refine sp rfl (PE.extract rfl rfl) rfl ?_
 refine sp rfl (PE.assign rfl) rfl ?_
 refine sp rfl (PE.assign rfl) rfl ?_
 refine sy_seq ?_
 refine sy_tx' [0, 1, 2, 3, 4, 5, 6, 7] rfl ?_
 refine spL rfl rfl (lhA (btl b (b.sl a1 c1)) ag25 rfl rfl rfl) rfl ?_
 refine sp rfl (PE.move rfl) rfl ?_
 refine clV rfl cal61 rfl rfl (c_ShowsN b a1 c1 hl hr M am cm hMl hM (by omega) (fun x hx => by have h1 := wls_mem hx; rw [hM] at h1; obtain ⟨y, hy, e⟩ := List.mem_map.1 h1; have h2 := hx8 y hy; have h3 : y.l = x.l := congrArg Prod.fst e; rw [← h3]; omega) _ _) ?_
 refine sp rfl (PE.move rfl) rfl ?_
 refine sp rfl (PE.extract rfl rfl) rfl ?_
 refine sp rfl (PE.extract rfl rfl) rfl ?_
 refine sp rfl (PE.assign rfl) rfl ?_
 refine sp rfl (PE.assign rfl) rfl ?_
 refine sy_seq ?_
 refine sy_seq ?_
 refine sy_tx' [0, 1, 2, 3, 4, 5, 6, 7, 8, 9, 10, 11, 12, 13, 14, 15, 16, 17, 18, 19, 20, 21] rfl ?_
 refine sp rfl (PE.move rfl) rfl ?_
 refine sp rfl (PE.move rfl) rfl ?_
 refine sp rfl (PE.neq rfl rfl) rfl ?_
 refine sp rfl (PE.move rfl) rfl ?_
 refine sy_case (t := 85) rfl (fun g85 => ?_) (fun g85 => ?_)
 exact absurd g85 (by simp)
 refine spG rfl rfl rfl rfl (PE.move rfl) rfl ?_
 refine spG rfl rfl rfl rfl (PE.move rfl) rfl ?_
 refine spG rfl rfl rfl rfl (PE.neq rfl rfl) rfl ?_
 refine sp rfl (PE.pick rfl rfl rfl) rfl ?_
 refine sp rfl (PE.move rfl) rfl ?_
 refine sy_case (t := 90) rfl (fun g90 => ?_) (fun g90 => ?_)
 exact absurd g90 (by simp)
 refine spG rfl rfl rfl rfl (PE.move rfl) rfl ?_
 refine spG rfl rfl rfl rfl (PE.move rfl) rfl ?_
 refine spG rfl rfl rfl rfl (PE.neq rfl rfl) rfl ?_
 refine sp rfl (PE.pick rfl rfl rfl) rfl ?_
 refine sp rfl (PE.move rfl) rfl ?_
 refine sy_case (t := 95) rfl (fun g95 => ?_) (fun g95 => ?_)
 exact absurd g95 (by simp)
 refine spG rfl rfl rfl rfl (PE.move rfl) rfl ?_
 refine spG rfl rfl rfl rfl (PE.neq rfl rfl) rfl ?_
 refine spG rfl rfl rfl rfl (PE.move rfl) rfl ?_
 refine sy_case (t := 98) rfl (fun g98 => ?_) (fun g98 => ?_)
 rw [hL1 (of_decide_eq_true g98)]
 refine spG rfl rfl rfl rfl (PE.move rfl) rfl ?_
 refine spG rfl rfl rfl rfl (PE.lenSl isl91 rfl) rfl ?_
 refine spG rfl rfl rfl rfl (PE.gtr rfl rfl) rfl ?_
 refine spG rfl rfl rfl rfl (PE.pick rfl rfl rfl) rfl ?_
 refine sp rfl (PE.pick rfl rfl rfl) rfl ?_
 refine sy_cond rfl (fun hc5 => ?_) (fun hc5 => ?_)
 exact absurd hc5 (by simp)
 refine sy_skip ?_
 refine sy_seq ?_
 refine sy_seq ?_
 refine sy_tx' [0, 1] rfl ?_
 refine sp rfl (PE.move rfl) rfl ?_
 refine sp rfl (PE.eql rfl rfl) rfl ?_
 refine sy_cond rfl (fun hc6 => ?_) (fun hc6 => ?_)
 exact absurd (of_decide_eq_true hc6) (of_decide_eq_true g98)
 try simp only [decide_eq_true_eq, decide_eq_false_iff_not, Bool.and_eq_true, Bool.or_eq_true, Bool.not_eq_true', Int.not_le, Int.not_lt] at hc6
 refine sy_skip ?_
 refine sy_seq ?_
 refine sy_seq ?_
 refine sy_tx' [0, 1, 2] rfl ?_
 refine sp rfl (PE.move rfl) rfl ?_
 refine sp rfl (PE.lenSl isl91 rfl) rfl ?_
 refine sp rfl (PE.move rfl) rfl ?_
 refine sy_block ?_
 refine sy_loop (ι := {i : Nat // i ≤ W.length}) (fun i => ⟨[(1, .slice aw W.length cw), (2, .pointer (some ⟨b2, 0, none⟩)), (5, .slice am W.length cm), (8, .pointer (some ⟨b8, 0, none⟩)), (9, .pointer (some ⟨b9, 0, none⟩)), (137, .slice aw W.length cw), (138, .int .i64 W.length), (139, .int .i64 i.1)], (b9, cel 33 (btl b (b.sl a2 c2))) :: (b8, cel 25 (btl b (b.sl a1 c1))) :: (b2, cel 25 (btl b (b.sl ab cb))) :: H, RowsA a2 4 (brows b.bins) :: RowsA a1 4 (brows b.bins) :: RowsA am 2 (werows M) :: InW M :: R⟩) (fun i => W.length - i.1) ⟨0, Nat.zero_le _⟩ ?_ (fun i => ?_)
 exact sy_at (by repeat' first | exact Sub.nil | apply Sub.cons | rfl | (simp [lk]; omega)) (fun w h => h.facts (fun g hg => by simp only [List.mem_cons] at hg ⊢; rcases hg with hg | hg | hg | hg | hg <;> simp [hg]))
 obtain ⟨i, hi⟩ := i
 dsimp only at hi ⊢
 refine sy_seq ?_
 refine sy_tx' [0] rfl ?_
 refine sp rfl (PE.lss rfl rfl) rfl ?_
 refine sy_seq ?_
 refine sy_cond rfl (fun hc9 => ?_) (fun hc9 => ?_)
 try simp only [decide_eq_true_eq, decide_eq_false_iff_not, Bool.and_eq_true, Bool.or_eq_true, Bool.not_eq_true', Int.not_le, Int.not_lt] at hc9
 obtain ⟨x, hx⟩ : ∃ x, W[i]? = some x := ⟨_, List.getElem?_eq_getElem (by omega)⟩
 have hxm := List.mem_of_getElem? hx
 obtain ⟨y, hy⟩ : ∃ y, M[i]? = some y := ⟨_, List.getElem?_eq_getElem (by omega)⟩
 have hym := List.mem_of_getElem? hy
 have hxy : (x.l, x.d) = (y.l, y.d) := by have h1 := wls_get hx; have h2 := wls_get hy; rw [hM, h1] at h2; exact Option.some.inj h2
 have hxyl : x.l = y.l := congrArg Prod.fst hxy
 have hxyd : x.d = y.d := congrArg Prod.snd hxy
 have hxl8 := hx8 x hxm
 refine sy_addr (a := aw) (sz := 2) (rows := werows W) (by intro h0; have := congrArg List.length h0; rw [werows_len] at this; simp only [List.length_nil] at this; omega) (fun bw ow he => ?_)
 subst he
 refine sy_addr (a := am) (sz := 2) (rows := werows M) (by intro h0; have := congrArg List.length h0; rw [werows_len] at this; simp only [List.length_nil] at this; omega) (fun bm om he => ?_)
 subst he
 refine Sy.heap (fun w h => St.inwAt (x := x) h hxm) ?_
 refine Sy.heap (fun w h => St.inwAt (x := y) h hym) ?_
 refine sy_skip ?_
 refine sy_seq ?_
 refine sy_block ?_
 refine sy_seq ?_
 refine sy_tx' [0, 1, 2, 3, 4, 5] rfl ?_
 refine sp rfl (PE.move rfl) rfl ?_
 refine sp rfl (PE.indexAddr el91 rfl rfl (by omega) (by omega)) rfl ?_
 refine spL rfl rfl (lfA ag93 (row := werow x) (we_get hx) rfl) rfl ?_
 refine alc rfl zl93 rfl (fun b21 => ?_)
 refine sp rfl (PE.assign rfl) rfl ?_
 refine stoE (l' := werow x) rfl rfl rfl cn93 rfl rfl rfl rfl (Nat.le_of_ble_eq_true rfl) ?_
 refine sy_seq ?_
 refine sy_draw [0, 0, 3, 7, 15, 0, 32, 127, 255, 511, 511, 2047, 4095, 8191, 511, 16895, 65535, 131071, 262143] (.tk 0 (.tk 1 (.tk 2 (.tk 3 (.ld 4 (.tk 5 (.ld 6 (.tk 7 (.tk 8 (.tk 9 (.tk 10 (.tk 11 (.tk 12 (.ld 13 (.tk 14 (.ld 15 (.big 16 (.tk 17 (.tk 18 .done))))))))))))))))))) mixed (by kernel_rfl) ?_
 refine tk rfl (PE.move rfl) rfl ?_
 refine tk rfl (PE.move rfl) rfl ?_
 refine tk rfl (PE.indexAddr el91 rfl rfl (by omega) (by omega)) rfl ?_
 refine tk rfl (PE.fieldAddr fo93_1 rfl) rfl ?_
 refine ld rfl rfl (lf (j := 1) (row := werow y) sc3 (we_get hy) rfl) rfl ?_
 refine tk rfl (PE.fieldAddr fo93_1 rfl) rfl ?_
 refine ld rfl rfl (lh sc3 rfl rfl) rfl ?_
 refine tk rfl (PE.neq rfl rfl) rfl ?_
 refine tk rfl (PE.move rfl) rfl ?_
 refine sy_case (t := 152) rfl (fun g152 => ?_) (fun g152 => ?_)
 exact absurd g152 (by rw [hxyd]; simp)
 refine tkG rfl rfl rfl rfl (PE.move rfl) rfl ?_
 refine tkG rfl rfl rfl rfl (PE.move rfl) rfl ?_
 refine tkG rfl rfl rfl rfl (PE.indexAddr el91 rfl rfl (by omega) (by omega)) rfl ?_
 refine tkG rfl rfl rfl rfl (PE.fieldAddr fo93_0 rfl) rfl ?_
 refine ldG rfl rfl rfl rfl rfl (lf (j := 0) (row := werow y) sc40 (we_get hy) rfl) rfl ?_
 refine tkG rfl rfl rfl rfl (PE.fieldAddr fo93_0 rfl) rfl ?_
 refine ldG rfl rfl rfl rfl rfl (lh sc40 rfl rfl) rfl ?_
 refine clVG rfl rfl rfl rfl cal62 rfl rfl (c_Eq_int y.l x.l y.a x.a y.c x.c (by rw [← hxyl]; omega) (by omega) _ _) ?_
 refine bg (fun w hs => ⟨trivial, trivial, trivial, trivial, trivial⟩) ?_
 refine tkG rfl rfl rfl rfl (PE.not rfl) rfl ?_
 refine tk rfl (PE.pick rfl rfl rfl) rfl ?_
 refine sy_cond rfl (fun hc10 => ?_) (fun hc10 => ?_)
 exact absurd hc10 (by rw [hxyl]; simp)
 refine sy_skip ?_
 refine sy_tx' [0, 1] rfl ?_
 refine sp rfl (PE.add rfl rfl (by omega)) rfl ?_
 refine sp rfl (PE.move rfl) rfl ?_
 exact sy_next ⟨i + 1, by omega⟩ (by dsimp only; omega) (by repeat' first | exact Sub.nil | apply Sub.cons | rfl | (simp [lk]; omega)) (fun w h => (h.del b21).ftail.ftail)
 try simp only [decide_eq_true_eq, decide_eq_false_iff_not, Bool.and_eq_true, Bool.or_eq_true, Bool.not_eq_true', Int.not_le, Int.not_lt] at hc9
 refine sy_exit ?_
 repeat refine sy_tx ?_
 refine sy_bx ?_
 refine sy_seq ?_
 refine sy_tx' [0, 1, 2, 3, 4, 5, 6] rfl ?_
 refine spL rfl rfl (lhA (btl b (b.sl a1 c1)) ag25 rfl rfl rfl) rfl ?_
 refine spL rfl rfl (lhA (btl b (b.sl ab cb)) ag25 rfl rfl rfl) rfl ?_
 refine clV rfl cal31 rfl rfl (c_same b a1 c1 b ab cb hl hl hr hr _ _) ?_
 refine sp rfl (PE.move rfl) rfl ?_
 refine sy_case (t := 167) rfl (fun g167 => ?_) (fun g167 => ?_)
 refine clVG rfl rfl rfl rfl cal18 rfl rfl (c_awake _ _) ?_
 refine sp rfl (PE.pick rfl rfl rfl) rfl ?_
 refine sp rfl (PE.assign rfl) rfl ?_
 refine sy_ret ?_
 exact sy_return (vs := [_]) rfl (.cons (RV.tmp rfl) .nil) rfl ⟨rfl, rfl, rfl⟩ (fun w h => (((h.del b9).del b8).del b2).facts (fun g hg => by simp [hg]))
 rw [sameB_iff.2 rfl] at g167; exact absurd g167 (by decide)
 repeat refine spN rfl rfl rfl rfl rfl rfl rfl rfl ?_
 refine spG rfl rfl rfl rfl (PE.pick rfl rfl rfl) rfl ?_
 refine sp rfl (PE.pick rfl rfl rfl) rfl ?_
 refine sy_condF rfl ?_
 refine sy_skip ?_
 refine sy_seq ?_
 refine sy_seq ?_
 refine sy_tx' [0, 1] rfl ?_
 refine sp rfl (PE.move rfl) rfl ?_
 refine sp rfl (PE.eql rfl rfl) rfl ?_
 refine sy_cond rfl (fun hc6 => ?_) (fun hc6 => ?_)
 try simp only [decide_eq_true_eq, decide_eq_false_iff_not, Bool.and_eq_true, Bool.or_eq_true, Bool.not_eq_true', Int.not_le, Int.not_lt] at hc6
 obtain ⟨hck, hlo, hlo2⟩ := hw.zero hc6
 obtain ⟨hsv, hLn, hLc⟩ := hL2 hc6
 have hok := Barn.ok_of hr hck
 have hmn := hok.many
 have hLz := (wlErr_zero (shw_zero (W := wls L) (by rw [hsv])).1).1
 rw [wls_len] at hLz
 have hL4 : ∀ x ∈ L, x.l.length ≤ 1000000 := fun x hx => by have := (stErr_zero ((wlErr_zero (shw_zero (W := wls L) (by rw [hsv])).1).2 _ (wls_mem hx))).1; dsimp only at this; omega
 have hn80 : b.dsk.nst ≤ 80 := by unfold wideV at g24; rw [Bool.or_eq_false_iff, decide_eq_true hck, Bool.true_and] at g24; have := of_decide_eq_false g24.2; omega
 refine sy_seq ?_
 refine sy_seq ?_
 refine sy_tx' [0, 1, 2, 3, 4, 5, 6, 7] rfl ?_
 refine sp rfl (PE.move rfl) rfl ?_
 refine sp rfl (PE.lenSl isl91 rfl) rfl ?_
 refine sp rfl (PE.eql rfl rfl) rfl ?_
 refine sp rfl (PE.move rfl) rfl ?_
 refine sy_case (t := 109) rfl (fun g109 => ?_) (fun g109 => ?_)
 simp only [decide_eq_true_eq] at g109; omega
 refine spG rfl rfl rfl rfl (PE.move rfl) rfl ?_
 refine spG rfl rfl rfl rfl (PE.lenSl isl91 rfl) rfl ?_
 refine spG rfl rfl rfl rfl (PE.gtr rfl rfl) rfl ?_
 refine sp rfl (PE.pick rfl rfl rfl) rfl ?_
 refine sy_cond rfl (fun hc7 => ?_) (fun hc7 => ?_)
 simp only [decide_eq_true_eq] at hc7; omega
 refine sy_skip ?_
 refine sy_seq ?_
 refine sy_draw [0, 0, 0, 4, 12, 30, 62, 127, 255, 511, 511, 1023, 4095] (.ld 0 (.tk 1 (.tk 2 (.tk 3 (.tk 4 (.tk 5 (.big 6 (.big 7 (.tk 8 (.tk 9 (.tk 10 (.tk 11 (.tk 12 .done))))))))))))) mixed (by kernel_rfl) ?_
 refine ld rfl rfl (lhA (btl b (b.sl a2 c2)) ag33 rfl rfl rfl) rfl ?_
 refine tk rfl (PE.move rfl) rfl ?_
 refine tk rfl (PE.move rfl) rfl ?_
 refine tk rfl (PE.lenSl isl91 rfl) rfl ?_
 refine tk rfl (PE.min rfl rfl) rfl ?_
 rw [show min ((L.length : Nat) : Int) 1000 = ((L.length : Nat) : Int) by omega]
 refine tk rfl (PE.slHi (h := L.length) sl91 rfl rfl (by omega)) rfl ?_
 refine cl rfl cal59 rfl rfl (c_walled L al cz (by omega) _ _) ?_
 rintro _ _ R1 ⟨a5, c5, rfl, rfl, hR1⟩
 obtain rfl := hR1.symm
 clear hR1
 refine bg (fun w hs => ⟨(lhA (btl b (b.sl a2 c2)) ag33 rfl rfl rfl) w hs, trivial⟩) ?_
 refine clV rfl cal58 rfl rfl (c_rShowsN b a2 c2 hok L a5 c5 hsv (by omega) hL4 _ _) ?_
 refine bg (fun w hs => ⟨trivial, trivial⟩) ?_
 refine tk rfl (PE.move rfl) rfl ?_
 refine tk rfl (PE.extract rfl rfl) rfl ?_
 refine tk rfl (PE.extract rfl rfl) rfl ?_
 refine tk rfl (PE.assign rfl) rfl ?_
 refine tk rfl (PE.assign rfl) rfl ?_
 refine sy_seq ?_
 refine sy_tx' [0, 1, 2, 3, 4, 5, 6, 7, 8, 9, 10, 11] rfl ?_
 refine sp rfl (PE.move rfl) rfl ?_
 refine sp rfl (PE.lenSl isl91 rfl) rfl ?_
 refine sp rfl (PE.leq rfl rfl) rfl ?_
 refine sp rfl (PE.move rfl) rfl ?_
 refine sy_case (t := 128) rfl (fun g128 => ?_) (fun g128 => ?_)
 refine spG rfl rfl rfl rfl (PE.move rfl) rfl ?_
 refine spG rfl rfl rfl rfl (PE.neq rfl rfl) rfl ?_
 refine spG rfl rfl rfl rfl (PE.move rfl) rfl ?_
 refine sy_case (t := 131) rfl (fun g131 => ?_) (fun g131 => ?_)
 exact absurd g131 (by simp)
 refine spG rfl rfl rfl rfl (PE.move rfl) rfl ?_
 refine spG rfl rfl rfl rfl (PE.move rfl) rfl ?_
 refine spG rfl rfl rfl rfl (PE.neq rfl rfl) rfl ?_
 refine spG rfl rfl rfl rfl (PE.pick rfl rfl rfl) rfl ?_
 refine sp rfl (PE.pick rfl rfl rfl) rfl ?_
 refine sy_cond rfl (fun hc8 => ?_) (fun hc8 => ?_)
 exact absurd hc8 (by simp)
 refine sy_skip ?_
 refine sy_seq ?_
 refine sy_seq ?_
 refine sy_tx' [0, 1, 2] rfl ?_
 refine sp rfl (PE.move rfl) rfl ?_
 refine sp rfl (PE.lenSl isl91 rfl) rfl ?_
 refine sp rfl (PE.move rfl) rfl ?_
 refine sy_block ?_
 refine sy_loop (ι := {i : Nat // i ≤ W.length}) (fun i => ⟨[(1, .slice aw W.length cw), (2, .pointer (some ⟨b2, 0, none⟩)), (5, .slice am W.length cm), (8, .pointer (some ⟨b8, 0, none⟩)), (9, .pointer (some ⟨b9, 0, none⟩)), (137, .slice aw W.length cw), (138, .int .i64 W.length), (139, .int .i64 i.1)], (b9, cel 33 (btl b (b.sl a2 c2))) :: (b8, cel 25 (btl b (b.sl a1 c1))) :: (b2, cel 25 (btl b (b.sl ab cb))) :: H, RowsA a2 4 (brows b.bins) :: RowsA a1 4 (brows b.bins) :: RowsA am 2 (werows M) :: InW M :: R⟩) (fun i => W.length - i.1) ⟨0, Nat.zero_le _⟩ ?_ (fun i => ?_)
 exact sy_at (by repeat' first | exact Sub.nil | apply Sub.cons | rfl | (simp [lk]; omega)) (fun w h => h.facts (fun g hg => by simp only [List.mem_cons] at hg ⊢; rcases hg with hg | hg | hg | hg | hg <;> simp [hg]))
 obtain ⟨i, hi⟩ := i
 dsimp only at hi ⊢
 refine sy_seq ?_
 refine sy_tx' [0] rfl ?_
 refine sp rfl (PE.lss rfl rfl) rfl ?_
 refine sy_seq ?_
 refine sy_cond rfl (fun hc9 => ?_) (fun hc9 => ?_)
 try simp only [decide_eq_true_eq, decide_eq_false_iff_not, Bool.and_eq_true, Bool.or_eq_true, Bool.not_eq_true', Int.not_le, Int.not_lt] at hc9
 obtain ⟨x, hx⟩ : ∃ x, W[i]? = some x := ⟨_, List.getElem?_eq_getElem (by omega)⟩
 have hxm := List.mem_of_getElem? hx
 obtain ⟨y, hy⟩ : ∃ y, M[i]? = some y := ⟨_, List.getElem?_eq_getElem (by omega)⟩
 have hym := List.mem_of_getElem? hy
 have hxy : (x.l, x.d) = (y.l, y.d) := by have h1 := wls_get hx; have h2 := wls_get hy; rw [hM, h1] at h2; exact Option.some.inj h2
 have hxyl : x.l = y.l := congrArg Prod.fst hxy
 have hxyd : x.d = y.d := congrArg Prod.snd hxy
 have hxl8 := hx8 x hxm
 refine sy_addr (a := aw) (sz := 2) (rows := werows W) (by intro h0; have := congrArg List.length h0; rw [werows_len] at this; simp only [List.length_nil] at this; omega) (fun bw ow he => ?_)
 subst he
 refine sy_addr (a := am) (sz := 2) (rows := werows M) (by intro h0; have := congrArg List.length h0; rw [werows_len] at this; simp only [List.length_nil] at this; omega) (fun bm om he => ?_)
 subst he
 refine Sy.heap (fun w h => St.inwAt (x := x) h hxm) ?_
 refine Sy.heap (fun w h => St.inwAt (x := y) h hym) ?_
 refine sy_skip ?_
 refine sy_seq ?_
 refine sy_block ?_
 refine sy_seq ?_
 refine sy_tx' [0, 1, 2, 3, 4, 5] rfl ?_
 refine sp rfl (PE.move rfl) rfl ?_
 refine sp rfl (PE.indexAddr el91 rfl rfl (by omega) (by omega)) rfl ?_
 refine spL rfl rfl (lfA ag93 (row := werow x) (we_get hx) rfl) rfl ?_
 refine alc rfl zl93 rfl (fun b21 => ?_)
 refine sp rfl (PE.assign rfl) rfl ?_
 refine stoE (l' := werow x) rfl rfl rfl cn93 rfl rfl rfl rfl (Nat.le_of_ble_eq_true rfl) ?_
 refine sy_seq ?_
 refine sy_draw [0, 0, 3, 7, 15, 0, 32, 127, 255, 511, 511, 2047, 4095, 8191, 511, 16895, 65535, 131071, 262143] (.tk 0 (.tk 1 (.tk 2 (.tk 3 (.ld 4 (.tk 5 (.ld 6 (.tk 7 (.tk 8 (.tk 9 (.tk 10 (.tk 11 (.tk 12 (.ld 13 (.tk 14 (.ld 15 (.big 16 (.tk 17 (.tk 18 .done))))))))))))))))))) mixed (by kernel_rfl) ?_
 refine tk rfl (PE.move rfl) rfl ?_
 refine tk rfl (PE.move rfl) rfl ?_
 refine tk rfl (PE.indexAddr el91 rfl rfl (by omega) (by omega)) rfl ?_
 refine tk rfl (PE.fieldAddr fo93_1 rfl) rfl ?_
 refine ld rfl rfl (lf (j := 1) (row := werow y) sc3 (we_get hy) rfl) rfl ?_
 refine tk rfl (PE.fieldAddr fo93_1 rfl) rfl ?_
 refine ld rfl rfl (lh sc3 rfl rfl) rfl ?_
 refine tk rfl (PE.neq rfl rfl) rfl ?_
 refine tk rfl (PE.move rfl) rfl ?_
 refine sy_case (t := 152) rfl (fun g152 => ?_) (fun g152 => ?_)
 exact absurd g152 (by rw [hxyd]; simp)
 refine tkG rfl rfl rfl rfl (PE.move rfl) rfl ?_
 refine tkG rfl rfl rfl rfl (PE.move rfl) rfl ?_
 refine tkG rfl rfl rfl rfl (PE.indexAddr el91 rfl rfl (by omega) (by omega)) rfl ?_
 refine tkG rfl rfl rfl rfl (PE.fieldAddr fo93_0 rfl) rfl ?_
 refine ldG rfl rfl rfl rfl rfl (lf (j := 0) (row := werow y) sc40 (we_get hy) rfl) rfl ?_
 refine tkG rfl rfl rfl rfl (PE.fieldAddr fo93_0 rfl) rfl ?_
 refine ldG rfl rfl rfl rfl rfl (lh sc40 rfl rfl) rfl ?_
 refine clVG rfl rfl rfl rfl cal62 rfl rfl (c_Eq_int y.l x.l y.a x.a y.c x.c (by rw [← hxyl]; omega) (by omega) _ _) ?_
 refine bg (fun w hs => ⟨trivial, trivial, trivial, trivial, trivial⟩) ?_
 refine tkG rfl rfl rfl rfl (PE.not rfl) rfl ?_
 refine tk rfl (PE.pick rfl rfl rfl) rfl ?_
 refine sy_cond rfl (fun hc10 => ?_) (fun hc10 => ?_)
 exact absurd hc10 (by rw [hxyl]; simp)
 refine sy_skip ?_
 refine sy_tx' [0, 1] rfl ?_
 refine sp rfl (PE.add rfl rfl (by omega)) rfl ?_
 refine sp rfl (PE.move rfl) rfl ?_
 exact sy_next ⟨i + 1, by omega⟩ (by dsimp only; omega) (by repeat' first | exact Sub.nil | apply Sub.cons | rfl | (simp [lk]; omega)) (fun w h => (h.del b21).ftail.ftail)
 try simp only [decide_eq_true_eq, decide_eq_false_iff_not, Bool.and_eq_true, Bool.or_eq_true, Bool.not_eq_true', Int.not_le, Int.not_lt] at hc9
 refine sy_exit ?_
 repeat refine sy_tx ?_
 refine sy_bx ?_
 refine sy_seq ?_
 refine sy_tx' [0, 1, 2, 3, 4, 5, 6] rfl ?_
 refine spL rfl rfl (lhA (btl b (b.sl a1 c1)) ag25 rfl rfl rfl) rfl ?_
 refine spL rfl rfl (lhA (btl b (b.sl ab cb)) ag25 rfl rfl rfl) rfl ?_
 refine clV rfl cal31 rfl rfl (c_same b a1 c1 b ab cb hl hl hr hr _ _) ?_
 refine sp rfl (PE.move rfl) rfl ?_
 refine sy_case (t := 167) rfl (fun g167 => ?_) (fun g167 => ?_)
 refine clVG rfl rfl rfl rfl cal18 rfl rfl (c_awake _ _) ?_
 refine sp rfl (PE.pick rfl rfl rfl) rfl ?_
 refine sp rfl (PE.assign rfl) rfl ?_
 refine sy_ret ?_
 exact sy_return (vs := [_]) rfl (.cons (RV.tmp rfl) .nil) rfl ⟨rfl, rfl, rfl⟩ (fun w h => (((h.del b9).del b8).del b2).facts (fun g hg => by simp [hg]))
 rw [sameB_iff.2 rfl] at g167; exact absurd g167 (by decide)
 simp only [decide_eq_false_iff_not] at g128; omega
 try simp only [decide_eq_true_eq, decide_eq_false_iff_not, Bool.and_eq_true, Bool.or_eq_true, Bool.not_eq_true', Int.not_le, Int.not_lt] at hc6
 refine sy_skip ?_
 refine sy_seq ?_
 refine sy_seq ?_
 refine sy_tx' [0, 1, 2] rfl ?_
 refine sp rfl (PE.move rfl) rfl ?_
 refine sp rfl (PE.lenSl isl91 rfl) rfl ?_
 refine sp rfl (PE.move rfl) rfl ?_
 refine sy_block ?_
 refine sy_loop (ι := {i : Nat // i ≤ W.length}) (fun i => ⟨[(1, .slice aw W.length cw), (2, .pointer (some ⟨b2, 0, none⟩)), (5, .slice am W.length cm), (8, .pointer (some ⟨b8, 0, none⟩)), (9, .pointer (some ⟨b9, 0, none⟩)), (137, .slice aw W.length cw), (138, .int .i64 W.length), (139, .int .i64 i.1)], (b9, cel 33 (btl b (b.sl a2 c2))) :: (b8, cel 25 (btl b (b.sl a1 c1))) :: (b2, cel 25 (btl b (b.sl ab cb))) :: H, RowsA a2 4 (brows b.bins) :: RowsA a1 4 (brows b.bins) :: RowsA am 2 (werows M) :: InW M :: R⟩) (fun i => W.length - i.1) ⟨0, Nat.zero_le _⟩ ?_ (fun i => ?_)
 exact sy_at (by repeat' first | exact Sub.nil | apply Sub.cons | rfl | (simp [lk]; omega)) (fun w h => h.facts (fun g hg => by simp only [List.mem_cons] at hg ⊢; rcases hg with hg | hg | hg | hg | hg <;> simp [hg]))
 obtain ⟨i, hi⟩ := i
 dsimp only at hi ⊢
 refine sy_seq ?_
 refine sy_tx' [0] rfl ?_
 refine sp rfl (PE.lss rfl rfl) rfl ?_
 refine sy_seq ?_
 refine sy_cond rfl (fun hc9 => ?_) (fun hc9 => ?_)
 try simp only [decide_eq_true_eq, decide_eq_false_iff_not, Bool.and_eq_true, Bool.or_eq_true, Bool.not_eq_true', Int.not_le, Int.not_lt] at hc9
 obtain ⟨x, hx⟩ : ∃ x, W[i]? = some x := ⟨_, List.getElem?_eq_getElem (by omega)⟩
 have hxm := List.mem_of_getElem? hx
 obtain ⟨y, hy⟩ : ∃ y, M[i]? = some y := ⟨_, List.getElem?_eq_getElem (by omega)⟩
 have hym := List.mem_of_getElem? hy
 have hxy : (x.l, x.d) = (y.l, y.d) := by have h1 := wls_get hx; have h2 := wls_get hy; rw [hM, h1] at h2; exact Option.some.inj h2
 have hxyl : x.l = y.l := congrArg Prod.fst hxy
 have hxyd : x.d = y.d := congrArg Prod.snd hxy
 have hxl8 := hx8 x hxm
 refine sy_addr (a := aw) (sz := 2) (rows := werows W) (by intro h0; have := congrArg List.length h0; rw [werows_len] at this; simp only [List.length_nil] at this; omega) (fun bw ow he => ?_)
 subst he
 refine sy_addr (a := am) (sz := 2) (rows := werows M) (by intro h0; have := congrArg List.length h0; rw [werows_len] at this; simp only [List.length_nil] at this; omega) (fun bm om he => ?_)
 subst he
 refine Sy.heap (fun w h => St.inwAt (x := x) h hxm) ?_
 refine Sy.heap (fun w h => St.inwAt (x := y) h hym) ?_
 refine sy_skip ?_
 refine sy_seq ?_
 refine sy_block ?_
 refine sy_seq ?_
 refine sy_tx' [0, 1, 2, 3, 4, 5] rfl ?_
 refine sp rfl (PE.move rfl) rfl ?_
 refine sp rfl (PE.indexAddr el91 rfl rfl (by omega) (by omega)) rfl ?_
 refine spL rfl rfl (lfA ag93 (row := werow x) (we_get hx) rfl) rfl ?_
 refine alc rfl zl93 rfl (fun b21 => ?_)
 refine sp rfl (PE.assign rfl) rfl ?_
 refine stoE (l' := werow x) rfl rfl rfl cn93 rfl rfl rfl rfl (Nat.le_of_ble_eq_true rfl) ?_
 refine sy_seq ?_
 refine sy_draw [0, 0, 3, 7, 15, 0, 32, 127, 255, 511, 511, 2047, 4095, 8191, 511, 16895, 65535, 131071, 262143] (.tk 0 (.tk 1 (.tk 2 (.tk 3 (.ld 4 (.tk 5 (.ld 6 (.tk 7 (.tk 8 (.tk 9 (.tk 10 (.tk 11 (.tk 12 (.ld 13 (.tk 14 (.ld 15 (.big 16 (.tk 17 (.tk 18 .done))))))))))))))))))) mixed (by kernel_rfl) ?_
 refine tk rfl (PE.move rfl) rfl ?_
 refine tk rfl (PE.move rfl) rfl ?_
 refine tk rfl (PE.indexAddr el91 rfl rfl (by omega) (by omega)) rfl ?_
 refine tk rfl (PE.fieldAddr fo93_1 rfl) rfl ?_
 refine ld rfl rfl (lf (j := 1) (row := werow y) sc3 (we_get hy) rfl) rfl ?_
 refine tk rfl (PE.fieldAddr fo93_1 rfl) rfl ?_
 refine ld rfl rfl (lh sc3 rfl rfl) rfl ?_
 refine tk rfl (PE.neq rfl rfl) rfl ?_
 refine tk rfl (PE.move rfl) rfl ?_
 refine sy_case (t := 152) rfl (fun g152 => ?_) (fun g152 => ?_)
 exact absurd g152 (by rw [hxyd]; simp)
 refine tkG rfl rfl rfl rfl (PE.move rfl) rfl ?_
 refine tkG rfl rfl rfl rfl (PE.move rfl) rfl ?_
 refine tkG rfl rfl rfl rfl (PE.indexAddr el91 rfl rfl (by omega) (by omega)) rfl ?_
 refine tkG rfl rfl rfl rfl (PE.fieldAddr fo93_0 rfl) rfl ?_
 refine ldG rfl rfl rfl rfl rfl (lf (j := 0) (row := werow y) sc40 (we_get hy) rfl) rfl ?_
 refine tkG rfl rfl rfl rfl (PE.fieldAddr fo93_0 rfl) rfl ?_
 refine ldG rfl rfl rfl rfl rfl (lh sc40 rfl rfl) rfl ?_
 refine clVG rfl rfl rfl rfl cal62 rfl rfl (c_Eq_int y.l x.l y.a x.a y.c x.c (by rw [← hxyl]; omega) (by omega) _ _) ?_
 refine bg (fun w hs => ⟨trivial, trivial, trivial, trivial, trivial⟩) ?_
 refine tkG rfl rfl rfl rfl (PE.not rfl) rfl ?_
 refine tk rfl (PE.pick rfl rfl rfl) rfl ?_
 refine sy_cond rfl (fun hc10 => ?_) (fun hc10 => ?_)
 exact absurd hc10 (by rw [hxyl]; simp)
 refine sy_skip ?_
 refine sy_tx' [0, 1] rfl ?_
 refine sp rfl (PE.add rfl rfl (by omega)) rfl ?_
 refine sp rfl (PE.move rfl) rfl ?_
 exact sy_next ⟨i + 1, by omega⟩ (by dsimp only; omega) (by repeat' first | exact Sub.nil | apply Sub.cons | rfl | (simp [lk]; omega)) (fun w h => (h.del b21).ftail.ftail)
 try simp only [decide_eq_true_eq, decide_eq_false_iff_not, Bool.and_eq_true, Bool.or_eq_true, Bool.not_eq_true', Int.not_le, Int.not_lt] at hc9
 refine sy_exit ?_
 repeat refine sy_tx ?_
 refine sy_bx ?_
 refine sy_seq ?_
 refine sy_tx' [0, 1, 2, 3, 4, 5, 6] rfl ?_
 refine spL rfl rfl (lhA (btl b (b.sl a1 c1)) ag25 rfl rfl rfl) rfl ?_
 refine spL rfl rfl (lhA (btl b (b.sl ab cb)) ag25 rfl rfl rfl) rfl ?_
 refine clV rfl cal31 rfl rfl (c_same b a1 c1 b ab cb hl hl hr hr _ _) ?_
 refine sp rfl (PE.move rfl) rfl ?_
 refine sy_case (t := 167) rfl (fun g167 => ?_) (fun g167 => ?_)
 refine clVG rfl rfl rfl rfl cal18 rfl rfl (c_awake _ _) ?_
 refine sp rfl (PE.pick rfl rfl rfl) rfl ?_
 refine sp rfl (PE.assign rfl) rfl ?_
 refine sy_ret ?_
 exact sy_return (vs := [_]) rfl (.cons (RV.tmp rfl) .nil) rfl ⟨rfl, rfl, rfl⟩ (fun w h => (((h.del b9).del b8).del b2).facts (fun g hg => by simp [hg]))
 rw [sameB_iff.2 rfl] at g167; exact absurd g167 (by decide)
end Go.Proofs.Ytelegnmfhjfbaaa
namespace Go.Proofs.Ytelegnmfhjfbaaa
set_option linter.unusedSimpArgs false
set_option linter.unusedVariables false
open Go Go.ChangeShapes Go.WideShapes Go.RowKit
section weigh
variable {H : Type} {enc : TypeId × Value → H} {P : Program} {w : World} {base : Nat} {spare : Nat → Bool} {held : Bool}
theorem weight_slice {t e fuel : Nat} {cs : List Value} {x : DataW H × List MemPlace} (hu : P.underlying t = some (.slice e)) (h : DataW.trod enc P w base spare held fuel t cs = some x) {a : Option Addr} {len cap : Nat} (hc : cs = [.slice a len cap]) {B : Nat} (hw : ∀ n ∈ x.1.weights P t, n ≤ B) : len * P.bytesOf e ≤ B := by
  rcases DataW.trod_slice hu h with ⟨h1, _⟩ | ⟨a', len', cap', elems, rest, n, _, h1, rfl, hb, hl, hm, hlen, _⟩
  · rw [h1] at hc
    simp only [List.cons.injEq, Value.slice.injEq, and_true] at hc
    rw [← hc.2.1]; simp
  · rw [h1] at hc
    simp only [List.cons.injEq, Value.slice.injEq, and_true] at hc
    have := hw ((elems.length + rest.length) * P.bytesOf e) (by simp [DataW.weights, hu])
    refine Nat.le_trans (Nat.mul_le_mul_right _ (by omega)) this
theorem weight_field {T e fuel k : Nat} {fs : Array Field} {cs : List Value} {x : DataW H × List MemPlace} {f : Field} (hu : P.underlying T = some (.struct fs)) (h : DataW.trod enc P w base spare held fuel T cs = some x) (hf : fs[k]? = some f) (hs : P.underlying f.type = some (.slice e)) {a : Option Addr} {len cap : Nat}
    (hc : (cs.drop f.offset).take (P.cellsOf f.type) = [.slice a len cap]) {B : Nat} (hw : ∀ n ∈ x.1.weights P T, n ≤ B) : len * P.bytesOf e ≤ B := by
  obtain ⟨xs, n, _, rfl, _, hxl, hx⟩ := DataW.trod_struct hu h
  have h1 := hx k f hf
  obtain ⟨y, hy⟩ : ∃ y, xs[k]? = some y := ⟨_, List.getElem?_eq_getElem (by rw [hxl]; exact (Array.getElem?_eq_some_iff.1 hf).1)⟩
  rw [hy] at h1
  refine weight_slice hs h1 hc fun m hm => hw m ?_
  show m ∈ (DataW.agg (xs.map (·.1))).weights P T
  simp only [DataW.weights, hu]
  exact DataW.weights_mem_each (j := k) (t := f.type) (d := y.1) (by rw [List.getElem?_map, Array.getElem?_toList, hf]; rfl) (by rw [List.getElem?_map, hy]; rfl) m hm
end weigh
end Go.Proofs.Ytelegnmfhjfbaaa
