/- Walks of the functions of the program, and the laws that join them: what the last theorem of this claim needs, in order. -/
import Derived.Test.YtelegnmfhjfbaaaGreatKp6
namespace Go.Proofs.YtelegnmfhjfbaaaGreat
set_option linter.unusedSimpArgs false
set_option linter.unusedVariables false
open Go
theorem ap32 : apT Tryz.prog 32 = some (37, 2, 32) := by kernel_rfl
theorem cal28 : cal Tryz.prog 28 = true := by kernel_rfl
theorem cn70 : cellN Tryz.prog 70 = some 1 := by kernel_rfl
theorem cn74 : cellN Tryz.prog 74 = some 1 := by kernel_rfl
theorem pl37 : placeL Tryz.prog 37 = some [(0, 1), (1, 1)] := by kernel_rfl
theorem sl32 : slE Tryz.prog 32 = some (37, 2) := by kernel_rfl
theorem zl70 : zeroL Tryz.prog 70 = some ([.map none]) := by kernel_rfl
theorem zl74 : zeroL Tryz.prog 74 = some ([.nilFunc]) := by kernel_rfl
def WallQ (b : Barn) (H : Heap) (R : Facts) : Value → Heap → Facts → Prop := fun v H' R' => H' = H ∧
  ((b.check ≠ 0 ∧ v = .tuple #[.slice none 0 0, .int .i64 b.check] ∧ R' = R) ∨
   (b.check = 0 ∧ Kpt b.dsk b.state 1000000 ∧ v = .tuple #[.slice none 0 0, .int .i64 6] ∧ R' = R) ∨
   (b.check = 0 ∧ ∃ (m : Int) (W : List WE) (aw : Option Addr) (cw : Nat), m ≠ 1000000 ∧ Kpt b.dsk b.state m ∧ shwV b (wls W) = (m, 0) ∧ W.length ≤ b.dsk.nst ∧ W.length ≤ cw ∧ (∀ x ∈ W, x.d ≤ m) ∧ v = .tuple #[.slice aw W.length cw, .int .i64 0] ∧
      R' = RowsA aw 2 (werows W) :: InW W :: R))
theorem lvl_mono {d : Dsk} (hd : d.ok) {n : Nat} (hn : n ≤ 14641) (hf : d.alive (n + 1) = d.alive n) {s t : HSt} (hs : d.inS s) (ht : d.inS t) (h : undP d.n s t = true) : d.lvl n s ≤ d.lvl n t :=
  (Les.kpt (d := d) (d' := d) ⟨rfl, Int.le_refl _, fun _ _ => Int.le_refl _⟩ hd hd hs ht (undP_iff.1 h) (kpt_of ((d.mem_sts hd s).2 hs) hn hf) (kpt_of ((d.mem_sts hd t).2 ht) hn hf)).1
theorem wlV_snoc {d : Dsk} {n : Nat} {V : List HSt} {j : Nat} {p : HSt} (h : V[j]? = some p) : wlV d n (V.take (j + 1)) = wlV d n (V.take j) ++ [(p.take d.n, d.lvl n p)] := by
  rw [take_snoc h]; unfold wlV; rw [List.map_append]; rfl
theorem strows_drop {V : List HSt} {j : Nat} {p : HSt} (h : V[j]? = some p) : strows (V.drop j) = ints p :: strows (V.drop (j + 1)) := by
  rw [List.drop_eq_getElem_cons (List.getElem?_eq_some_iff.1 h).1, (List.getElem?_eq_some_iff.1 h).2]; rfl
theorem strows_add {V : List HSt} {j : Nat} (h : j ≤ V.length) (u : HSt) : strows (V.drop j) ++ [ints u] = strows ((V ++ [u]).drop j) := by
  rw [List.drop_append_of_le_length h]; unfold strows; rw [List.map_append]; rfl
theorem lk_factE {H : Heap} {R : Facts} {kv : KV} {s : HSt} {v : Value} {m : Nat} (hs : s.length = 4) (hk : ∀ e ∈ kv, e.1.length = 4) (hg : kv.get s = some v) (hm : ∀ w, St H R w → w.heap[m]? = some (mapO true kv)) :
    ∀ w, St H R w → Lkp Tryz.prog 70 (.map (some m)) (mkv true s) false v w := fun w hw => by
  have h := lk_fact (b := true) kv s mke70 (KeyT.of eqf69 noa69) (run_zv zv3) hs hk hm false w hw
  rw [hg] at h
  exact h
set_option maxHeartbeats 1000000 in
theorem c_Wall (b : Barn) (ab : Option Addr) (cb : Nat) (hl : b.bins.length ≤ 9223372036854775807) (hr : b.rise.length = 6) (H : Heap) (R : Facts) [hB : MemRows ab 4 (brows b.bins) R] :
    Fn Tryz.prog 6 [b.v (b.sl ab cb)] H R (WallQ b H R) := by
 refine fnM_of Tryz.func6 rfl Tryz.ntmps6 rfl ?_
 refine sy_seq ?_
 refine sy_tx' [0, 1, 2] rfl ?_
 refine bx rfl rfl rfl (fun b1 => ?_)
 refine sp rfl (PE.assign rfl) rfl ?_
 refine sp rfl (PE.assign rfl) rfl ?_
 refine sy_seq ?_
 refine sy_tx' [0, 1, 2, 3, 4, 5, 6, 7] rfl ?_
 refine spL rfl rfl (lhA (btl b (b.sl ab cb)) ag27 rfl rfl rfl) rfl ?_
 refine cl rfl cal24 rfl rfl (c_opened b ab cb hl hr _ _) ?_
 rintro _ _ _ (⟨hck, rfl, rfl, rfl⟩ | ⟨hck, bd, m, rfl, rfl, rfl⟩)
 refine sp rfl (PE.move rfl) rfl ?_
 refine sp rfl (PE.extract rfl rfl) rfl ?_
 refine sp rfl (PE.extract rfl rfl) rfl ?_
 refine alc rfl zl65 rfl (fun b4 => ?_)
 refine sto rfl rfl rfl cn65 rfl rfl rfl rfl ?_
 refine sp rfl (PE.assign rfl) rfl ?_
 refine sy_seq ?_
 refine sy_seq ?_
 refine sy_tx' [0, 1] rfl ?_
 refine sp rfl (PE.move rfl) rfl ?_
 refine sp rfl (PE.neq rfl rfl) rfl ?_
 refine sy_condT (congrArg (fun b => some (Value.bool b)) (decide_eq_true hck)) ?_
 refine sy_seq ?_
 refine sy_tx' [0, 1, 2] rfl ?_
 refine sp rfl (PE.move rfl) rfl ?_
 refine sp rfl (PE.assign rfl) rfl ?_
 refine sp rfl (PE.assign rfl) rfl ?_
 refine sy_ret ?_
 exact sy_returnM [] (fun _ h => h) rfl (.cons (RV.tmp rfl) (.cons (RV.tmp rfl) .nil)) rfl ⟨rfl, .inl ⟨hck, rfl, rfl⟩⟩ (fun w h => (h.del b4).del b1)
 ·
  have hok := Barn.ok_of hr hck
  have hdk := b.dsk_ok hok
  have hl4 := hdk.lasts.len
  have hm4 := hdk.most.len
  have hmn := hok.many
  refine sp rfl (PE.move rfl) rfl ?_
  refine sp rfl (PE.extract rfl rfl) rfl ?_
  refine sp rfl (PE.extract rfl rfl) rfl ?_
  refine alc rfl zl65 rfl (fun b4 => ?_)
  refine sto rfl rfl rfl cn65 rfl rfl rfl rfl ?_
  refine sp rfl (PE.assign rfl) rfl ?_
  refine sy_seq ?_
  refine sy_seq ?_
  refine sy_tx' [0, 1] rfl ?_
  refine sp rfl (PE.move rfl) rfl ?_
  refine sp rfl (PE.neq rfl rfl) rfl ?_
  refine sy_condF (rfl) ?_
  refine sy_skip ?_
  refine sy_seq ?_
  refine sy_tx' [0, 1] rfl ?_
  refine spL rfl rfl (lh sc65 rfl rfl) rfl ?_
  refine sy_pull m ?_
  refine cl rfl cal25 rfl rfl (c_work b hok ab cb bd m _ _) ?_
  rintro v _ _ ⟨n, kv, hn, hfx, hkv, rfl, rfl⟩
  have hst := b.state_sts hok
  have hsi := b.state_inS hok
  have hks := kpt_of hst hn hfx
  have hkg := hkv.get _ hst
  refine sy_seq ?_
  refine sy_seq ?_
  refine sy_draw [0, 1, 3, 7, 0, 16, 63, 127] (.ld 0 (.tk 1 (.tk 2 (.ld 3 (.ld 4 (.big 5 (.ld 6 (.tk 7 .done)))))))) mixed (by kernel_rfl) ?_
  refine ld rfl rfl (lh sc65 rfl rfl) rfl ?_
  refine tk rfl (PE.nilCheck rfl) rfl ?_
  refine tk rfl (PE.fieldAddr fo72_3 rfl) rfl ?_
  refine ld rfl rfl (lfB (sz := 18) sc70 (dcs_map hl4 hm4)) rfl ?_
  refine ld rfl rfl (lhA (btl b (b.sl ab cb)) ag27 rfl rfl rfl) rfl ?_
  refine clV rfl cal26 rfl rfl (c_state b ab cb hok _ _) ?_
  refine bg (fun w hs => ⟨trivial, (lfB (sz := 18) sc70 (dcs_map hl4 hm4)) w hs, (lh sc65 rfl rfl) w hs, trivial⟩) ?_
  refine ldK rfl rfl rfl ((lk_held (b := true) kv b.state mke70 (KeyT.of eqf69 noa69) (run_zv zv3) (b.state_sml hok).len hkv.len false)) rfl ?_
  rw [hkg]
  refine tk rfl (PE.eql rfl rfl) rfl ?_
  refine sy_cond rfl (fun hc1 => ?_) (fun hc1 => ?_)
  try simp only [decide_eq_true_eq, decide_eq_false_iff_not, Bool.and_eq_true, Bool.or_eq_true, Bool.not_eq_true', Int.not_le, Int.not_lt] at hc1
  refine sy_seq ?_
  refine sy_tx' [0, 1] rfl ?_
  refine sp rfl (PE.assign rfl) rfl ?_
  refine sp rfl (PE.assign rfl) rfl ?_
  refine sy_ret ?_
  exact sy_returnM [] (fun _ h => h) rfl (.cons (RV.tmp rfl) (.cons (RV.tmp rfl) .nil)) rfl ⟨rfl, .inr (.inl ⟨hck, hc1 ▸ hks, rfl, rfl⟩)⟩ (fun w h => St.sub (((h.del m).del b4).del b1))
  ·
   try simp only [decide_eq_true_eq, decide_eq_false_iff_not, Bool.and_eq_true, Bool.or_eq_true, Bool.not_eq_true', Int.not_le, Int.not_lt] at hc1
   have hkr := kpt_nn hks
   have hn14 := (b.dsk.nst_le hdk).2
   refine sy_skip ?_
   refine sy_seq ?_
   refine sy_tx' [0] rfl ?_
   refine alc rfl zl74 rfl (fun b6 => ?_)
   refine sy_seq ?_
   refine sy_tx' [0, 1] rfl ?_
   refine sp rfl (PE.makeFunc rfl rfl) rfl ?_
   refine sto rfl rfl rfl cn74 rfl rfl rfl rfl ?_
   refine sy_seq ?_
   refine sy_tx' [0, 1, 2, 3] rfl ?_
   refine Sy.heap (fun w h => St.kpf (h.pull m)) ?_
   refine Sy.heap (fun w h => St.rows (sz := 1) (rows := [[.pointer (some ⟨bd, 0, none⟩)]]) (rest := []) (h.pull b4) (by simp)) ?_
   refine Sy.heap (fun w h => St.rows (sz := 1) (rows := [[.func (.func 27) #[] #[.pointer (some ⟨b4, 0, none⟩), .pointer (some ⟨b6, 0, none⟩)]]]) (rest := []) (h.pull b6) (by simp)) ?_
   refine spL rfl rfl (lhA (btl b (b.sl ab cb)) ag27 rfl rfl rfl) rfl ?_
   refine clV rfl cal26 rfl rfl (c_state b ab cb hok _ _) ?_
   refine alc rfl zl69 rfl (fun b7 => ?_)
   refine stoA rfl rfl rfl cn69 rfl (by rw [ints_length]; exact hsi.len) rfl (ints_one _) ?_
   refine sy_seq ?_
   refine sy_draw [0, 0, 0, 4, 12, 28, 0, 124, 255, 511, 0, 2047] (.ld 0 (.ld 1 (.ld 2 (.tk 3 (.tk 4 (.ld 5 (.ld 6 (.ld 7 (.any (.alt 8 (.any (.alt 9 (.big 10 (.big 11 .done)) (.alt 10 (.big 9 (.big 11 .done)) .stop))) (.alt 10 (.big 8 (.big 9 (.big 11 .done))) .stop))))))))))) mixed (by kernel_rfl) ?_
   refine ld rfl rfl (lfB (sz := 1) sc74 rfl) rfl ?_
   refine ld rfl rfl (lhA (rest := []) (ints b.state) ag69 rfl (by rw [List.append_nil]; rfl) (by rw [ints_length]; exact hsi.len)) rfl ?_
   refine ld rfl rfl (lfB (sz := 1) sc65 rfl) rfl ?_
   refine tk rfl (PE.nilCheck rfl) rfl ?_
   refine tk rfl (PE.fieldAddr fo72_3 rfl) rfl ?_
   refine ld rfl rfl (lfB (sz := 18) sc70 (dcs_map hl4 hm4)) rfl ?_
   refine ld rfl rfl (lhA (rest := []) (ints b.state) ag69 rfl (by rw [List.append_nil]; rfl) (by rw [ints_length]; exact hsi.len)) rfl ?_
   refine ldK rfl rfl rfl (lk_factE hsi.len hkv.len hkg (fun w hs => hs.now (MemF.mem (f := KpF m kv)))) rfl ?_
   refine sy_alt ?_ ?_
   ·
    refine clF rfl rfl (cal27) rfl rfl (c_raise b hok ab cb bd m n hn kv hkv b4 b6 (b.dsk.lvl n b.state) b.state hsi _ _) ?_
    rintro _ _ _ ⟨uf, huf, rfl, rfl, rfl⟩
    obtain ⟨f0, f1, f2, f3, rfl⟩ := list4 huf.inS.len
    refine bg (fun w hs => ⟨trivial, trivial, trivial, trivial, trivial, trivial, trivial⟩) ?_
    refine sy_alt ?_ ?_
    ·
     refine bsl (out := [_, _, _, _]) rfl sl75 zl69 rfl rfl rfl rfl rfl rfl (fun b47 => ?_)
     refine bg (fun w hs => trivial) ?_
     refine alc rfl zl75 rfl (fun b8 => ?_)
     refine bg (fun w hs => trivial) ?_
     refine sto rfl rfl rfl cn75 rfl rfl rfl rfl ?_
     refine bg (fun w hs => trivial) ?_
     refine sy_seq ?_
     refine sy_cut (ι := {x : (Nat × Nat × Nat × Nat) × HSt // Rz b.dsk n (b.dsk.lvl n b.state) b.state x.2}) (fun x => ⟨[(1, .pointer (some ⟨b1, 0, none⟩)), (4, .pointer (some ⟨b4, 0, none⟩)), (6, .pointer (some ⟨b6, 0, none⟩)), (8, .pointer (some ⟨x.1.1.1, 0, none⟩)), (9, .pointer (some ⟨x.1.1.2.1, 0, none⟩))], (x.1.1.1, cel 75 [.slice (some ⟨x.1.1.2.2.2, 0, none⟩) 1 1]) :: (x.1.1.2.1, cel 70 [.map (some x.1.1.2.2.1)]) :: (x.1.1.2.2.1, mapO true [(x.1.2, .int .i64 (b.dsk.lvl n b.state))]) :: (x.1.1.2.2.2, cel 69 (ints x.1.2)) :: (b1, cel 27 (btl b (b.sl ab cb))) :: H, RowsA (some ⟨b6, 0, none⟩) 1 [[.func (.func 27) #[] #[.pointer (some ⟨b4, 0, none⟩), .pointer (some ⟨b6, 0, none⟩)]]] :: RowsA (some ⟨b4, 0, none⟩) 1 [[.pointer (some ⟨bd, 0, none⟩)]] :: KpF m kv :: RowsA (some ⟨bd, 0, none⟩) 18 [dcs b (b.sl ab cb) b.lasts b.most m] :: R⟩) ?_ ?_
     refine sy_draw [0, 0, 2, 6, 0, 16, 48, 112, 0, 496, 1023, 2047, 0, 8191] (.ld 1 (.tk 2 (.ld 3 (.ld 4 (.tk 5 (.tk 6 (.ld 7 (.ld 8 (.ld 9 (.any (.alt 0 (.any (.alt 10 (.tk 11 (.big 12 (.big 13 .done))) (.alt 12 (.big 10 (.tk 11 (.big 13 .done))) .stop))) (.alt 12 (.big 0 (.big 10 (.tk 11 (.big 13 .done)))) .stop)))))))))))) mixed (by kernel_rfl) ?_
     refine ld rfl rfl (lh sc75 rfl rfl) rfl ?_
     refine tk rfl (PE.indexAddr el75 rfl rfl (by decide) (by decide)) rfl ?_
     refine ld rfl rfl (lhA (rest := []) (ints [f0, f1, f2, f3]) ag69 rfl (by rw [List.append_nil]; rfl) (by rw [ints_length]; exact rfl)) rfl ?_
     refine ld rfl rfl (lfB (sz := 1) sc65 rfl) rfl ?_
     refine tk rfl (PE.nilCheck rfl) rfl ?_
     refine tk rfl (PE.fieldAddr fo72_3 rfl) rfl ?_
     refine ld rfl rfl (lfB (sz := 18) sc70 (dcs_map hl4 hm4)) rfl ?_
     refine ld rfl rfl (lhA (rest := []) (ints b.state) ag69 rfl (by rw [List.append_nil]; rfl) (by rw [ints_length]; exact hsi.len)) rfl ?_
     refine ldK rfl rfl rfl (lk_factE hsi.len hkv.len hkg (fun w hs => hs.now (MemF.mem (f := KpF m kv)))) rfl ?_
     refine sy_alt ?_ ?_
     refine mkm rfl rfl true (fun m48 => ?_)
     refine bg (fun w hs => ⟨(lk_factE hsi.len hkv.len hkg (fun w hs => hs.now (MemF.mem (f := KpF m kv)))) w hs, (lhA (rest := []) (ints b.state) ag69 rfl (by rw [List.append_nil]; rfl) (by rw [ints_length]; exact hsi.len)) w hs, (lfB (sz := 18) sc70 (dcs_map hl4 hm4)) w hs, (lfB (sz := 1) sc65 rfl) w hs, (lhA (rest := []) (ints [f0, f1, f2, f3]) ag69 rfl (by rw [List.append_nil]; rfl) (by rw [ints_length]; exact rfl)) w hs, (lh sc75 rfl rfl) w hs, trivial⟩) ?_
     refine sy_alt ?_ ?_
     refine mpi [] [f0, f1, f2, f3] rfl mke70 (KeyT.of eqf69 noa69) rfl rfl rfl rfl (by simp) ?_
     refine bg (fun w hs => ⟨trivial, trivial, trivial, trivial, trivial, trivial, trivial⟩) ?_
     refine tk rfl (PE.move rfl) rfl ?_
     refine alc rfl zl70 rfl (fun b9 => ?_)
     refine bg (fun w hs => trivial) ?_
     refine sto rfl rfl rfl cn70 rfl rfl rfl rfl ?_
     refine bg (fun w hs => trivial) ?_
     exact sy_cutEnd ⟨((b8, b9, m48, b47), [f0, f1, f2, f3]), huf⟩ (by repeat' first | exact Sub.nil | apply Sub.cons | rfl | (simp [lk]; omega)) (fun w h => (((((h.pull b1).pull b47).pull m48).pull b9).pull b8 |>.del b7))
     refine sy_alt ?_ ?_
     refine alc rfl zl70 rfl (fun b9 => ?_)
     refine bg (fun w hs => ⟨(lk_factE hsi.len hkv.len hkg (fun w hs => hs.now (MemF.mem (f := KpF m kv)))) w hs, (lhA (rest := []) (ints b.state) ag69 rfl (by rw [List.append_nil]; rfl) (by rw [ints_length]; exact hsi.len)) w hs, (lfB (sz := 18) sc70 (dcs_map hl4 hm4)) w hs, (lfB (sz := 1) sc65 rfl) w hs, (lhA (rest := []) (ints [f0, f1, f2, f3]) ag69 rfl (by rw [List.append_nil]; rfl) (by rw [ints_length]; exact rfl)) w hs, (lh sc75 rfl rfl) w hs, trivial⟩) ?_
     refine mpi [] [f0, f1, f2, f3] rfl mke70 (KeyT.of eqf69 noa69) rfl rfl rfl rfl (by simp) ?_
     refine bg (fun w hs => ⟨trivial, trivial, trivial, trivial, trivial, trivial, trivial⟩) ?_
     refine tk rfl (PE.move rfl) rfl ?_
     refine sto rfl rfl rfl cn70 rfl rfl rfl rfl ?_
     refine bg (fun w hs => trivial) ?_
     exact sy_cutEnd ⟨((b8, b9, m48, b47), [f0, f1, f2, f3]), huf⟩ (by repeat' first | exact Sub.nil | apply Sub.cons | rfl | (simp [lk]; omega)) (fun w h => (((((h.pull b1).pull b47).pull m48).pull b9).pull b8 |>.del b7))
     exact sy_stop
     refine sy_alt ?_ ?_
     refine alc rfl zl70 rfl (fun b9 => ?_)
     refine bg (fun w hs => ⟨(lk_factE hsi.len hkv.len hkg (fun w hs => hs.now (MemF.mem (f := KpF m kv)))) w hs, (lhA (rest := []) (ints b.state) ag69 rfl (by rw [List.append_nil]; rfl) (by rw [ints_length]; exact hsi.len)) w hs, (lfB (sz := 18) sc70 (dcs_map hl4 hm4)) w hs, (lfB (sz := 1) sc65 rfl) w hs, (lhA (rest := []) (ints [f0, f1, f2, f3]) ag69 rfl (by rw [List.append_nil]; rfl) (by rw [ints_length]; exact rfl)) w hs, (lh sc75 rfl rfl) w hs, trivial⟩) ?_
     refine mkm rfl rfl true (fun m48 => ?_)
     refine bg (fun w hs => ⟨(lk_factE hsi.len hkv.len hkg (fun w hs => hs.now (MemF.mem (f := KpF m kv)))) w hs, (lhA (rest := []) (ints b.state) ag69 rfl (by rw [List.append_nil]; rfl) (by rw [ints_length]; exact hsi.len)) w hs, (lfB (sz := 18) sc70 (dcs_map hl4 hm4)) w hs, (lfB (sz := 1) sc65 rfl) w hs, (lhA (rest := []) (ints [f0, f1, f2, f3]) ag69 rfl (by rw [List.append_nil]; rfl) (by rw [ints_length]; exact rfl)) w hs, (lh sc75 rfl rfl) w hs, trivial⟩) ?_
     refine mpi [] [f0, f1, f2, f3] rfl mke70 (KeyT.of eqf69 noa69) rfl rfl rfl rfl (by simp) ?_
     refine bg (fun w hs => ⟨trivial, trivial, trivial, trivial, trivial, trivial, trivial⟩) ?_
     refine tk rfl (PE.move rfl) rfl ?_
     refine sto rfl rfl rfl cn70 rfl rfl rfl rfl ?_
     refine bg (fun w hs => trivial) ?_
     exact sy_cutEnd ⟨((b8, b9, m48, b47), [f0, f1, f2, f3]), huf⟩ (by repeat' first | exact Sub.nil | apply Sub.cons | rfl | (simp [lk]; omega)) (fun w h => (((((h.pull b1).pull b47).pull m48).pull b9).pull b8 |>.del b7))
     exact sy_stop
     ·
      rintro ⟨⟨⟨b8, b9, m48, b47⟩, uf⟩, huf⟩
      dsimp only at huf ⊢
      obtain ⟨f0, f1, f2, f3, rfl⟩ := list4 huf.inS.len
      have hfl : b.dsk.lvl n [f0, f1, f2, f3] = b.dsk.lvl n b.state := by
        have h1 := lvl_mono hdk hn hfx hsi huf.inS huf.le
        have h2 := (Bq.start huf).lv [f0, f1, f2, f3] (by simp)
        omega
      refine sy_seq ?_
      refine sy_tx' [0] rfl ?_
      refine sp rfl (PE.assign rfl) rfl ?_
      refine sy_seq ?_
      refine sy_block ?_
      obtain ⟨q0, hq0, hqG⟩ := OQ.one (e := 69) (sz := 4) b47 (row := ints [f0, f1, f2, f3]) rfl
      obtain ⟨q1, hq1, hqG1⟩ : ∃ q1 : OQ 69 4 (strows (([[f0, f1, f2, f3]] : List HSt).drop 0)), q1.fs = .slice (some ⟨b47, 0, none⟩) 1 1 ∧ q1.G = [(b47, cel 69 (ints [f0, f1, f2, f3]))] := ⟨q0, hq0, hqG⟩
      refine Sy.heap (H' := (b8, cel 75 [q1.fs]) :: (b9, cel 70 [.map (some m48)]) :: (m48, mapO true (kvL b.dsk n [[f0, f1, f2, f3]])) :: (q1.G ++ ((OSl.nil 37 2).G ++ (b1, cel 27 (btl b (b.sl ab cb))) :: (mkh [] ++ H)))) (R' := InW [] :: RowsA (some ⟨b6, 0, none⟩) 1 [[.func (.func 27) #[] #[.pointer (some ⟨b4, 0, none⟩), .pointer (some ⟨b6, 0, none⟩)]]] :: RowsA (some ⟨b4, 0, none⟩) 1 [[.pointer (some ⟨bd, 0, none⟩)]] :: KpF m kv :: RowsA (some ⟨bd, 0, none⟩) 18 [dcs b (b.sl ab cb) b.lasts b.most m] :: R) (fun w h => by
        rw [hq1, hqG1, show kvL b.dsk n [[f0, f1, f2, f3]] = [([f0, f1, f2, f3], .int .i64 (b.dsk.lvl n b.state))] by unfold kvL; simp [hfl]]
        exact St.inw0 (show St ((b8, cel 75 [.slice (some ⟨b47, 0, none⟩) 1 1]) :: (b9, cel 70 [.map (some m48)]) :: (m48, mapO true [([f0, f1, f2, f3], .int .i64 (b.dsk.lvl n b.state))]) :: (b47, cel 69 (ints [f0, f1, f2, f3])) :: (b1, cel 27 (btl b (b.sl ab cb))) :: H) _ w from h)) ?_
      refine sy_loopD (ι := (y : {y : List HSt × Nat × List WE × List Nat // Bq b.dsk n b.state y.1 y.2.1 ∧ y.2.1 ≤ y.1.length ∧ wls y.2.2.1 = wlV b.dsk n (y.1.take y.2.1)}) × (OSl 37 2 (werows y.1.2.2.1) × OQ 69 4 (strows (y.1.1.drop y.1.2.1)))) (fun y => ⟨[(1, .pointer (some ⟨b1, 0, none⟩)), (4, .pointer (some ⟨b4, 0, none⟩)), (6, .pointer (some ⟨b6, 0, none⟩)), (8, .pointer (some ⟨b8, 0, none⟩)), (9, .pointer (some ⟨b9, 0, none⟩)), (10, y.2.1.fs)], mks y.1.1.2.2.2, (b8, cel 75 [y.2.2.fs]) :: (b9, cel 70 [.map (some m48)]) :: (m48, mapO true (kvL b.dsk n y.1.1.1)) :: (y.2.2.G ++ (y.2.1.G ++ (b1, cel 27 (btl b (b.sl ab cb))) :: (mkh y.1.1.2.2.2 ++ H))), InW y.1.1.2.2.1 :: RowsA (some ⟨b6, 0, none⟩) 1 [[.func (.func 27) #[] #[.pointer (some ⟨b4, 0, none⟩), .pointer (some ⟨b6, 0, none⟩)]]] :: RowsA (some ⟨b4, 0, none⟩) 1 [[.pointer (some ⟨bd, 0, none⟩)]] :: KpF m kv :: RowsA (some ⟨bd, 0, none⟩) 18 [dcs b (b.sl ab cb) b.lasts b.most m] :: R⟩) (fun y => b.dsk.nst - y.1.1.2.1) ⟨⟨([[f0, f1, f2, f3]], 0, [], []), Bq.start huf, Nat.zero_le _, rfl⟩, OSl.nil _ _, q1⟩ ?_ (fun y => ?_)
      exact sy_atD (by repeat' first | exact Sub.nil | apply Sub.cons | rfl | (simp [lk]; omega)) rfl (fun _ h => h)
      ·
       obtain ⟨⟨⟨V, j, W, mk⟩, hbq, hjv, hwv⟩, o, q⟩ := y
       dsimp only at hbq hjv hwv o q ⊢
       have hfew := hbq.few hdk
       have hWl : W.length = j := by have := congrArg List.length hwv; unfold wlV at this; rw [wls_len, List.length_map, List.length_take] at this; omega
       have hqs : q.fs = .slice (some ⟨q.b, q.off, none⟩) (V.length - j) q.cap := by unfold OQ.fs; rw [strows_len, List.length_drop]
       rw [hqs]
       refine sy_seq ?_
       refine sy_seq ?_
       refine sy_tx' [0, 1, 2] rfl ?_
       refine spL rfl rfl (lh sc75 rfl rfl) rfl ?_
       refine sp rfl (PE.lenSl isl75 rfl) rfl ?_
       refine sp rfl (PE.gtr rfl rfl) rfl ?_
       refine sy_cond rfl (fun hc2 => ?_) (fun hc2 => ?_)
       ·
        try simp only [decide_eq_true_eq, decide_eq_false_iff_not, Bool.and_eq_true, Bool.or_eq_true, Bool.not_eq_true', Int.not_le, Int.not_lt] at hc2
        obtain ⟨p, hp⟩ : ∃ p, V[j]? = some p := ⟨_, List.getElem?_eq_getElem (by omega)⟩
        have hpV := List.mem_of_getElem? hp
        have hps := hbq.sts p hpV
        have hpl := hps.len
        have hpm := b.dsk.inS_sml hdk hps
        have hplv := hbq.lv p hpV
        have hpk := kpt_of ((b.dsk.mem_sts hdk p).2 hps) hn hfx
        have hpr := kpt_nn hpk
        have hpe : (ints p).length = 4 := by rw [ints_length]; exact hpl
        have hV4 : ∀ s ∈ V, s.length = 4 := fun s hs => (hbq.sts s hs).len
        refine Sy.heap (H' := (b8, cel 75 [.slice (some ⟨q.b, q.off, none⟩) (V.length - j) q.cap]) :: (b9, cel 70 [.map (some m48)]) :: (m48, mapO true (kvL b.dsk n V)) :: (q.b, cel 69 (q.pre ++ ((strows (V.drop j)).flatten ++ q.junk))) :: (o.G ++ (b1, cel 27 (btl b (b.sl ab cb))) :: (mkh mk ++ H))) (fun w h => h) ?_
        have hdr : (q.pre ++ ((strows (V.drop j)).flatten ++ q.junk)).drop (q.off + (0 : Int).toNat * 4) = ints p ++ ((strows (V.drop (j + 1))).flatten ++ q.junk) := by
          have hfl : (strows (V.drop j)).flatten = ints p ++ (strows (V.drop (j + 1))).flatten := by rw [strows_drop hp, List.flatten_cons]
          rw [hfl, show q.off + (0 : Int).toNat * 4 = q.pre.length by rw [q.pl]; simp, List.drop_left, List.append_assoc]
        obtain ⟨q2, hq2, hqG2⟩ := (q.cast (strows_drop hp)).pop
        have hqc : (q.cast (strows_drop hp)).b = q.b ∧ (q.cast (strows_drop hp)).off = q.off ∧ (q.cast (strows_drop hp)).cap = q.cap := by
          generalize strows_drop hp = e
          generalize ints p :: strows (V.drop (j + 1)) = r at e
          subst e; exact ⟨rfl, rfl, rfl⟩
        rw [hqc.1, hqc.2.1, hqc.2.2, strows_len, List.length_drop] at hq2
        rw [OQ.cast_G] at hqG2
        refine sy_skip ?_
        refine sy_block ?_
        refine sy_seq ?_
        refine sy_tx' [0, 1, 2, 3, 4] rfl ?_
        refine spL rfl rfl (lh sc75 rfl rfl) rfl ?_
        refine sp rfl (PE.indexAddr el75 rfl rfl (by omega) (by omega)) rfl ?_
        refine spL rfl rfl (lhA (ints p) ag69 rfl hdr hpe) rfl ?_
        refine alc rfl zl69 rfl (fun b11 => ?_)
        refine stoA rfl rfl rfl cn69 rfl (by rw [ints_length]; exact hpl) rfl (ints_one _) ?_
        refine sy_seq ?_
        refine sy_tx' [0, 1, 2] rfl ?_
        refine spL rfl rfl (lh sc75 rfl rfl) rfl ?_
        refine sp rfl (PE.slLoA (l := 1) sl75 rfl rfl (by omega)) rfl ?_
        have hq2e : Value.slice (if q.cap = 1 then some ⟨q.b, q.off, none⟩ else (some (⟨q.b, q.off, none⟩ : Addr)).map (·.add (1 * 4))) (V.length - j - 1) (q.cap - 1) = q2.fs := by
          rw [hq2, Option.map_some, addr_add, show V.length - (j + 1) = V.length - j - 1 by omega]
        rw [hq2e]
        refine stoE (l' := [q2.fs]) rfl rfl rfl cn75 rfl rfl rfl rfl (Nat.le_refl _) ?_
        refine Sy.heap (H' := (b11, cel 69 (ints p)) :: (b8, cel 75 [q2.fs]) :: (b9, cel 70 [.map (some m48)]) :: (m48, mapO true (kvL b.dsk n V)) :: (q2.G ++ (o.G ++ (b1, cel 27 (btl b (b.sl ab cb))) :: (mkh mk ++ H)))) (fun w h => by rw [hqG2]; exact h) ?_
        refine sy_seq ?_
        refine sy_draw [0, 0, 2, 6, 14, 30, 0, 0, 192, 510, 1022, 2047, 4095] (.tk 0 (.tk 1 (.ld 2 (.tk 3 (.tk 4 (.ld 6 (.ld 7 (.ld 8 (.big 5 (.tk 9 (.big 10 (.big 11 (.tk 12 .done))))))))))))) mixed (by kernel_rfl) ?_
        refine tk rfl (PE.move rfl) rfl ?_
        refine tk rfl (PE.fieldAddr fo27_3 rfl) rfl ?_
        refine ld rfl rfl (lh sc25 rfl rfl) rfl ?_
        refine tk rfl (PE.lenSl isl25 rfl) rfl ?_
        refine tk rfl (PE.slArrHi (h := b.bins.length) ar69 rfl rfl (by omega)) rfl ?_
        refine ld rfl rfl (lh sc70 rfl rfl) rfl ?_
        refine ld rfl rfl (lhA (rest := []) (ints p) ag69 rfl (by rw [List.append_nil]; rfl) (by rw [ints_length]; exact hpl)) rfl ?_
        refine ldK rfl rfl rfl (lk_factE hpl (kvL_len hV4) (kvL_get hpV) (heldM (x := m48))) rfl ?_
        refine cl rfl cal28 rfl rfl (c_Clone b11 69 b.bins.length 4 p (by omega) (by omega) _ _) ?_
        rintro _ _ _ ⟨ol, rfl, rfl, rfl⟩
        obtain ⟨ay, cy, he, hf⟩ := ol.freeze
        rw [he, irows_len]
        refine Sy.heap (fun w h => hf h) ?_
        clear he hf
        refine bg (fun w hs => ⟨(lk_factE hpl (kvL_len hV4) (kvL_get hpV) (heldM (x := m48))) w hs, (lhA (rest := []) (ints p) ag69 rfl (by rw [List.append_nil]; rfl) (by rw [ints_length]; exact hpl)) w hs, (lh sc70 rfl rfl) w hs, trivial, trivial⟩) ?_
        refine tk rfl (PE.build (out := [_, _]) pl37 zl37 rfl rfl) rfl ?_
        refine bsl (out := [_, _]) rfl sl32 zl37 rfl rfl rfl rfl rfl rfl (fun b77 => ?_)
        refine bg (fun w hs => ⟨trivial, trivial, trivial, trivial⟩) ?_
        refine apO (o) rfl ap32 rfl rfl (rowsH (row := werow ⟨ay, cy, p.take b.bins.length, b.dsk.lvl n p⟩) rfl) rfl rfl ((by rw [werows_len]; simp only [List.length_singleton]; omega)) rfl (fun o78 => ?_)
        refine bg (fun w hs => trivial) ?_
        refine tk rfl (PE.assign rfl) rfl ?_
        refine sy_seq ?_
        refine sy_tx' [0, 1] rfl ?_
        refine Sy.heap (fun w h => St.inwSnoc (l := W) ⟨ay, cy, p.take b.bins.length, b.dsk.lvl n p⟩ h) ?_
        obtain ⟨o78, e78, g78⟩ : ∃ o' : OSl 37 2 (werows (W ++ [⟨ay, cy, p.take b.bins.length, b.dsk.lvl n p⟩])), o'.fs = o78.fs ∧ o'.G = o78.G := ⟨o78.cast (by rw [werows_app]; rfl), rfl, rfl⟩
        rw [← e78]
        refine Sy.heap (H' := (b11, cel 69 (ints p)) :: (b8, cel 75 [q2.fs]) :: (b9, cel 70 [.map (some m48)]) :: (m48, mapO true (kvL b.dsk n V)) :: (q2.G ++ (o78.G ++ (b1, cel 27 (btl b (b.sl ab cb))) :: (mkh mk ++ H)))) (R' := InW (W ++ [⟨ay, cy, p.take b.bins.length, b.dsk.lvl n p⟩]) :: RowsA (some ⟨b6, 0, none⟩) 1 [[.func (.func 27) #[] #[.pointer (some ⟨b4, 0, none⟩), .pointer (some ⟨b6, 0, none⟩)]]] :: RowsA (some ⟨b4, 0, none⟩) 1 [[.pointer (some ⟨bd, 0, none⟩)]] :: KpF m kv :: RowsA (some ⟨bd, 0, none⟩) 18 [dcs b (b.sl ab cb) b.lasts b.most m] :: R) (fun w h => by rw [← g78] at h; exact St.sub (h.del b77)) ?_
        clear e78 g78
        refine spL rfl rfl (lfB (sz := 1) sc65 rfl) rfl ?_
        refine cl rfl cal29 rfl rfl (c_turnings bd false _ _) ?_
        rintro _ _ _ ⟨xb, xf, rfl, rfl, rfl⟩
        refine sy_block ?_
        refine sy_range rfl cal81 (fun c0 bl0 bd0 hcp0 hca0 hcb0 hck0 => ?_)
        refine ⟨fun st pend T R' => st = .ready ∧ pend = none ∧ ∃ (V' : List HSt) (q' : OQ 69 4 (strows (V'.drop (j + 1)))), Bq b.dsk n b.state V' j ∧ V'.take (j + 1) = V.take (j + 1) ∧ V'[j]? = some p ∧ CvK b.dsk n V' p ((b.dsk.trs false).length) ∧ T = (bd0, .deferred (some [])) :: (b11, cel 69 (ints p)) :: (b8, cel 75 [q'.fs]) :: (b9, cel 70 [.map (some m48)]) :: (m48, mapO true (kvL b.dsk n V')) :: (q'.G ++ (o78.G ++ (b1, cel 27 (btl b (b.sl ab cb))) :: (mkh mk ++ H))) ∧ R' = RowsA (some ⟨xf, 0, none⟩) 1 [[.bool false]] :: RowsA (some ⟨xb, 0, none⟩) 1 [[.pointer (some ⟨bd, 0, none⟩)]] :: InW (W ++ [⟨ay, cy, p.take b.bins.length, b.dsk.lvl n p⟩]) :: RowsA (some ⟨b6, 0, none⟩) 1 [[.func (.func 27) #[] #[.pointer (some ⟨b4, 0, none⟩), .pointer (some ⟨b6, 0, none⟩)]]] :: RowsA (some ⟨b4, 0, none⟩) 1 [[.pointer (some ⟨bd, 0, none⟩)]] :: KpF m kv :: RowsA (some ⟨bd, 0, none⟩) 18 [dcs b (b.sl ab cb) b.lasts b.most m] :: R,
          Fn.mono (c_turnings1 b hok ab cb bd m false xb xf bl0 (fun k H' R' => ∃ (V' : List HSt) (q' : OQ 69 4 (strows (V'.drop (j + 1)))), Bq b.dsk n b.state V' j ∧ V'.take (j + 1) = V.take (j + 1) ∧ V'[j]? = some p ∧ CvK b.dsk n V' p (k) ∧ H' = (bl0, lob c0 .ready none) :: (bd0, .deferred (some [])) :: (b11, cel 69 (ints p)) :: (b8, cel 75 [q'.fs]) :: (b9, cel 70 [.map (some m48)]) :: (m48, mapO true (kvL b.dsk n V')) :: (q'.G ++ (o78.G ++ (b1, cel 27 (btl b (b.sl ab cb))) :: (mkh mk ++ H))) ∧ R' = RowsA (some ⟨xf, 0, none⟩) 1 [[.bool false]] :: RowsA (some ⟨xb, 0, none⟩) 1 [[.pointer (some ⟨bd, 0, none⟩)]] :: InW (W ++ [⟨ay, cy, p.take b.bins.length, b.dsk.lvl n p⟩]) :: RowsA (some ⟨b6, 0, none⟩) 1 [[.func (.func 27) #[] #[.pointer (some ⟨b4, 0, none⟩), .pointer (some ⟨b6, 0, none⟩)]]] :: RowsA (some ⟨b4, 0, none⟩) 1 [[.pointer (some ⟨bd, 0, none⟩)]] :: KpF m kv :: RowsA (some ⟨bd, 0, none⟩) 18 [dcs b (b.sl ab cb) b.lasts b.most m] :: R)
            (fun _ _ => False)
            (fun k H' R' h => by obtain ⟨_, _, _, _, _, _, _, rfl⟩ := h; exact ⟨by simp, by simp, by simp⟩) (fun k l a c H' R' hk hI => ?_) _ _ ⟨V, q2, hbq, rfl, hp, fun i l hi => absurd hi (Nat.not_lt_zero _), rfl, rfl⟩) (fun v H' R' h => ?_), ?_⟩
        rotate_left
        · rcases h with ⟨V', q', h1, h2, h3, h4, rfl, rfl⟩ | h
          · exact ⟨.ready, none, _, by simp, .refl _, rfl, rfl, V', q', h1, h2, h3, h4, rfl, rfl⟩
          · exact h.elim
        rotate_left
        have hlm := List.mem_of_getElem? hk
        have hlt := b.dsk.trs_lt hlm
        have hll : l.length ≤ 1000000 := by
          obtain ⟨i, _, rfl⟩ := List.mem_map.1 (List.mem_filter.1 hlm).1
          have := bitl_len b.dsk.n i
          have := hdk.n
          omega
        obtain ⟨V1, q3, hb1, ht1, hp1, hcv, rfl, rfl⟩ := hI
        have hj1 := (List.getElem?_eq_some_iff.1 hp1).1
        have hf1 := hb1.few hdk
        have hp1V := List.mem_of_getElem? hp1
        have hV14 : ∀ s ∈ V1, s.length = 4 := fun s hs => (hb1.sts s hs).len
        refine yd_of hcp0 hca0 hcb0 hck0 rfl ?_
        refine sy_tx' [0] rfl ?_
        refine sp rfl (PE.assign rfl) rfl ?_
        refine sy_beginRound ?_
        refine sy_block ?_
        refine sy_seq ?_
        refine sy_tx' [0, 1, 2, 3, 4, 5, 6, 7, 8, 9] rfl ?_
        refine spL rfl rfl (lfB (sz := 1) sc65 rfl) rfl ?_
        refine spL rfl rfl (lhA (rest := []) (ints p) ag69 rfl (by rw [List.append_nil]; rfl) (by rw [ints_length]; exact hpl)) rfl ?_
        refine sp rfl (PE.move rfl) rfl ?_
        refine cl rfl cal30 rfl rfl (c_next b hok ab cb bd m p hpm l hlt hll a c _ _) ?_
        rintro _ _ _ ⟨rfl, rfl, rfl⟩
        rcases hnx : b.dsk.next p l with _ | t
        refine sp rfl (PE.move rfl) rfl ?_
        refine sp rfl (PE.extract rfl rfl) rfl ?_
        refine sp rfl (PE.extract rfl rfl) rfl ?_
        refine alc rfl zl69 rfl (fun b13 => ?_)
        first | (refine stoA rfl rfl rfl cn69 rfl rfl rfl (ints_one _) ?_) | (refine stoA rfl rfl rfl cn69 rfl (by rw [ints_length]; exact htl) rfl (ints_one _) ?_)
        refine sp rfl (PE.assign rfl) rfl ?_
        refine sy_seq ?_
        refine sy_seq ?_
        refine sy_tx' [0, 1] rfl ?_
        refine sp rfl (PE.move rfl) rfl ?_
        refine sp rfl (PE.not rfl) rfl ?_
        refine sy_condT rfl ?_
        refine sy_exit ?_
        refine sy_tx ?_
        refine sy_bx ?_
        exact sy_roundOn (.inl ⟨rfl, V1, q3, hb1, ht1, hp1, hcv.more hk (fun t ht => by rw [hnx] at ht; cases ht), rfl, rfl⟩) (fun _ h => (h.del b13).ftail)
        refine sp rfl (PE.move rfl) rfl ?_
        have hts := b.dsk.next_inS hdk hps hlt hnx
        have htl := hts.len
        have htlv : b.dsk.lvl n t < b.dsk.lvl n p := kpt_next hdk hps hlm hnx hpk (kpt_of ((b.dsk.mem_sts hdk t).2 hts) hn hfx) (by omega)
        refine sp rfl (PE.extract rfl rfl) rfl ?_
        refine sp rfl (PE.extract rfl rfl) rfl ?_
        refine alc rfl zl69 rfl (fun b13 => ?_)
        first | (refine stoA rfl rfl rfl cn69 rfl rfl rfl (ints_one _) ?_) | (refine stoA rfl rfl rfl cn69 rfl (by rw [ints_length]; exact htl) rfl (ints_one _) ?_)
        refine sp rfl (PE.assign rfl) rfl ?_
        refine sy_seq ?_
        refine sy_seq ?_
        refine sy_tx' [0, 1] rfl ?_
        refine sp rfl (PE.move rfl) rfl ?_
        refine sp rfl (PE.not rfl) rfl ?_
        refine sy_condF rfl ?_
        refine sy_skip ?_
        refine sy_seq ?_
        refine sy_draw [0, 0, 0, 0, 12, 28, 63, 127] (.ld 0 (.ld 1 (.ld 2 (.ld 3 (.ld 4 (.tk 5 (.big 6 (.big 7 .done)))))))) mixed (by kernel_rfl) ?_
        refine ld rfl rfl (lfB (sz := 1) sc74 rfl) rfl ?_
        refine ld rfl rfl (lhA (rest := []) (ints t) ag69 rfl (by rw [List.append_nil]; rfl) (by rw [ints_length]; exact htl)) rfl ?_
        refine ld rfl rfl (lh sc70 rfl rfl) rfl ?_
        refine ld rfl rfl (lhA (rest := []) (ints p) ag69 rfl (by rw [List.append_nil]; rfl) (by rw [ints_length]; exact hpl)) rfl ?_
        refine ldK rfl rfl rfl (lk_factE hpl (kvL_len hV14) (kvL_get hp1V) (heldM (x := m48))) rfl ?_
        refine tk rfl (PE.sub rfl rfl (by omega)) rfl ?_
        refine clF rfl rfl (cal27) rfl rfl (c_raise b hok ab cb bd m n hn kv hkv b4 b6 (b.dsk.lvl n p - 1) t hts _ _) ?_
        rintro _ _ _ ⟨uf, hu, rfl, rfl, rfl⟩
        obtain ⟨u0, u1, u2, u3, rfl⟩ := list4 hu.inS.len
        have hulv : b.dsk.lvl n [u0, u1, u2, u3] < b.dsk.lvl n p := by
          rcases hu.lv with h1 | h1
          · rw [h1]; exact htlv
          · omega
        have hum := (b.dsk.mem_sts hdk _).2 hu.inS
        have hukv := hkv.get _ hum
        have hcvu : ∀ V2 : List HSt, [u0, u1, u2, u3] ∈ V2 → ∀ t2, b.dsk.next p l = some t2 → ∃ u ∈ V2, undP b.dsk.n t2 u = true ∧ b.dsk.lvl n u < b.dsk.lvl n p := fun V2 hm t2 ht2 => by rw [hnx] at ht2; cases ht2; exact ⟨_, hm, hu.le, hulv⟩
        obtain ⟨go, hgo⟩ : ∃ go, (kvL b.dsk n V1).get [u0, u1, u2, u3] = go := ⟨_, rfl⟩
        refine bg (fun w hs => ⟨trivial, trivial, trivial, trivial, trivial, trivial⟩) ?_
        refine stoA rfl rfl rfl cn69 rfl (by rw [ints_length]; rfl) (by rw [ints_length]; exact htl) (ints_one _) ?_
        refine bg (fun w hs => trivial) ?_
        refine sy_seq ?_
        refine sy_tx' [0, 1, 2, 3, 4, 5, 6, 7] rfl ?_
        refine spL rfl rfl (lh sc70 rfl rfl) rfl ?_
        refine spL rfl rfl (lhA (rest := []) (ints [u0, u1, u2, u3]) ag69 rfl (by rw [List.append_nil]; rfl) (by rw [ints_length]; exact rfl)) rfl ?_
        refine spK rfl rfl rfl (lk_held (b := true) (kvL b.dsk n V1) [u0, u1, u2, u3] mke70 (KeyT.of eqf69 noa69) (run_zv zv3) rfl (kvL_len hV14) true) rfl ?_
        rw [hgo]
        refine sp rfl (PE.move rfl) rfl ?_
        refine sp rfl (PE.extract rfl rfl) rfl ?_
        refine sp rfl (PE.extract rfl rfl) rfl ?_
        refine sp rfl (PE.assign rfl) rfl ?_
        refine sp rfl (PE.assign rfl) rfl ?_
        refine sy_seq ?_
        refine sy_draw [0, 1, 3, 7, 7, 23, 55, 119, 7, 503, 1023, 2047] (.tk 0 (.tk 1 (.tk 2 (.tk 3 (.ld 4 (.tk 5 (.tk 6 (.ld 7 (.ld 8 (.ld 9 (.tk 10 (.tk 11 .done)))))))))))) mixed (by kernel_rfl) ?_
        refine tk rfl (PE.move rfl) rfl ?_
        refine tk rfl (PE.not rfl) rfl ?_
        refine tk rfl (PE.move rfl) rfl ?_
        refine sy_case (t := 106) rfl (fun g106 => ?_) (fun g106 => ?_)
        obtain rfl : go = none := by cases go with
          | none => rfl
          | some g => exact absurd g106 (by simp)
        have hun : [u0, u1, u2, u3] ∉ V1 := fun hm => by rw [kvL_get hm] at hgo; cases hgo
        refine tkN rfl rfl rfl rfl rfl rfl rfl rfl ?_
        refine ldN rfl rfl rfl rfl rfl rfl rfl rfl ?_
        repeat refine tkN rfl rfl rfl rfl rfl rfl rfl rfl ?_
        repeat refine ldN rfl rfl rfl rfl rfl rfl rfl rfl ?_
        refine tkN rfl rfl rfl rfl rfl rfl rfl rfl ?_
        refine tk rfl (PE.pick rfl rfl rfl) rfl ?_
        refine sy_condT rfl ?_
        refine sy_seq ?_
        refine sy_draw [0, 0, 0, 4, 12, 28, 0, 124, 255] (.ld 0 (.ld 1 (.ld 2 (.tk 3 (.tk 4 (.ld 5 (.ld 6 (.ld 7 (.big 8 .done))))))))) mixed (by kernel_rfl) ?_
        refine ld rfl rfl (lh sc70 rfl rfl) rfl ?_
        refine ld rfl rfl (lhA (rest := []) (ints [u0, u1, u2, u3]) ag69 rfl (by rw [List.append_nil]; rfl) (by rw [ints_length]; exact rfl)) rfl ?_
        refine ld rfl rfl (lfB (sz := 1) sc65 rfl) rfl ?_
        refine tk rfl (PE.nilCheck rfl) rfl ?_
        refine tk rfl (PE.fieldAddr fo72_3 rfl) rfl ?_
        refine ld rfl rfl (lfB (sz := 18) sc70 (dcs_map hl4 hm4)) rfl ?_
        refine ld rfl rfl (lhA (rest := []) (ints [u0, u1, u2, u3]) ag69 rfl (by rw [List.append_nil]; rfl) (by rw [ints_length]; exact rfl)) rfl ?_
        refine ldK rfl rfl rfl (lk_factE rfl hkv.len hukv (fun w hs => hs.now (MemF.mem (f := KpF m kv)))) rfl ?_
        refine mpu (kvL b.dsk n V1) [u0, u1, u2, u3] (v := .int .i64 (b.dsk.lvl n [u0, u1, u2, u3])) rfl mke70 (KeyT.of eqf69 noa69) rfl rfl rfl rfl (kvL_len hV14) ?_
        rw [kvL_put hun]
        refine bg (fun w hs => ⟨trivial, trivial, trivial, trivial, trivial, trivial, trivial⟩) ?_
        refine sy_tx' [0, 1, 2, 3, 4] rfl ?_
        refine spL rfl rfl (lh sc75 rfl rfl) rfl ?_
        refine spL rfl rfl (lhA (rest := []) (ints [u0, u1, u2, u3]) ag69 rfl (by rw [List.append_nil]; rfl) (by rw [ints_length]; exact rfl)) rfl ?_
        refine bsl (out := [_, _, _, _]) rfl sl75 zl69 rfl rfl rfl rfl rfl rfl (fun b126 => ?_)
        refine apQ q3 rfl ap75 rfl rfl (rowsH (row := ints [u0, u1, u2, u3]) rfl) rfl (by simp) rfl (by rw [strows_len, List.length_drop]; simp only [List.length_singleton]; omega) rfl (fun q4 => ?_)
        refine stoE (l' := [q4.fs]) rfl rfl rfl cn75 rfl rfl rfl rfl (Nat.le_refl _) ?_
        obtain ⟨q5, e5, g5⟩ : ∃ q5 : OQ 69 4 (strows ((V1 ++ [[u0, u1, u2, u3]]).drop (j + 1))), q5.fs = q4.fs ∧ q5.G = q4.G := ⟨q4.cast (strows_add (by omega) _), OQ.cast_fs _ _, OQ.cast_G _ _⟩
        exact sy_roundOn (.inl ⟨rfl, V1 ++ [[u0, u1, u2, u3]], q5, hb1.add (by omega) hu.inS hun (by have := hulv; omega), by rw [List.take_append_of_le_length (by omega)]; exact ht1, by rw [List.getElem?_append_left hj1]; exact hp1, (hcv.add _).more hk (hcvu _ (by simp)), rfl, rfl⟩) (fun _ h => by rw [e5, g5]; exact ((h.del b126).del b13).ftail)
        obtain ⟨g, rfl⟩ : ∃ g, go = some g := by cases go with
          | none => exact absurd g106 (by simp)
          | some g => exact ⟨g, rfl⟩
        have hui : [u0, u1, u2, u3] ∈ V1 := Classical.byContradiction fun hm => by rw [kvL_no hm] at hgo; cases hgo
        obtain rfl : g = .int .i64 (b.dsk.lvl n [u0, u1, u2, u3]) := by rw [kvL_get hui] at hgo; cases hgo; rfl
        refine tkG rfl rfl rfl rfl (PE.move rfl) rfl ?_
        refine ldG rfl rfl rfl rfl rfl (lfB (sz := 1) sc65 rfl) rfl ?_
        refine tkG rfl rfl rfl rfl (PE.nilCheck rfl) rfl ?_
        refine tkG rfl rfl rfl rfl (PE.fieldAddr fo72_3 rfl) rfl ?_
        refine ldG rfl rfl rfl rfl rfl (lfB (sz := 18) sc70 (dcs_map hl4 hm4)) rfl ?_
        refine ldG rfl rfl rfl rfl rfl (lhA (rest := []) (ints [u0, u1, u2, u3]) ag69 rfl (by rw [List.append_nil]; rfl) (by rw [ints_length]; exact rfl)) rfl ?_
        refine ldKG rfl rfl rfl rfl rfl rfl (lk_factE rfl hkv.len hukv (fun w hs => hs.now (MemF.mem (f := KpF m kv)))) rfl ?_
        refine tkG rfl rfl rfl rfl (PE.neq rfl rfl) rfl ?_
        refine tk rfl (PE.pick rfl rfl rfl) rfl ?_
        refine sy_cond rfl (fun hc4 => ?_) (fun hc4 => ?_)
        exact absurd hc4 (by simp)
        refine sy_skip ?_
        exact sy_roundOn (.inl ⟨rfl, V1, q3, hb1, ht1, hp1, hcv.more hk (hcvu V1 hui), rfl, rfl⟩) (fun _ h => (h.del b13).ftail)
        ·
         rintro _ _ _ _ ⟨rfl, rfl, V1, q3, hb1, ht1, hp1, hcv, rfl, rfl⟩
         refine sy_jn ?_
         have hj1 := (List.getElem?_eq_some_iff.1 hp1).1
         have hf1 := hb1.few hdk
         exact sy_nextD ⟨⟨(V1, j + 1, W ++ [⟨ay, cy, p.take b.bins.length, b.dsk.lvl n p⟩], bd0 :: mk), hb1.next hp1 hcv, hj1, by dsimp only; rw [wls_app, hwv, ht1, wlV_snoc hp]; rfl⟩, o78, q3⟩ (by dsimp only; omega) (by repeat' first | exact Sub.nil | apply Sub.cons | rfl | (simp [lk]; omega)) rfl (fun w h => St.sub ((h.del b11).perm ((perm_swap3 [_] [_, _, _] _).trans (List.Perm.append_left [_, _, _] ((List.perm_middle (l₁ := q3.G)).symm.trans (List.Perm.append_left q3.G ((List.perm_middle (l₁ := o78.G)).symm.trans (List.Perm.append_left o78.G (List.Perm.swap _ _ _)))))))))
       try simp only [decide_eq_true_eq, decide_eq_false_iff_not, Bool.and_eq_true, Bool.or_eq_true, Bool.not_eq_true', Int.not_le, Int.not_lt] at hc2
       obtain rfl : j = V.length := by omega
       rw [List.take_of_length_le (Nat.le_refl _)] at hwv
       have hw := hbq.wall hok hn hfx hc1
       rw [← hwv] at hw
       have hdm : ∀ x ∈ W, x.d ≤ b.dsk.lvl n b.state := fun x hx => by
         have h1 := wls_mem hx
         rw [hwv] at h1
         obtain ⟨v, hv, e⟩ := List.mem_map.1 h1
         have h2 := hbq.lv v hv
         have h3 : b.dsk.lvl n v = x.d := congrArg Prod.snd e
         omega
       obtain ⟨aw, cw, he, hcw, hf⟩ := o.freezeC
       rw [he, werows_len]
       rw [werows_len] at hcw
       refine sy_exit ?_
       repeat refine sy_tx ?_
       refine sy_bx ?_
       refine sy_seq ?_
       refine sy_tx' [0, 1, 2] rfl ?_
       refine sp rfl (PE.move rfl) rfl ?_
       refine sp rfl (PE.assign rfl) rfl ?_
       refine sp rfl (PE.assign rfl) rfl ?_
       refine sy_ret ?_
       refine Sy.heap (H' := mkh mk ++ H) (R' := RowsA aw 2 (werows W) :: InW W :: R) (fun w h => St.sub (hf ((St.drop (G := q.G) (((h.del m48).del b9).del b8)).del b1))) ?_
       exact sy_returnM mk (fun _ h => h) rfl (.cons (RV.tmp rfl) (.cons (RV.tmp rfl) .nil)) rfl ⟨rfl, .inr (.inr ⟨hck, _, W, aw, cw, hc1, hks, hw, by omega, hcw, hdm, rfl, rfl⟩)⟩ (fun w h => h)
    refine sy_alt ?_ ?_
    ·
     refine alc rfl zl75 rfl (fun b8 => ?_)
     refine bg (fun w hs => trivial) ?_
     refine bsl (out := [_, _, _, _]) rfl sl75 zl69 rfl rfl rfl rfl rfl rfl (fun b47 => ?_)
     refine bg (fun w hs => trivial) ?_
     refine sto rfl rfl rfl cn75 rfl rfl rfl rfl ?_
     refine bg (fun w hs => trivial) ?_
     refine sy_seq ?_
     refine sy_cut (ι := {x : (Nat × Nat × Nat × Nat) × HSt // Rz b.dsk n (b.dsk.lvl n b.state) b.state x.2}) (fun x => ⟨[(1, .pointer (some ⟨b1, 0, none⟩)), (4, .pointer (some ⟨b4, 0, none⟩)), (6, .pointer (some ⟨b6, 0, none⟩)), (8, .pointer (some ⟨x.1.1.1, 0, none⟩)), (9, .pointer (some ⟨x.1.1.2.1, 0, none⟩))], (x.1.1.1, cel 75 [.slice (some ⟨x.1.1.2.2.2, 0, none⟩) 1 1]) :: (x.1.1.2.1, cel 70 [.map (some x.1.1.2.2.1)]) :: (x.1.1.2.2.1, mapO true [(x.1.2, .int .i64 (b.dsk.lvl n b.state))]) :: (x.1.1.2.2.2, cel 69 (ints x.1.2)) :: (b1, cel 27 (btl b (b.sl ab cb))) :: H, RowsA (some ⟨b6, 0, none⟩) 1 [[.func (.func 27) #[] #[.pointer (some ⟨b4, 0, none⟩), .pointer (some ⟨b6, 0, none⟩)]]] :: RowsA (some ⟨b4, 0, none⟩) 1 [[.pointer (some ⟨bd, 0, none⟩)]] :: KpF m kv :: RowsA (some ⟨bd, 0, none⟩) 18 [dcs b (b.sl ab cb) b.lasts b.most m] :: R⟩) ?_ ?_
     refine sy_draw [0, 0, 2, 6, 0, 16, 48, 112, 0, 496, 1023, 2047, 0, 8191] (.ld 1 (.tk 2 (.ld 3 (.ld 4 (.tk 5 (.tk 6 (.ld 7 (.ld 8 (.ld 9 (.any (.alt 0 (.any (.alt 10 (.tk 11 (.big 12 (.big 13 .done))) (.alt 12 (.big 10 (.tk 11 (.big 13 .done))) .stop))) (.alt 12 (.big 0 (.big 10 (.tk 11 (.big 13 .done)))) .stop)))))))))))) mixed (by kernel_rfl) ?_
     refine ld rfl rfl (lh sc75 rfl rfl) rfl ?_
     refine tk rfl (PE.indexAddr el75 rfl rfl (by decide) (by decide)) rfl ?_
     refine ld rfl rfl (lhA (rest := []) (ints [f0, f1, f2, f3]) ag69 rfl (by rw [List.append_nil]; rfl) (by rw [ints_length]; exact rfl)) rfl ?_
     refine ld rfl rfl (lfB (sz := 1) sc65 rfl) rfl ?_
     refine tk rfl (PE.nilCheck rfl) rfl ?_
     refine tk rfl (PE.fieldAddr fo72_3 rfl) rfl ?_
     refine ld rfl rfl (lfB (sz := 18) sc70 (dcs_map hl4 hm4)) rfl ?_
     refine ld rfl rfl (lhA (rest := []) (ints b.state) ag69 rfl (by rw [List.append_nil]; rfl) (by rw [ints_length]; exact hsi.len)) rfl ?_
     refine ldK rfl rfl rfl (lk_factE hsi.len hkv.len hkg (fun w hs => hs.now (MemF.mem (f := KpF m kv)))) rfl ?_
     refine sy_alt ?_ ?_
     refine mkm rfl rfl true (fun m48 => ?_)
     refine bg (fun w hs => ⟨(lk_factE hsi.len hkv.len hkg (fun w hs => hs.now (MemF.mem (f := KpF m kv)))) w hs, (lhA (rest := []) (ints b.state) ag69 rfl (by rw [List.append_nil]; rfl) (by rw [ints_length]; exact hsi.len)) w hs, (lfB (sz := 18) sc70 (dcs_map hl4 hm4)) w hs, (lfB (sz := 1) sc65 rfl) w hs, (lhA (rest := []) (ints [f0, f1, f2, f3]) ag69 rfl (by rw [List.append_nil]; rfl) (by rw [ints_length]; exact rfl)) w hs, (lh sc75 rfl rfl) w hs, trivial⟩) ?_
     refine sy_alt ?_ ?_
     refine mpi [] [f0, f1, f2, f3] rfl mke70 (KeyT.of eqf69 noa69) rfl rfl rfl rfl (by simp) ?_
     refine bg (fun w hs => ⟨trivial, trivial, trivial, trivial, trivial, trivial, trivial⟩) ?_
     refine tk rfl (PE.move rfl) rfl ?_
     refine alc rfl zl70 rfl (fun b9 => ?_)
     refine bg (fun w hs => trivial) ?_
     refine sto rfl rfl rfl cn70 rfl rfl rfl rfl ?_
     refine bg (fun w hs => trivial) ?_
     exact sy_cutEnd ⟨((b8, b9, m48, b47), [f0, f1, f2, f3]), huf⟩ (by repeat' first | exact Sub.nil | apply Sub.cons | rfl | (simp [lk]; omega)) (fun w h => (((((h.pull b1).pull b47).pull m48).pull b9).pull b8 |>.del b7))
     refine sy_alt ?_ ?_
     refine alc rfl zl70 rfl (fun b9 => ?_)
     refine bg (fun w hs => ⟨(lk_factE hsi.len hkv.len hkg (fun w hs => hs.now (MemF.mem (f := KpF m kv)))) w hs, (lhA (rest := []) (ints b.state) ag69 rfl (by rw [List.append_nil]; rfl) (by rw [ints_length]; exact hsi.len)) w hs, (lfB (sz := 18) sc70 (dcs_map hl4 hm4)) w hs, (lfB (sz := 1) sc65 rfl) w hs, (lhA (rest := []) (ints [f0, f1, f2, f3]) ag69 rfl (by rw [List.append_nil]; rfl) (by rw [ints_length]; exact rfl)) w hs, (lh sc75 rfl rfl) w hs, trivial⟩) ?_
     refine mpi [] [f0, f1, f2, f3] rfl mke70 (KeyT.of eqf69 noa69) rfl rfl rfl rfl (by simp) ?_
     refine bg (fun w hs => ⟨trivial, trivial, trivial, trivial, trivial, trivial, trivial⟩) ?_
     refine tk rfl (PE.move rfl) rfl ?_
     refine sto rfl rfl rfl cn70 rfl rfl rfl rfl ?_
     refine bg (fun w hs => trivial) ?_
     exact sy_cutEnd ⟨((b8, b9, m48, b47), [f0, f1, f2, f3]), huf⟩ (by repeat' first | exact Sub.nil | apply Sub.cons | rfl | (simp [lk]; omega)) (fun w h => (((((h.pull b1).pull b47).pull m48).pull b9).pull b8 |>.del b7))
     exact sy_stop
     refine sy_alt ?_ ?_
     refine alc rfl zl70 rfl (fun b9 => ?_)
     refine bg (fun w hs => ⟨(lk_factE hsi.len hkv.len hkg (fun w hs => hs.now (MemF.mem (f := KpF m kv)))) w hs, (lhA (rest := []) (ints b.state) ag69 rfl (by rw [List.append_nil]; rfl) (by rw [ints_length]; exact hsi.len)) w hs, (lfB (sz := 18) sc70 (dcs_map hl4 hm4)) w hs, (lfB (sz := 1) sc65 rfl) w hs, (lhA (rest := []) (ints [f0, f1, f2, f3]) ag69 rfl (by rw [List.append_nil]; rfl) (by rw [ints_length]; exact rfl)) w hs, (lh sc75 rfl rfl) w hs, trivial⟩) ?_
     refine mkm rfl rfl true (fun m48 => ?_)
     refine bg (fun w hs => ⟨(lk_factE hsi.len hkv.len hkg (fun w hs => hs.now (MemF.mem (f := KpF m kv)))) w hs, (lhA (rest := []) (ints b.state) ag69 rfl (by rw [List.append_nil]; rfl) (by rw [ints_length]; exact hsi.len)) w hs, (lfB (sz := 18) sc70 (dcs_map hl4 hm4)) w hs, (lfB (sz := 1) sc65 rfl) w hs, (lhA (rest := []) (ints [f0, f1, f2, f3]) ag69 rfl (by rw [List.append_nil]; rfl) (by rw [ints_length]; exact rfl)) w hs, (lh sc75 rfl rfl) w hs, trivial⟩) ?_
     refine mpi [] [f0, f1, f2, f3] rfl mke70 (KeyT.of eqf69 noa69) rfl rfl rfl rfl (by simp) ?_
     refine bg (fun w hs => ⟨trivial, trivial, trivial, trivial, trivial, trivial, trivial⟩) ?_
     refine tk rfl (PE.move rfl) rfl ?_
     refine sto rfl rfl rfl cn70 rfl rfl rfl rfl ?_
     refine bg (fun w hs => trivial) ?_
     exact sy_cutEnd ⟨((b8, b9, m48, b47), [f0, f1, f2, f3]), huf⟩ (by repeat' first | exact Sub.nil | apply Sub.cons | rfl | (simp [lk]; omega)) (fun w h => (((((h.pull b1).pull b47).pull m48).pull b9).pull b8 |>.del b7))
     exact sy_stop
     ·
      rintro ⟨⟨⟨b8, b9, m48, b47⟩, uf⟩, huf⟩
      dsimp only at huf ⊢
      obtain ⟨f0, f1, f2, f3, rfl⟩ := list4 huf.inS.len
      have hfl : b.dsk.lvl n [f0, f1, f2, f3] = b.dsk.lvl n b.state := by
        have h1 := lvl_mono hdk hn hfx hsi huf.inS huf.le
        have h2 := (Bq.start huf).lv [f0, f1, f2, f3] (by simp)
        omega
      refine sy_seq ?_
      refine sy_tx' [0] rfl ?_
      refine sp rfl (PE.assign rfl) rfl ?_
      refine sy_seq ?_
      refine sy_block ?_
      obtain ⟨q0, hq0, hqG⟩ := OQ.one (e := 69) (sz := 4) b47 (row := ints [f0, f1, f2, f3]) rfl
      obtain ⟨q1, hq1, hqG1⟩ : ∃ q1 : OQ 69 4 (strows (([[f0, f1, f2, f3]] : List HSt).drop 0)), q1.fs = .slice (some ⟨b47, 0, none⟩) 1 1 ∧ q1.G = [(b47, cel 69 (ints [f0, f1, f2, f3]))] := ⟨q0, hq0, hqG⟩
      refine Sy.heap (H' := (b8, cel 75 [q1.fs]) :: (b9, cel 70 [.map (some m48)]) :: (m48, mapO true (kvL b.dsk n [[f0, f1, f2, f3]])) :: (q1.G ++ ((OSl.nil 37 2).G ++ (b1, cel 27 (btl b (b.sl ab cb))) :: (mkh [] ++ H)))) (R' := InW [] :: RowsA (some ⟨b6, 0, none⟩) 1 [[.func (.func 27) #[] #[.pointer (some ⟨b4, 0, none⟩), .pointer (some ⟨b6, 0, none⟩)]]] :: RowsA (some ⟨b4, 0, none⟩) 1 [[.pointer (some ⟨bd, 0, none⟩)]] :: KpF m kv :: RowsA (some ⟨bd, 0, none⟩) 18 [dcs b (b.sl ab cb) b.lasts b.most m] :: R) (fun w h => by
        rw [hq1, hqG1, show kvL b.dsk n [[f0, f1, f2, f3]] = [([f0, f1, f2, f3], .int .i64 (b.dsk.lvl n b.state))] by unfold kvL; simp [hfl]]
        exact St.inw0 (show St ((b8, cel 75 [.slice (some ⟨b47, 0, none⟩) 1 1]) :: (b9, cel 70 [.map (some m48)]) :: (m48, mapO true [([f0, f1, f2, f3], .int .i64 (b.dsk.lvl n b.state))]) :: (b47, cel 69 (ints [f0, f1, f2, f3])) :: (b1, cel 27 (btl b (b.sl ab cb))) :: H) _ w from h)) ?_
      refine sy_loopD (ι := (y : {y : List HSt × Nat × List WE × List Nat // Bq b.dsk n b.state y.1 y.2.1 ∧ y.2.1 ≤ y.1.length ∧ wls y.2.2.1 = wlV b.dsk n (y.1.take y.2.1)}) × (OSl 37 2 (werows y.1.2.2.1) × OQ 69 4 (strows (y.1.1.drop y.1.2.1)))) (fun y => ⟨[(1, .pointer (some ⟨b1, 0, none⟩)), (4, .pointer (some ⟨b4, 0, none⟩)), (6, .pointer (some ⟨b6, 0, none⟩)), (8, .pointer (some ⟨b8, 0, none⟩)), (9, .pointer (some ⟨b9, 0, none⟩)), (10, y.2.1.fs)], mks y.1.1.2.2.2, (b8, cel 75 [y.2.2.fs]) :: (b9, cel 70 [.map (some m48)]) :: (m48, mapO true (kvL b.dsk n y.1.1.1)) :: (y.2.2.G ++ (y.2.1.G ++ (b1, cel 27 (btl b (b.sl ab cb))) :: (mkh y.1.1.2.2.2 ++ H))), InW y.1.1.2.2.1 :: RowsA (some ⟨b6, 0, none⟩) 1 [[.func (.func 27) #[] #[.pointer (some ⟨b4, 0, none⟩), .pointer (some ⟨b6, 0, none⟩)]]] :: RowsA (some ⟨b4, 0, none⟩) 1 [[.pointer (some ⟨bd, 0, none⟩)]] :: KpF m kv :: RowsA (some ⟨bd, 0, none⟩) 18 [dcs b (b.sl ab cb) b.lasts b.most m] :: R⟩) (fun y => b.dsk.nst - y.1.1.2.1) ⟨⟨([[f0, f1, f2, f3]], 0, [], []), Bq.start huf, Nat.zero_le _, rfl⟩, OSl.nil _ _, q1⟩ ?_ (fun y => ?_)
      exact sy_atD (by repeat' first | exact Sub.nil | apply Sub.cons | rfl | (simp [lk]; omega)) rfl (fun _ h => h)
      ·
       obtain ⟨⟨⟨V, j, W, mk⟩, hbq, hjv, hwv⟩, o, q⟩ := y
       dsimp only at hbq hjv hwv o q ⊢
       have hfew := hbq.few hdk
       have hWl : W.length = j := by have := congrArg List.length hwv; unfold wlV at this; rw [wls_len, List.length_map, List.length_take] at this; omega
       have hqs : q.fs = .slice (some ⟨q.b, q.off, none⟩) (V.length - j) q.cap := by unfold OQ.fs; rw [strows_len, List.length_drop]
       rw [hqs]
       refine sy_seq ?_
       refine sy_seq ?_
       refine sy_tx' [0, 1, 2] rfl ?_
       refine spL rfl rfl (lh sc75 rfl rfl) rfl ?_
       refine sp rfl (PE.lenSl isl75 rfl) rfl ?_
       refine sp rfl (PE.gtr rfl rfl) rfl ?_
       refine sy_cond rfl (fun hc2 => ?_) (fun hc2 => ?_)
       ·
        try simp only [decide_eq_true_eq, decide_eq_false_iff_not, Bool.and_eq_true, Bool.or_eq_true, Bool.not_eq_true', Int.not_le, Int.not_lt] at hc2
        obtain ⟨p, hp⟩ : ∃ p, V[j]? = some p := ⟨_, List.getElem?_eq_getElem (by omega)⟩
        have hpV := List.mem_of_getElem? hp
        have hps := hbq.sts p hpV
        have hpl := hps.len
        have hpm := b.dsk.inS_sml hdk hps
        have hplv := hbq.lv p hpV
        have hpk := kpt_of ((b.dsk.mem_sts hdk p).2 hps) hn hfx
        have hpr := kpt_nn hpk
        have hpe : (ints p).length = 4 := by rw [ints_length]; exact hpl
        have hV4 : ∀ s ∈ V, s.length = 4 := fun s hs => (hbq.sts s hs).len
        refine Sy.heap (H' := (b8, cel 75 [.slice (some ⟨q.b, q.off, none⟩) (V.length - j) q.cap]) :: (b9, cel 70 [.map (some m48)]) :: (m48, mapO true (kvL b.dsk n V)) :: (q.b, cel 69 (q.pre ++ ((strows (V.drop j)).flatten ++ q.junk))) :: (o.G ++ (b1, cel 27 (btl b (b.sl ab cb))) :: (mkh mk ++ H))) (fun w h => h) ?_
        have hdr : (q.pre ++ ((strows (V.drop j)).flatten ++ q.junk)).drop (q.off + (0 : Int).toNat * 4) = ints p ++ ((strows (V.drop (j + 1))).flatten ++ q.junk) := by
          have hfl : (strows (V.drop j)).flatten = ints p ++ (strows (V.drop (j + 1))).flatten := by rw [strows_drop hp, List.flatten_cons]
          rw [hfl, show q.off + (0 : Int).toNat * 4 = q.pre.length by rw [q.pl]; simp, List.drop_left, List.append_assoc]
        obtain ⟨q2, hq2, hqG2⟩ := (q.cast (strows_drop hp)).pop
        have hqc : (q.cast (strows_drop hp)).b = q.b ∧ (q.cast (strows_drop hp)).off = q.off ∧ (q.cast (strows_drop hp)).cap = q.cap := by
          generalize strows_drop hp = e
          generalize ints p :: strows (V.drop (j + 1)) = r at e
          subst e; exact ⟨rfl, rfl, rfl⟩
        rw [hqc.1, hqc.2.1, hqc.2.2, strows_len, List.length_drop] at hq2
        rw [OQ.cast_G] at hqG2
        refine sy_skip ?_
        refine sy_block ?_
        refine sy_seq ?_
        refine sy_tx' [0, 1, 2, 3, 4] rfl ?_
        refine spL rfl rfl (lh sc75 rfl rfl) rfl ?_
        refine sp rfl (PE.indexAddr el75 rfl rfl (by omega) (by omega)) rfl ?_
        refine spL rfl rfl (lhA (ints p) ag69 rfl hdr hpe) rfl ?_
        refine alc rfl zl69 rfl (fun b11 => ?_)
        refine stoA rfl rfl rfl cn69 rfl (by rw [ints_length]; exact hpl) rfl (ints_one _) ?_
        refine sy_seq ?_
        refine sy_tx' [0, 1, 2] rfl ?_
        refine spL rfl rfl (lh sc75 rfl rfl) rfl ?_
        refine sp rfl (PE.slLoA (l := 1) sl75 rfl rfl (by omega)) rfl ?_
        have hq2e : Value.slice (if q.cap = 1 then some ⟨q.b, q.off, none⟩ else (some (⟨q.b, q.off, none⟩ : Addr)).map (·.add (1 * 4))) (V.length - j - 1) (q.cap - 1) = q2.fs := by
          rw [hq2, Option.map_some, addr_add, show V.length - (j + 1) = V.length - j - 1 by omega]
        rw [hq2e]
        refine stoE (l' := [q2.fs]) rfl rfl rfl cn75 rfl rfl rfl rfl (Nat.le_refl _) ?_
        refine Sy.heap (H' := (b11, cel 69 (ints p)) :: (b8, cel 75 [q2.fs]) :: (b9, cel 70 [.map (some m48)]) :: (m48, mapO true (kvL b.dsk n V)) :: (q2.G ++ (o.G ++ (b1, cel 27 (btl b (b.sl ab cb))) :: (mkh mk ++ H)))) (fun w h => by rw [hqG2]; exact h) ?_
        refine sy_seq ?_
        refine sy_draw [0, 0, 2, 6, 14, 30, 0, 0, 192, 510, 1022, 2047, 4095] (.tk 0 (.tk 1 (.ld 2 (.tk 3 (.tk 4 (.ld 6 (.ld 7 (.ld 8 (.big 5 (.tk 9 (.big 10 (.big 11 (.tk 12 .done))))))))))))) mixed (by kernel_rfl) ?_
        refine tk rfl (PE.move rfl) rfl ?_
        refine tk rfl (PE.fieldAddr fo27_3 rfl) rfl ?_
        refine ld rfl rfl (lh sc25 rfl rfl) rfl ?_
        refine tk rfl (PE.lenSl isl25 rfl) rfl ?_
        refine tk rfl (PE.slArrHi (h := b.bins.length) ar69 rfl rfl (by omega)) rfl ?_
        refine ld rfl rfl (lh sc70 rfl rfl) rfl ?_
        refine ld rfl rfl (lhA (rest := []) (ints p) ag69 rfl (by rw [List.append_nil]; rfl) (by rw [ints_length]; exact hpl)) rfl ?_
        refine ldK rfl rfl rfl (lk_factE hpl (kvL_len hV4) (kvL_get hpV) (heldM (x := m48))) rfl ?_
        refine cl rfl cal28 rfl rfl (c_Clone b11 69 b.bins.length 4 p (by omega) (by omega) _ _) ?_
        rintro _ _ _ ⟨ol, rfl, rfl, rfl⟩
        obtain ⟨ay, cy, he, hf⟩ := ol.freeze
        rw [he, irows_len]
        refine Sy.heap (fun w h => hf h) ?_
        clear he hf
        refine bg (fun w hs => ⟨(lk_factE hpl (kvL_len hV4) (kvL_get hpV) (heldM (x := m48))) w hs, (lhA (rest := []) (ints p) ag69 rfl (by rw [List.append_nil]; rfl) (by rw [ints_length]; exact hpl)) w hs, (lh sc70 rfl rfl) w hs, trivial, trivial⟩) ?_
        refine tk rfl (PE.build (out := [_, _]) pl37 zl37 rfl rfl) rfl ?_
        refine bsl (out := [_, _]) rfl sl32 zl37 rfl rfl rfl rfl rfl rfl (fun b77 => ?_)
        refine bg (fun w hs => ⟨trivial, trivial, trivial, trivial⟩) ?_
        refine apO (o) rfl ap32 rfl rfl (rowsH (row := werow ⟨ay, cy, p.take b.bins.length, b.dsk.lvl n p⟩) rfl) rfl rfl ((by rw [werows_len]; simp only [List.length_singleton]; omega)) rfl (fun o78 => ?_)
        refine bg (fun w hs => trivial) ?_
        refine tk rfl (PE.assign rfl) rfl ?_
        refine sy_seq ?_
        refine sy_tx' [0, 1] rfl ?_
        refine Sy.heap (fun w h => St.inwSnoc (l := W) ⟨ay, cy, p.take b.bins.length, b.dsk.lvl n p⟩ h) ?_
        obtain ⟨o78, e78, g78⟩ : ∃ o' : OSl 37 2 (werows (W ++ [⟨ay, cy, p.take b.bins.length, b.dsk.lvl n p⟩])), o'.fs = o78.fs ∧ o'.G = o78.G := ⟨o78.cast (by rw [werows_app]; rfl), rfl, rfl⟩
        rw [← e78]
        refine Sy.heap (H' := (b11, cel 69 (ints p)) :: (b8, cel 75 [q2.fs]) :: (b9, cel 70 [.map (some m48)]) :: (m48, mapO true (kvL b.dsk n V)) :: (q2.G ++ (o78.G ++ (b1, cel 27 (btl b (b.sl ab cb))) :: (mkh mk ++ H)))) (R' := InW (W ++ [⟨ay, cy, p.take b.bins.length, b.dsk.lvl n p⟩]) :: RowsA (some ⟨b6, 0, none⟩) 1 [[.func (.func 27) #[] #[.pointer (some ⟨b4, 0, none⟩), .pointer (some ⟨b6, 0, none⟩)]]] :: RowsA (some ⟨b4, 0, none⟩) 1 [[.pointer (some ⟨bd, 0, none⟩)]] :: KpF m kv :: RowsA (some ⟨bd, 0, none⟩) 18 [dcs b (b.sl ab cb) b.lasts b.most m] :: R) (fun w h => by rw [← g78] at h; exact St.sub (h.del b77)) ?_
        clear e78 g78
        refine spL rfl rfl (lfB (sz := 1) sc65 rfl) rfl ?_
        refine cl rfl cal29 rfl rfl (c_turnings bd false _ _) ?_
        rintro _ _ _ ⟨xb, xf, rfl, rfl, rfl⟩
        refine sy_block ?_
        refine sy_range rfl cal81 (fun c0 bl0 bd0 hcp0 hca0 hcb0 hck0 => ?_)
        refine ⟨fun st pend T R' => st = .ready ∧ pend = none ∧ ∃ (V' : List HSt) (q' : OQ 69 4 (strows (V'.drop (j + 1)))), Bq b.dsk n b.state V' j ∧ V'.take (j + 1) = V.take (j + 1) ∧ V'[j]? = some p ∧ CvK b.dsk n V' p ((b.dsk.trs false).length) ∧ T = (bd0, .deferred (some [])) :: (b11, cel 69 (ints p)) :: (b8, cel 75 [q'.fs]) :: (b9, cel 70 [.map (some m48)]) :: (m48, mapO true (kvL b.dsk n V')) :: (q'.G ++ (o78.G ++ (b1, cel 27 (btl b (b.sl ab cb))) :: (mkh mk ++ H))) ∧ R' = RowsA (some ⟨xf, 0, none⟩) 1 [[.bool false]] :: RowsA (some ⟨xb, 0, none⟩) 1 [[.pointer (some ⟨bd, 0, none⟩)]] :: InW (W ++ [⟨ay, cy, p.take b.bins.length, b.dsk.lvl n p⟩]) :: RowsA (some ⟨b6, 0, none⟩) 1 [[.func (.func 27) #[] #[.pointer (some ⟨b4, 0, none⟩), .pointer (some ⟨b6, 0, none⟩)]]] :: RowsA (some ⟨b4, 0, none⟩) 1 [[.pointer (some ⟨bd, 0, none⟩)]] :: KpF m kv :: RowsA (some ⟨bd, 0, none⟩) 18 [dcs b (b.sl ab cb) b.lasts b.most m] :: R,
          Fn.mono (c_turnings1 b hok ab cb bd m false xb xf bl0 (fun k H' R' => ∃ (V' : List HSt) (q' : OQ 69 4 (strows (V'.drop (j + 1)))), Bq b.dsk n b.state V' j ∧ V'.take (j + 1) = V.take (j + 1) ∧ V'[j]? = some p ∧ CvK b.dsk n V' p (k) ∧ H' = (bl0, lob c0 .ready none) :: (bd0, .deferred (some [])) :: (b11, cel 69 (ints p)) :: (b8, cel 75 [q'.fs]) :: (b9, cel 70 [.map (some m48)]) :: (m48, mapO true (kvL b.dsk n V')) :: (q'.G ++ (o78.G ++ (b1, cel 27 (btl b (b.sl ab cb))) :: (mkh mk ++ H))) ∧ R' = RowsA (some ⟨xf, 0, none⟩) 1 [[.bool false]] :: RowsA (some ⟨xb, 0, none⟩) 1 [[.pointer (some ⟨bd, 0, none⟩)]] :: InW (W ++ [⟨ay, cy, p.take b.bins.length, b.dsk.lvl n p⟩]) :: RowsA (some ⟨b6, 0, none⟩) 1 [[.func (.func 27) #[] #[.pointer (some ⟨b4, 0, none⟩), .pointer (some ⟨b6, 0, none⟩)]]] :: RowsA (some ⟨b4, 0, none⟩) 1 [[.pointer (some ⟨bd, 0, none⟩)]] :: KpF m kv :: RowsA (some ⟨bd, 0, none⟩) 18 [dcs b (b.sl ab cb) b.lasts b.most m] :: R)
            (fun _ _ => False)
            (fun k H' R' h => by obtain ⟨_, _, _, _, _, _, _, rfl⟩ := h; exact ⟨by simp, by simp, by simp⟩) (fun k l a c H' R' hk hI => ?_) _ _ ⟨V, q2, hbq, rfl, hp, fun i l hi => absurd hi (Nat.not_lt_zero _), rfl, rfl⟩) (fun v H' R' h => ?_), ?_⟩
        rotate_left
        · rcases h with ⟨V', q', h1, h2, h3, h4, rfl, rfl⟩ | h
          · exact ⟨.ready, none, _, by simp, .refl _, rfl, rfl, V', q', h1, h2, h3, h4, rfl, rfl⟩
          · exact h.elim
        rotate_left
        have hlm := List.mem_of_getElem? hk
        have hlt := b.dsk.trs_lt hlm
        have hll : l.length ≤ 1000000 := by
          obtain ⟨i, _, rfl⟩ := List.mem_map.1 (List.mem_filter.1 hlm).1
          have := bitl_len b.dsk.n i
          have := hdk.n
          omega
        obtain ⟨V1, q3, hb1, ht1, hp1, hcv, rfl, rfl⟩ := hI
        have hj1 := (List.getElem?_eq_some_iff.1 hp1).1
        have hf1 := hb1.few hdk
        have hp1V := List.mem_of_getElem? hp1
        have hV14 : ∀ s ∈ V1, s.length = 4 := fun s hs => (hb1.sts s hs).len
        refine yd_of hcp0 hca0 hcb0 hck0 rfl ?_
        refine sy_tx' [0] rfl ?_
        refine sp rfl (PE.assign rfl) rfl ?_
        refine sy_beginRound ?_
        refine sy_block ?_
        refine sy_seq ?_
        refine sy_tx' [0, 1, 2, 3, 4, 5, 6, 7, 8, 9] rfl ?_
        refine spL rfl rfl (lfB (sz := 1) sc65 rfl) rfl ?_
        refine spL rfl rfl (lhA (rest := []) (ints p) ag69 rfl (by rw [List.append_nil]; rfl) (by rw [ints_length]; exact hpl)) rfl ?_
        refine sp rfl (PE.move rfl) rfl ?_
        refine cl rfl cal30 rfl rfl (c_next b hok ab cb bd m p hpm l hlt hll a c _ _) ?_
        rintro _ _ _ ⟨rfl, rfl, rfl⟩
        rcases hnx : b.dsk.next p l with _ | t
        refine sp rfl (PE.move rfl) rfl ?_
        refine sp rfl (PE.extract rfl rfl) rfl ?_
        refine sp rfl (PE.extract rfl rfl) rfl ?_
        refine alc rfl zl69 rfl (fun b13 => ?_)
        first | (refine stoA rfl rfl rfl cn69 rfl rfl rfl (ints_one _) ?_) | (refine stoA rfl rfl rfl cn69 rfl (by rw [ints_length]; exact htl) rfl (ints_one _) ?_)
        refine sp rfl (PE.assign rfl) rfl ?_
        refine sy_seq ?_
        refine sy_seq ?_
        refine sy_tx' [0, 1] rfl ?_
        refine sp rfl (PE.move rfl) rfl ?_
        refine sp rfl (PE.not rfl) rfl ?_
        refine sy_condT rfl ?_
        refine sy_exit ?_
        refine sy_tx ?_
        refine sy_bx ?_
        exact sy_roundOn (.inl ⟨rfl, V1, q3, hb1, ht1, hp1, hcv.more hk (fun t ht => by rw [hnx] at ht; cases ht), rfl, rfl⟩) (fun _ h => (h.del b13).ftail)
        refine sp rfl (PE.move rfl) rfl ?_
        have hts := b.dsk.next_inS hdk hps hlt hnx
        have htl := hts.len
        have htlv : b.dsk.lvl n t < b.dsk.lvl n p := kpt_next hdk hps hlm hnx hpk (kpt_of ((b.dsk.mem_sts hdk t).2 hts) hn hfx) (by omega)
        refine sp rfl (PE.extract rfl rfl) rfl ?_
        refine sp rfl (PE.extract rfl rfl) rfl ?_
        refine alc rfl zl69 rfl (fun b13 => ?_)
        first | (refine stoA rfl rfl rfl cn69 rfl rfl rfl (ints_one _) ?_) | (refine stoA rfl rfl rfl cn69 rfl (by rw [ints_length]; exact htl) rfl (ints_one _) ?_)
        refine sp rfl (PE.assign rfl) rfl ?_
        refine sy_seq ?_
        refine sy_seq ?_
        refine sy_tx' [0, 1] rfl ?_
        refine sp rfl (PE.move rfl) rfl ?_
        refine sp rfl (PE.not rfl) rfl ?_
        refine sy_condF rfl ?_
        refine sy_skip ?_
        refine sy_seq ?_
        refine sy_draw [0, 0, 0, 0, 12, 28, 63, 127] (.ld 0 (.ld 1 (.ld 2 (.ld 3 (.ld 4 (.tk 5 (.big 6 (.big 7 .done)))))))) mixed (by kernel_rfl) ?_
        refine ld rfl rfl (lfB (sz := 1) sc74 rfl) rfl ?_
        refine ld rfl rfl (lhA (rest := []) (ints t) ag69 rfl (by rw [List.append_nil]; rfl) (by rw [ints_length]; exact htl)) rfl ?_
        refine ld rfl rfl (lh sc70 rfl rfl) rfl ?_
        refine ld rfl rfl (lhA (rest := []) (ints p) ag69 rfl (by rw [List.append_nil]; rfl) (by rw [ints_length]; exact hpl)) rfl ?_
        refine ldK rfl rfl rfl (lk_factE hpl (kvL_len hV14) (kvL_get hp1V) (heldM (x := m48))) rfl ?_
        refine tk rfl (PE.sub rfl rfl (by omega)) rfl ?_
        refine clF rfl rfl (cal27) rfl rfl (c_raise b hok ab cb bd m n hn kv hkv b4 b6 (b.dsk.lvl n p - 1) t hts _ _) ?_
        rintro _ _ _ ⟨uf, hu, rfl, rfl, rfl⟩
        obtain ⟨u0, u1, u2, u3, rfl⟩ := list4 hu.inS.len
        have hulv : b.dsk.lvl n [u0, u1, u2, u3] < b.dsk.lvl n p := by
          rcases hu.lv with h1 | h1
          · rw [h1]; exact htlv
          · omega
        have hum := (b.dsk.mem_sts hdk _).2 hu.inS
        have hukv := hkv.get _ hum
        have hcvu : ∀ V2 : List HSt, [u0, u1, u2, u3] ∈ V2 → ∀ t2, b.dsk.next p l = some t2 → ∃ u ∈ V2, undP b.dsk.n t2 u = true ∧ b.dsk.lvl n u < b.dsk.lvl n p := fun V2 hm t2 ht2 => by rw [hnx] at ht2; cases ht2; exact ⟨_, hm, hu.le, hulv⟩
        obtain ⟨go, hgo⟩ : ∃ go, (kvL b.dsk n V1).get [u0, u1, u2, u3] = go := ⟨_, rfl⟩
        refine bg (fun w hs => ⟨trivial, trivial, trivial, trivial, trivial, trivial⟩) ?_
        refine stoA rfl rfl rfl cn69 rfl (by rw [ints_length]; rfl) (by rw [ints_length]; exact htl) (ints_one _) ?_
        refine bg (fun w hs => trivial) ?_
        refine sy_seq ?_
        refine sy_tx' [0, 1, 2, 3, 4, 5, 6, 7] rfl ?_
        refine spL rfl rfl (lh sc70 rfl rfl) rfl ?_
        refine spL rfl rfl (lhA (rest := []) (ints [u0, u1, u2, u3]) ag69 rfl (by rw [List.append_nil]; rfl) (by rw [ints_length]; exact rfl)) rfl ?_
        refine spK rfl rfl rfl (lk_held (b := true) (kvL b.dsk n V1) [u0, u1, u2, u3] mke70 (KeyT.of eqf69 noa69) (run_zv zv3) rfl (kvL_len hV14) true) rfl ?_
        rw [hgo]
        refine sp rfl (PE.move rfl) rfl ?_
        refine sp rfl (PE.extract rfl rfl) rfl ?_
        refine sp rfl (PE.extract rfl rfl) rfl ?_
        refine sp rfl (PE.assign rfl) rfl ?_
        refine sp rfl (PE.assign rfl) rfl ?_
        refine sy_seq ?_
        refine sy_draw [0, 1, 3, 7, 7, 23, 55, 119, 7, 503, 1023, 2047] (.tk 0 (.tk 1 (.tk 2 (.tk 3 (.ld 4 (.tk 5 (.tk 6 (.ld 7 (.ld 8 (.ld 9 (.tk 10 (.tk 11 .done)))))))))))) mixed (by kernel_rfl) ?_
        refine tk rfl (PE.move rfl) rfl ?_
        refine tk rfl (PE.not rfl) rfl ?_
        refine tk rfl (PE.move rfl) rfl ?_
        refine sy_case (t := 106) rfl (fun g106 => ?_) (fun g106 => ?_)
        obtain rfl : go = none := by cases go with
          | none => rfl
          | some g => exact absurd g106 (by simp)
        have hun : [u0, u1, u2, u3] ∉ V1 := fun hm => by rw [kvL_get hm] at hgo; cases hgo
        refine tkN rfl rfl rfl rfl rfl rfl rfl rfl ?_
        refine ldN rfl rfl rfl rfl rfl rfl rfl rfl ?_
        repeat refine tkN rfl rfl rfl rfl rfl rfl rfl rfl ?_
        repeat refine ldN rfl rfl rfl rfl rfl rfl rfl rfl ?_
        refine tkN rfl rfl rfl rfl rfl rfl rfl rfl ?_
        refine tk rfl (PE.pick rfl rfl rfl) rfl ?_
        refine sy_condT rfl ?_
        refine sy_seq ?_
        refine sy_draw [0, 0, 0, 4, 12, 28, 0, 124, 255] (.ld 0 (.ld 1 (.ld 2 (.tk 3 (.tk 4 (.ld 5 (.ld 6 (.ld 7 (.big 8 .done))))))))) mixed (by kernel_rfl) ?_
        refine ld rfl rfl (lh sc70 rfl rfl) rfl ?_
        refine ld rfl rfl (lhA (rest := []) (ints [u0, u1, u2, u3]) ag69 rfl (by rw [List.append_nil]; rfl) (by rw [ints_length]; exact rfl)) rfl ?_
        refine ld rfl rfl (lfB (sz := 1) sc65 rfl) rfl ?_
        refine tk rfl (PE.nilCheck rfl) rfl ?_
        refine tk rfl (PE.fieldAddr fo72_3 rfl) rfl ?_
        refine ld rfl rfl (lfB (sz := 18) sc70 (dcs_map hl4 hm4)) rfl ?_
        refine ld rfl rfl (lhA (rest := []) (ints [u0, u1, u2, u3]) ag69 rfl (by rw [List.append_nil]; rfl) (by rw [ints_length]; exact rfl)) rfl ?_
        refine ldK rfl rfl rfl (lk_factE rfl hkv.len hukv (fun w hs => hs.now (MemF.mem (f := KpF m kv)))) rfl ?_
        refine mpu (kvL b.dsk n V1) [u0, u1, u2, u3] (v := .int .i64 (b.dsk.lvl n [u0, u1, u2, u3])) rfl mke70 (KeyT.of eqf69 noa69) rfl rfl rfl rfl (kvL_len hV14) ?_
        rw [kvL_put hun]
        refine bg (fun w hs => ⟨trivial, trivial, trivial, trivial, trivial, trivial, trivial⟩) ?_
        refine sy_tx' [0, 1, 2, 3, 4] rfl ?_
        refine spL rfl rfl (lh sc75 rfl rfl) rfl ?_
        refine spL rfl rfl (lhA (rest := []) (ints [u0, u1, u2, u3]) ag69 rfl (by rw [List.append_nil]; rfl) (by rw [ints_length]; exact rfl)) rfl ?_
        refine bsl (out := [_, _, _, _]) rfl sl75 zl69 rfl rfl rfl rfl rfl rfl (fun b126 => ?_)
        refine apQ q3 rfl ap75 rfl rfl (rowsH (row := ints [u0, u1, u2, u3]) rfl) rfl (by simp) rfl (by rw [strows_len, List.length_drop]; simp only [List.length_singleton]; omega) rfl (fun q4 => ?_)
        refine stoE (l' := [q4.fs]) rfl rfl rfl cn75 rfl rfl rfl rfl (Nat.le_refl _) ?_
        obtain ⟨q5, e5, g5⟩ : ∃ q5 : OQ 69 4 (strows ((V1 ++ [[u0, u1, u2, u3]]).drop (j + 1))), q5.fs = q4.fs ∧ q5.G = q4.G := ⟨q4.cast (strows_add (by omega) _), OQ.cast_fs _ _, OQ.cast_G _ _⟩
        exact sy_roundOn (.inl ⟨rfl, V1 ++ [[u0, u1, u2, u3]], q5, hb1.add (by omega) hu.inS hun (by have := hulv; omega), by rw [List.take_append_of_le_length (by omega)]; exact ht1, by rw [List.getElem?_append_left hj1]; exact hp1, (hcv.add _).more hk (hcvu _ (by simp)), rfl, rfl⟩) (fun _ h => by rw [e5, g5]; exact ((h.del b126).del b13).ftail)
        obtain ⟨g, rfl⟩ : ∃ g, go = some g := by cases go with
          | none => exact absurd g106 (by simp)
          | some g => exact ⟨g, rfl⟩
        have hui : [u0, u1, u2, u3] ∈ V1 := Classical.byContradiction fun hm => by rw [kvL_no hm] at hgo; cases hgo
        obtain rfl : g = .int .i64 (b.dsk.lvl n [u0, u1, u2, u3]) := by rw [kvL_get hui] at hgo; cases hgo; rfl
        refine tkG rfl rfl rfl rfl (PE.move rfl) rfl ?_
        refine ldG rfl rfl rfl rfl rfl (lfB (sz := 1) sc65 rfl) rfl ?_
        refine tkG rfl rfl rfl rfl (PE.nilCheck rfl) rfl ?_
        refine tkG rfl rfl rfl rfl (PE.fieldAddr fo72_3 rfl) rfl ?_
        refine ldG rfl rfl rfl rfl rfl (lfB (sz := 18) sc70 (dcs_map hl4 hm4)) rfl ?_
        refine ldG rfl rfl rfl rfl rfl (lhA (rest := []) (ints [u0, u1, u2, u3]) ag69 rfl (by rw [List.append_nil]; rfl) (by rw [ints_length]; exact rfl)) rfl ?_
        refine ldKG rfl rfl rfl rfl rfl rfl (lk_factE rfl hkv.len hukv (fun w hs => hs.now (MemF.mem (f := KpF m kv)))) rfl ?_
        refine tkG rfl rfl rfl rfl (PE.neq rfl rfl) rfl ?_
        refine tk rfl (PE.pick rfl rfl rfl) rfl ?_
        refine sy_cond rfl (fun hc4 => ?_) (fun hc4 => ?_)
        exact absurd hc4 (by simp)
        refine sy_skip ?_
        exact sy_roundOn (.inl ⟨rfl, V1, q3, hb1, ht1, hp1, hcv.more hk (hcvu V1 hui), rfl, rfl⟩) (fun _ h => (h.del b13).ftail)
        ·
         rintro _ _ _ _ ⟨rfl, rfl, V1, q3, hb1, ht1, hp1, hcv, rfl, rfl⟩
         refine sy_jn ?_
         have hj1 := (List.getElem?_eq_some_iff.1 hp1).1
         have hf1 := hb1.few hdk
         exact sy_nextD ⟨⟨(V1, j + 1, W ++ [⟨ay, cy, p.take b.bins.length, b.dsk.lvl n p⟩], bd0 :: mk), hb1.next hp1 hcv, hj1, by dsimp only; rw [wls_app, hwv, ht1, wlV_snoc hp]; rfl⟩, o78, q3⟩ (by dsimp only; omega) (by repeat' first | exact Sub.nil | apply Sub.cons | rfl | (simp [lk]; omega)) rfl (fun w h => St.sub ((h.del b11).perm ((perm_swap3 [_] [_, _, _] _).trans (List.Perm.append_left [_, _, _] ((List.perm_middle (l₁ := q3.G)).symm.trans (List.Perm.append_left q3.G ((List.perm_middle (l₁ := o78.G)).symm.trans (List.Perm.append_left o78.G (List.Perm.swap _ _ _)))))))))
       try simp only [decide_eq_true_eq, decide_eq_false_iff_not, Bool.and_eq_true, Bool.or_eq_true, Bool.not_eq_true', Int.not_le, Int.not_lt] at hc2
       obtain rfl : j = V.length := by omega
       rw [List.take_of_length_le (Nat.le_refl _)] at hwv
       have hw := hbq.wall hok hn hfx hc1
       rw [← hwv] at hw
       have hdm : ∀ x ∈ W, x.d ≤ b.dsk.lvl n b.state := fun x hx => by
         have h1 := wls_mem hx
         rw [hwv] at h1
         obtain ⟨v, hv, e⟩ := List.mem_map.1 h1
         have h2 := hbq.lv v hv
         have h3 : b.dsk.lvl n v = x.d := congrArg Prod.snd e
         omega
       obtain ⟨aw, cw, he, hcw, hf⟩ := o.freezeC
       rw [he, werows_len]
       rw [werows_len] at hcw
       refine sy_exit ?_
       repeat refine sy_tx ?_
       refine sy_bx ?_
       refine sy_seq ?_
       refine sy_tx' [0, 1, 2] rfl ?_
       refine sp rfl (PE.move rfl) rfl ?_
       refine sp rfl (PE.assign rfl) rfl ?_
       refine sp rfl (PE.assign rfl) rfl ?_
       refine sy_ret ?_
       refine Sy.heap (H' := mkh mk ++ H) (R' := RowsA aw 2 (werows W) :: InW W :: R) (fun w h => St.sub (hf ((St.drop (G := q.G) (((h.del m48).del b9).del b8)).del b1))) ?_
       exact sy_returnM mk (fun _ h => h) rfl (.cons (RV.tmp rfl) (.cons (RV.tmp rfl) .nil)) rfl ⟨rfl, .inr (.inr ⟨hck, _, W, aw, cw, hc1, hks, hw, by omega, hcw, hdm, rfl, rfl⟩)⟩ (fun w h => h)
    exact sy_stop
   refine sy_alt ?_ ?_
   ·
    refine alc rfl zl75 rfl (fun b8 => ?_)
    refine bg (fun w hs => ⟨(lk_factE hsi.len hkv.len hkg (fun w hs => hs.now (MemF.mem (f := KpF m kv)))) w hs, (lhA (rest := []) (ints b.state) ag69 rfl (by rw [List.append_nil]; rfl) (by rw [ints_length]; exact hsi.len)) w hs, (lfB (sz := 18) sc70 (dcs_map hl4 hm4)) w hs, (lfB (sz := 1) sc65 rfl) w hs, (lhA (rest := []) (ints b.state) ag69 rfl (by rw [List.append_nil]; rfl) (by rw [ints_length]; exact hsi.len)) w hs, (lfB (sz := 1) sc74 rfl) w hs, trivial⟩) ?_
    refine clF rfl rfl (cal27) rfl rfl (c_raise b hok ab cb bd m n hn kv hkv b4 b6 (b.dsk.lvl n b.state) b.state hsi _ _) ?_
    rintro _ _ _ ⟨uf, huf, rfl, rfl, rfl⟩
    obtain ⟨f0, f1, f2, f3, rfl⟩ := list4 huf.inS.len
    refine bg (fun w hs => ⟨trivial, trivial, trivial, trivial, trivial, trivial, trivial⟩) ?_
    refine bsl (out := [_, _, _, _]) rfl sl75 zl69 rfl rfl rfl rfl rfl rfl (fun b47 => ?_)
    refine bg (fun w hs => trivial) ?_
    refine sto rfl rfl rfl cn75 rfl rfl rfl rfl ?_
    refine bg (fun w hs => trivial) ?_
    refine sy_seq ?_
    refine sy_cut (ι := {x : (Nat × Nat × Nat × Nat) × HSt // Rz b.dsk n (b.dsk.lvl n b.state) b.state x.2}) (fun x => ⟨[(1, .pointer (some ⟨b1, 0, none⟩)), (4, .pointer (some ⟨b4, 0, none⟩)), (6, .pointer (some ⟨b6, 0, none⟩)), (8, .pointer (some ⟨x.1.1.1, 0, none⟩)), (9, .pointer (some ⟨x.1.1.2.1, 0, none⟩))], (x.1.1.1, cel 75 [.slice (some ⟨x.1.1.2.2.2, 0, none⟩) 1 1]) :: (x.1.1.2.1, cel 70 [.map (some x.1.1.2.2.1)]) :: (x.1.1.2.2.1, mapO true [(x.1.2, .int .i64 (b.dsk.lvl n b.state))]) :: (x.1.1.2.2.2, cel 69 (ints x.1.2)) :: (b1, cel 27 (btl b (b.sl ab cb))) :: H, RowsA (some ⟨b6, 0, none⟩) 1 [[.func (.func 27) #[] #[.pointer (some ⟨b4, 0, none⟩), .pointer (some ⟨b6, 0, none⟩)]]] :: RowsA (some ⟨b4, 0, none⟩) 1 [[.pointer (some ⟨bd, 0, none⟩)]] :: KpF m kv :: RowsA (some ⟨bd, 0, none⟩) 18 [dcs b (b.sl ab cb) b.lasts b.most m] :: R⟩) ?_ ?_
    refine sy_draw [0, 0, 2, 6, 0, 16, 48, 112, 0, 496, 1023, 2047, 0, 8191] (.ld 1 (.tk 2 (.ld 3 (.ld 4 (.tk 5 (.tk 6 (.ld 7 (.ld 8 (.ld 9 (.any (.alt 0 (.any (.alt 10 (.tk 11 (.big 12 (.big 13 .done))) (.alt 12 (.big 10 (.tk 11 (.big 13 .done))) .stop))) (.alt 12 (.big 0 (.big 10 (.tk 11 (.big 13 .done)))) .stop)))))))))))) mixed (by kernel_rfl) ?_
    refine ld rfl rfl (lh sc75 rfl rfl) rfl ?_
    refine tk rfl (PE.indexAddr el75 rfl rfl (by decide) (by decide)) rfl ?_
    refine ld rfl rfl (lhA (rest := []) (ints [f0, f1, f2, f3]) ag69 rfl (by rw [List.append_nil]; rfl) (by rw [ints_length]; exact rfl)) rfl ?_
    refine ld rfl rfl (lfB (sz := 1) sc65 rfl) rfl ?_
    refine tk rfl (PE.nilCheck rfl) rfl ?_
    refine tk rfl (PE.fieldAddr fo72_3 rfl) rfl ?_
    refine ld rfl rfl (lfB (sz := 18) sc70 (dcs_map hl4 hm4)) rfl ?_
    refine ld rfl rfl (lhA (rest := []) (ints b.state) ag69 rfl (by rw [List.append_nil]; rfl) (by rw [ints_length]; exact hsi.len)) rfl ?_
    refine ldK rfl rfl rfl (lk_factE hsi.len hkv.len hkg (fun w hs => hs.now (MemF.mem (f := KpF m kv)))) rfl ?_
    refine sy_alt ?_ ?_
    refine mkm rfl rfl true (fun m48 => ?_)
    refine bg (fun w hs => ⟨(lk_factE hsi.len hkv.len hkg (fun w hs => hs.now (MemF.mem (f := KpF m kv)))) w hs, (lhA (rest := []) (ints b.state) ag69 rfl (by rw [List.append_nil]; rfl) (by rw [ints_length]; exact hsi.len)) w hs, (lfB (sz := 18) sc70 (dcs_map hl4 hm4)) w hs, (lfB (sz := 1) sc65 rfl) w hs, (lhA (rest := []) (ints [f0, f1, f2, f3]) ag69 rfl (by rw [List.append_nil]; rfl) (by rw [ints_length]; exact rfl)) w hs, (lh sc75 rfl rfl) w hs, trivial⟩) ?_
    refine sy_alt ?_ ?_
    refine mpi [] [f0, f1, f2, f3] rfl mke70 (KeyT.of eqf69 noa69) rfl rfl rfl rfl (by simp) ?_
    refine bg (fun w hs => ⟨trivial, trivial, trivial, trivial, trivial, trivial, trivial⟩) ?_
    refine tk rfl (PE.move rfl) rfl ?_
    refine alc rfl zl70 rfl (fun b9 => ?_)
    refine bg (fun w hs => trivial) ?_
    refine sto rfl rfl rfl cn70 rfl rfl rfl rfl ?_
    refine bg (fun w hs => trivial) ?_
    exact sy_cutEnd ⟨((b8, b9, m48, b47), [f0, f1, f2, f3]), huf⟩ (by repeat' first | exact Sub.nil | apply Sub.cons | rfl | (simp [lk]; omega)) (fun w h => (((((h.pull b1).pull b47).pull m48).pull b9).pull b8 |>.del b7))
    refine sy_alt ?_ ?_
    refine alc rfl zl70 rfl (fun b9 => ?_)
    refine bg (fun w hs => ⟨(lk_factE hsi.len hkv.len hkg (fun w hs => hs.now (MemF.mem (f := KpF m kv)))) w hs, (lhA (rest := []) (ints b.state) ag69 rfl (by rw [List.append_nil]; rfl) (by rw [ints_length]; exact hsi.len)) w hs, (lfB (sz := 18) sc70 (dcs_map hl4 hm4)) w hs, (lfB (sz := 1) sc65 rfl) w hs, (lhA (rest := []) (ints [f0, f1, f2, f3]) ag69 rfl (by rw [List.append_nil]; rfl) (by rw [ints_length]; exact rfl)) w hs, (lh sc75 rfl rfl) w hs, trivial⟩) ?_
    refine mpi [] [f0, f1, f2, f3] rfl mke70 (KeyT.of eqf69 noa69) rfl rfl rfl rfl (by simp) ?_
    refine bg (fun w hs => ⟨trivial, trivial, trivial, trivial, trivial, trivial, trivial⟩) ?_
    refine tk rfl (PE.move rfl) rfl ?_
    refine sto rfl rfl rfl cn70 rfl rfl rfl rfl ?_
    refine bg (fun w hs => trivial) ?_
    exact sy_cutEnd ⟨((b8, b9, m48, b47), [f0, f1, f2, f3]), huf⟩ (by repeat' first | exact Sub.nil | apply Sub.cons | rfl | (simp [lk]; omega)) (fun w h => (((((h.pull b1).pull b47).pull m48).pull b9).pull b8 |>.del b7))
    exact sy_stop
    refine sy_alt ?_ ?_
    refine alc rfl zl70 rfl (fun b9 => ?_)
    refine bg (fun w hs => ⟨(lk_factE hsi.len hkv.len hkg (fun w hs => hs.now (MemF.mem (f := KpF m kv)))) w hs, (lhA (rest := []) (ints b.state) ag69 rfl (by rw [List.append_nil]; rfl) (by rw [ints_length]; exact hsi.len)) w hs, (lfB (sz := 18) sc70 (dcs_map hl4 hm4)) w hs, (lfB (sz := 1) sc65 rfl) w hs, (lhA (rest := []) (ints [f0, f1, f2, f3]) ag69 rfl (by rw [List.append_nil]; rfl) (by rw [ints_length]; exact rfl)) w hs, (lh sc75 rfl rfl) w hs, trivial⟩) ?_
    refine mkm rfl rfl true (fun m48 => ?_)
    refine bg (fun w hs => ⟨(lk_factE hsi.len hkv.len hkg (fun w hs => hs.now (MemF.mem (f := KpF m kv)))) w hs, (lhA (rest := []) (ints b.state) ag69 rfl (by rw [List.append_nil]; rfl) (by rw [ints_length]; exact hsi.len)) w hs, (lfB (sz := 18) sc70 (dcs_map hl4 hm4)) w hs, (lfB (sz := 1) sc65 rfl) w hs, (lhA (rest := []) (ints [f0, f1, f2, f3]) ag69 rfl (by rw [List.append_nil]; rfl) (by rw [ints_length]; exact rfl)) w hs, (lh sc75 rfl rfl) w hs, trivial⟩) ?_
    refine mpi [] [f0, f1, f2, f3] rfl mke70 (KeyT.of eqf69 noa69) rfl rfl rfl rfl (by simp) ?_
    refine bg (fun w hs => ⟨trivial, trivial, trivial, trivial, trivial, trivial, trivial⟩) ?_
    refine tk rfl (PE.move rfl) rfl ?_
    refine sto rfl rfl rfl cn70 rfl rfl rfl rfl ?_
    refine bg (fun w hs => trivial) ?_
    exact sy_cutEnd ⟨((b8, b9, m48, b47), [f0, f1, f2, f3]), huf⟩ (by repeat' first | exact Sub.nil | apply Sub.cons | rfl | (simp [lk]; omega)) (fun w h => (((((h.pull b1).pull b47).pull m48).pull b9).pull b8 |>.del b7))
    exact sy_stop
    ·
     rintro ⟨⟨⟨b8, b9, m48, b47⟩, uf⟩, huf⟩
     dsimp only at huf ⊢
     obtain ⟨f0, f1, f2, f3, rfl⟩ := list4 huf.inS.len
     have hfl : b.dsk.lvl n [f0, f1, f2, f3] = b.dsk.lvl n b.state := by
       have h1 := lvl_mono hdk hn hfx hsi huf.inS huf.le
       have h2 := (Bq.start huf).lv [f0, f1, f2, f3] (by simp)
       omega
     refine sy_seq ?_
     refine sy_tx' [0] rfl ?_
     refine sp rfl (PE.assign rfl) rfl ?_
     refine sy_seq ?_
     refine sy_block ?_
     obtain ⟨q0, hq0, hqG⟩ := OQ.one (e := 69) (sz := 4) b47 (row := ints [f0, f1, f2, f3]) rfl
     obtain ⟨q1, hq1, hqG1⟩ : ∃ q1 : OQ 69 4 (strows (([[f0, f1, f2, f3]] : List HSt).drop 0)), q1.fs = .slice (some ⟨b47, 0, none⟩) 1 1 ∧ q1.G = [(b47, cel 69 (ints [f0, f1, f2, f3]))] := ⟨q0, hq0, hqG⟩
     refine Sy.heap (H' := (b8, cel 75 [q1.fs]) :: (b9, cel 70 [.map (some m48)]) :: (m48, mapO true (kvL b.dsk n [[f0, f1, f2, f3]])) :: (q1.G ++ ((OSl.nil 37 2).G ++ (b1, cel 27 (btl b (b.sl ab cb))) :: (mkh [] ++ H)))) (R' := InW [] :: RowsA (some ⟨b6, 0, none⟩) 1 [[.func (.func 27) #[] #[.pointer (some ⟨b4, 0, none⟩), .pointer (some ⟨b6, 0, none⟩)]]] :: RowsA (some ⟨b4, 0, none⟩) 1 [[.pointer (some ⟨bd, 0, none⟩)]] :: KpF m kv :: RowsA (some ⟨bd, 0, none⟩) 18 [dcs b (b.sl ab cb) b.lasts b.most m] :: R) (fun w h => by
       rw [hq1, hqG1, show kvL b.dsk n [[f0, f1, f2, f3]] = [([f0, f1, f2, f3], .int .i64 (b.dsk.lvl n b.state))] by unfold kvL; simp [hfl]]
       exact St.inw0 (show St ((b8, cel 75 [.slice (some ⟨b47, 0, none⟩) 1 1]) :: (b9, cel 70 [.map (some m48)]) :: (m48, mapO true [([f0, f1, f2, f3], .int .i64 (b.dsk.lvl n b.state))]) :: (b47, cel 69 (ints [f0, f1, f2, f3])) :: (b1, cel 27 (btl b (b.sl ab cb))) :: H) _ w from h)) ?_
     refine sy_loopD (ι := (y : {y : List HSt × Nat × List WE × List Nat // Bq b.dsk n b.state y.1 y.2.1 ∧ y.2.1 ≤ y.1.length ∧ wls y.2.2.1 = wlV b.dsk n (y.1.take y.2.1)}) × (OSl 37 2 (werows y.1.2.2.1) × OQ 69 4 (strows (y.1.1.drop y.1.2.1)))) (fun y => ⟨[(1, .pointer (some ⟨b1, 0, none⟩)), (4, .pointer (some ⟨b4, 0, none⟩)), (6, .pointer (some ⟨b6, 0, none⟩)), (8, .pointer (some ⟨b8, 0, none⟩)), (9, .pointer (some ⟨b9, 0, none⟩)), (10, y.2.1.fs)], mks y.1.1.2.2.2, (b8, cel 75 [y.2.2.fs]) :: (b9, cel 70 [.map (some m48)]) :: (m48, mapO true (kvL b.dsk n y.1.1.1)) :: (y.2.2.G ++ (y.2.1.G ++ (b1, cel 27 (btl b (b.sl ab cb))) :: (mkh y.1.1.2.2.2 ++ H))), InW y.1.1.2.2.1 :: RowsA (some ⟨b6, 0, none⟩) 1 [[.func (.func 27) #[] #[.pointer (some ⟨b4, 0, none⟩), .pointer (some ⟨b6, 0, none⟩)]]] :: RowsA (some ⟨b4, 0, none⟩) 1 [[.pointer (some ⟨bd, 0, none⟩)]] :: KpF m kv :: RowsA (some ⟨bd, 0, none⟩) 18 [dcs b (b.sl ab cb) b.lasts b.most m] :: R⟩) (fun y => b.dsk.nst - y.1.1.2.1) ⟨⟨([[f0, f1, f2, f3]], 0, [], []), Bq.start huf, Nat.zero_le _, rfl⟩, OSl.nil _ _, q1⟩ ?_ (fun y => ?_)
     exact sy_atD (by repeat' first | exact Sub.nil | apply Sub.cons | rfl | (simp [lk]; omega)) rfl (fun _ h => h)
     ·
      obtain ⟨⟨⟨V, j, W, mk⟩, hbq, hjv, hwv⟩, o, q⟩ := y
      dsimp only at hbq hjv hwv o q ⊢
      have hfew := hbq.few hdk
      have hWl : W.length = j := by have := congrArg List.length hwv; unfold wlV at this; rw [wls_len, List.length_map, List.length_take] at this; omega
      have hqs : q.fs = .slice (some ⟨q.b, q.off, none⟩) (V.length - j) q.cap := by unfold OQ.fs; rw [strows_len, List.length_drop]
      rw [hqs]
      refine sy_seq ?_
      refine sy_seq ?_
      refine sy_tx' [0, 1, 2] rfl ?_
      refine spL rfl rfl (lh sc75 rfl rfl) rfl ?_
      refine sp rfl (PE.lenSl isl75 rfl) rfl ?_
      refine sp rfl (PE.gtr rfl rfl) rfl ?_
      refine sy_cond rfl (fun hc2 => ?_) (fun hc2 => ?_)
      ·
       try simp only [decide_eq_true_eq, decide_eq_false_iff_not, Bool.and_eq_true, Bool.or_eq_true, Bool.not_eq_true', Int.not_le, Int.not_lt] at hc2
       obtain ⟨p, hp⟩ : ∃ p, V[j]? = some p := ⟨_, List.getElem?_eq_getElem (by omega)⟩
       have hpV := List.mem_of_getElem? hp
       have hps := hbq.sts p hpV
       have hpl := hps.len
       have hpm := b.dsk.inS_sml hdk hps
       have hplv := hbq.lv p hpV
       have hpk := kpt_of ((b.dsk.mem_sts hdk p).2 hps) hn hfx
       have hpr := kpt_nn hpk
       have hpe : (ints p).length = 4 := by rw [ints_length]; exact hpl
       have hV4 : ∀ s ∈ V, s.length = 4 := fun s hs => (hbq.sts s hs).len
       refine Sy.heap (H' := (b8, cel 75 [.slice (some ⟨q.b, q.off, none⟩) (V.length - j) q.cap]) :: (b9, cel 70 [.map (some m48)]) :: (m48, mapO true (kvL b.dsk n V)) :: (q.b, cel 69 (q.pre ++ ((strows (V.drop j)).flatten ++ q.junk))) :: (o.G ++ (b1, cel 27 (btl b (b.sl ab cb))) :: (mkh mk ++ H))) (fun w h => h) ?_
       have hdr : (q.pre ++ ((strows (V.drop j)).flatten ++ q.junk)).drop (q.off + (0 : Int).toNat * 4) = ints p ++ ((strows (V.drop (j + 1))).flatten ++ q.junk) := by
         have hfl : (strows (V.drop j)).flatten = ints p ++ (strows (V.drop (j + 1))).flatten := by rw [strows_drop hp, List.flatten_cons]
         rw [hfl, show q.off + (0 : Int).toNat * 4 = q.pre.length by rw [q.pl]; simp, List.drop_left, List.append_assoc]
       obtain ⟨q2, hq2, hqG2⟩ := (q.cast (strows_drop hp)).pop
       have hqc : (q.cast (strows_drop hp)).b = q.b ∧ (q.cast (strows_drop hp)).off = q.off ∧ (q.cast (strows_drop hp)).cap = q.cap := by
         generalize strows_drop hp = e
         generalize ints p :: strows (V.drop (j + 1)) = r at e
         subst e; exact ⟨rfl, rfl, rfl⟩
       rw [hqc.1, hqc.2.1, hqc.2.2, strows_len, List.length_drop] at hq2
       rw [OQ.cast_G] at hqG2
       refine sy_skip ?_
       refine sy_block ?_
       refine sy_seq ?_
       refine sy_tx' [0, 1, 2, 3, 4] rfl ?_
       refine spL rfl rfl (lh sc75 rfl rfl) rfl ?_
       refine sp rfl (PE.indexAddr el75 rfl rfl (by omega) (by omega)) rfl ?_
       refine spL rfl rfl (lhA (ints p) ag69 rfl hdr hpe) rfl ?_
       refine alc rfl zl69 rfl (fun b11 => ?_)
       refine stoA rfl rfl rfl cn69 rfl (by rw [ints_length]; exact hpl) rfl (ints_one _) ?_
       refine sy_seq ?_
       refine sy_tx' [0, 1, 2] rfl ?_
       refine spL rfl rfl (lh sc75 rfl rfl) rfl ?_
       refine sp rfl (PE.slLoA (l := 1) sl75 rfl rfl (by omega)) rfl ?_
       have hq2e : Value.slice (if q.cap = 1 then some ⟨q.b, q.off, none⟩ else (some (⟨q.b, q.off, none⟩ : Addr)).map (·.add (1 * 4))) (V.length - j - 1) (q.cap - 1) = q2.fs := by
         rw [hq2, Option.map_some, addr_add, show V.length - (j + 1) = V.length - j - 1 by omega]
       rw [hq2e]
       refine stoE (l' := [q2.fs]) rfl rfl rfl cn75 rfl rfl rfl rfl (Nat.le_refl _) ?_
       refine Sy.heap (H' := (b11, cel 69 (ints p)) :: (b8, cel 75 [q2.fs]) :: (b9, cel 70 [.map (some m48)]) :: (m48, mapO true (kvL b.dsk n V)) :: (q2.G ++ (o.G ++ (b1, cel 27 (btl b (b.sl ab cb))) :: (mkh mk ++ H)))) (fun w h => by rw [hqG2]; exact h) ?_
       refine sy_seq ?_
       refine sy_draw [0, 0, 2, 6, 14, 30, 0, 0, 192, 510, 1022, 2047, 4095] (.tk 0 (.tk 1 (.ld 2 (.tk 3 (.tk 4 (.ld 6 (.ld 7 (.ld 8 (.big 5 (.tk 9 (.big 10 (.big 11 (.tk 12 .done))))))))))))) mixed (by kernel_rfl) ?_
       refine tk rfl (PE.move rfl) rfl ?_
       refine tk rfl (PE.fieldAddr fo27_3 rfl) rfl ?_
       refine ld rfl rfl (lh sc25 rfl rfl) rfl ?_
       refine tk rfl (PE.lenSl isl25 rfl) rfl ?_
       refine tk rfl (PE.slArrHi (h := b.bins.length) ar69 rfl rfl (by omega)) rfl ?_
       refine ld rfl rfl (lh sc70 rfl rfl) rfl ?_
       refine ld rfl rfl (lhA (rest := []) (ints p) ag69 rfl (by rw [List.append_nil]; rfl) (by rw [ints_length]; exact hpl)) rfl ?_
       refine ldK rfl rfl rfl (lk_factE hpl (kvL_len hV4) (kvL_get hpV) (heldM (x := m48))) rfl ?_
       refine cl rfl cal28 rfl rfl (c_Clone b11 69 b.bins.length 4 p (by omega) (by omega) _ _) ?_
       rintro _ _ _ ⟨ol, rfl, rfl, rfl⟩
       obtain ⟨ay, cy, he, hf⟩ := ol.freeze
       rw [he, irows_len]
       refine Sy.heap (fun w h => hf h) ?_
       clear he hf
       refine bg (fun w hs => ⟨(lk_factE hpl (kvL_len hV4) (kvL_get hpV) (heldM (x := m48))) w hs, (lhA (rest := []) (ints p) ag69 rfl (by rw [List.append_nil]; rfl) (by rw [ints_length]; exact hpl)) w hs, (lh sc70 rfl rfl) w hs, trivial, trivial⟩) ?_
       refine tk rfl (PE.build (out := [_, _]) pl37 zl37 rfl rfl) rfl ?_
       refine bsl (out := [_, _]) rfl sl32 zl37 rfl rfl rfl rfl rfl rfl (fun b77 => ?_)
       refine bg (fun w hs => ⟨trivial, trivial, trivial, trivial⟩) ?_
       refine apO (o) rfl ap32 rfl rfl (rowsH (row := werow ⟨ay, cy, p.take b.bins.length, b.dsk.lvl n p⟩) rfl) rfl rfl ((by rw [werows_len]; simp only [List.length_singleton]; omega)) rfl (fun o78 => ?_)
       refine bg (fun w hs => trivial) ?_
       refine tk rfl (PE.assign rfl) rfl ?_
       refine sy_seq ?_
       refine sy_tx' [0, 1] rfl ?_
       refine Sy.heap (fun w h => St.inwSnoc (l := W) ⟨ay, cy, p.take b.bins.length, b.dsk.lvl n p⟩ h) ?_
       obtain ⟨o78, e78, g78⟩ : ∃ o' : OSl 37 2 (werows (W ++ [⟨ay, cy, p.take b.bins.length, b.dsk.lvl n p⟩])), o'.fs = o78.fs ∧ o'.G = o78.G := ⟨o78.cast (by rw [werows_app]; rfl), rfl, rfl⟩
       rw [← e78]
       refine Sy.heap (H' := (b11, cel 69 (ints p)) :: (b8, cel 75 [q2.fs]) :: (b9, cel 70 [.map (some m48)]) :: (m48, mapO true (kvL b.dsk n V)) :: (q2.G ++ (o78.G ++ (b1, cel 27 (btl b (b.sl ab cb))) :: (mkh mk ++ H)))) (R' := InW (W ++ [⟨ay, cy, p.take b.bins.length, b.dsk.lvl n p⟩]) :: RowsA (some ⟨b6, 0, none⟩) 1 [[.func (.func 27) #[] #[.pointer (some ⟨b4, 0, none⟩), .pointer (some ⟨b6, 0, none⟩)]]] :: RowsA (some ⟨b4, 0, none⟩) 1 [[.pointer (some ⟨bd, 0, none⟩)]] :: KpF m kv :: RowsA (some ⟨bd, 0, none⟩) 18 [dcs b (b.sl ab cb) b.lasts b.most m] :: R) (fun w h => by rw [← g78] at h; exact St.sub (h.del b77)) ?_
       clear e78 g78
       refine spL rfl rfl (lfB (sz := 1) sc65 rfl) rfl ?_
       refine cl rfl cal29 rfl rfl (c_turnings bd false _ _) ?_
       rintro _ _ _ ⟨xb, xf, rfl, rfl, rfl⟩
       refine sy_block ?_
       refine sy_range rfl cal81 (fun c0 bl0 bd0 hcp0 hca0 hcb0 hck0 => ?_)
       refine ⟨fun st pend T R' => st = .ready ∧ pend = none ∧ ∃ (V' : List HSt) (q' : OQ 69 4 (strows (V'.drop (j + 1)))), Bq b.dsk n b.state V' j ∧ V'.take (j + 1) = V.take (j + 1) ∧ V'[j]? = some p ∧ CvK b.dsk n V' p ((b.dsk.trs false).length) ∧ T = (bd0, .deferred (some [])) :: (b11, cel 69 (ints p)) :: (b8, cel 75 [q'.fs]) :: (b9, cel 70 [.map (some m48)]) :: (m48, mapO true (kvL b.dsk n V')) :: (q'.G ++ (o78.G ++ (b1, cel 27 (btl b (b.sl ab cb))) :: (mkh mk ++ H))) ∧ R' = RowsA (some ⟨xf, 0, none⟩) 1 [[.bool false]] :: RowsA (some ⟨xb, 0, none⟩) 1 [[.pointer (some ⟨bd, 0, none⟩)]] :: InW (W ++ [⟨ay, cy, p.take b.bins.length, b.dsk.lvl n p⟩]) :: RowsA (some ⟨b6, 0, none⟩) 1 [[.func (.func 27) #[] #[.pointer (some ⟨b4, 0, none⟩), .pointer (some ⟨b6, 0, none⟩)]]] :: RowsA (some ⟨b4, 0, none⟩) 1 [[.pointer (some ⟨bd, 0, none⟩)]] :: KpF m kv :: RowsA (some ⟨bd, 0, none⟩) 18 [dcs b (b.sl ab cb) b.lasts b.most m] :: R,
         Fn.mono (c_turnings1 b hok ab cb bd m false xb xf bl0 (fun k H' R' => ∃ (V' : List HSt) (q' : OQ 69 4 (strows (V'.drop (j + 1)))), Bq b.dsk n b.state V' j ∧ V'.take (j + 1) = V.take (j + 1) ∧ V'[j]? = some p ∧ CvK b.dsk n V' p (k) ∧ H' = (bl0, lob c0 .ready none) :: (bd0, .deferred (some [])) :: (b11, cel 69 (ints p)) :: (b8, cel 75 [q'.fs]) :: (b9, cel 70 [.map (some m48)]) :: (m48, mapO true (kvL b.dsk n V')) :: (q'.G ++ (o78.G ++ (b1, cel 27 (btl b (b.sl ab cb))) :: (mkh mk ++ H))) ∧ R' = RowsA (some ⟨xf, 0, none⟩) 1 [[.bool false]] :: RowsA (some ⟨xb, 0, none⟩) 1 [[.pointer (some ⟨bd, 0, none⟩)]] :: InW (W ++ [⟨ay, cy, p.take b.bins.length, b.dsk.lvl n p⟩]) :: RowsA (some ⟨b6, 0, none⟩) 1 [[.func (.func 27) #[] #[.pointer (some ⟨b4, 0, none⟩), .pointer (some ⟨b6, 0, none⟩)]]] :: RowsA (some ⟨b4, 0, none⟩) 1 [[.pointer (some ⟨bd, 0, none⟩)]] :: KpF m kv :: RowsA (some ⟨bd, 0, none⟩) 18 [dcs b (b.sl ab cb) b.lasts b.most m] :: R)
           (fun _ _ => False)
           (fun k H' R' h => by obtain ⟨_, _, _, _, _, _, _, rfl⟩ := h; exact ⟨by simp, by simp, by simp⟩) (fun k l a c H' R' hk hI => ?_) _ _ ⟨V, q2, hbq, rfl, hp, fun i l hi => absurd hi (Nat.not_lt_zero _), rfl, rfl⟩) (fun v H' R' h => ?_), ?_⟩
       rotate_left
       · rcases h with ⟨V', q', h1, h2, h3, h4, rfl, rfl⟩ | h
         · exact ⟨.ready, none, _, by simp, .refl _, rfl, rfl, V', q', h1, h2, h3, h4, rfl, rfl⟩
         · exact h.elim
       rotate_left
       have hlm := List.mem_of_getElem? hk
       have hlt := b.dsk.trs_lt hlm
       have hll : l.length ≤ 1000000 := by
         obtain ⟨i, _, rfl⟩ := List.mem_map.1 (List.mem_filter.1 hlm).1
         have := bitl_len b.dsk.n i
         have := hdk.n
         omega
       obtain ⟨V1, q3, hb1, ht1, hp1, hcv, rfl, rfl⟩ := hI
       have hj1 := (List.getElem?_eq_some_iff.1 hp1).1
       have hf1 := hb1.few hdk
       have hp1V := List.mem_of_getElem? hp1
       have hV14 : ∀ s ∈ V1, s.length = 4 := fun s hs => (hb1.sts s hs).len
       refine yd_of hcp0 hca0 hcb0 hck0 rfl ?_
       refine sy_tx' [0] rfl ?_
       refine sp rfl (PE.assign rfl) rfl ?_
       refine sy_beginRound ?_
       refine sy_block ?_
       refine sy_seq ?_
       refine sy_tx' [0, 1, 2, 3, 4, 5, 6, 7, 8, 9] rfl ?_
       refine spL rfl rfl (lfB (sz := 1) sc65 rfl) rfl ?_
       refine spL rfl rfl (lhA (rest := []) (ints p) ag69 rfl (by rw [List.append_nil]; rfl) (by rw [ints_length]; exact hpl)) rfl ?_
       refine sp rfl (PE.move rfl) rfl ?_
       refine cl rfl cal30 rfl rfl (c_next b hok ab cb bd m p hpm l hlt hll a c _ _) ?_
       rintro _ _ _ ⟨rfl, rfl, rfl⟩
       rcases hnx : b.dsk.next p l with _ | t
       refine sp rfl (PE.move rfl) rfl ?_
       refine sp rfl (PE.extract rfl rfl) rfl ?_
       refine sp rfl (PE.extract rfl rfl) rfl ?_
       refine alc rfl zl69 rfl (fun b13 => ?_)
       first | (refine stoA rfl rfl rfl cn69 rfl rfl rfl (ints_one _) ?_) | (refine stoA rfl rfl rfl cn69 rfl (by rw [ints_length]; exact htl) rfl (ints_one _) ?_)
       refine sp rfl (PE.assign rfl) rfl ?_
       refine sy_seq ?_
       refine sy_seq ?_
       refine sy_tx' [0, 1] rfl ?_
       refine sp rfl (PE.move rfl) rfl ?_
       refine sp rfl (PE.not rfl) rfl ?_
       refine sy_condT rfl ?_
       refine sy_exit ?_
       refine sy_tx ?_
       refine sy_bx ?_
       exact sy_roundOn (.inl ⟨rfl, V1, q3, hb1, ht1, hp1, hcv.more hk (fun t ht => by rw [hnx] at ht; cases ht), rfl, rfl⟩) (fun _ h => (h.del b13).ftail)
       refine sp rfl (PE.move rfl) rfl ?_
       have hts := b.dsk.next_inS hdk hps hlt hnx
       have htl := hts.len
       have htlv : b.dsk.lvl n t < b.dsk.lvl n p := kpt_next hdk hps hlm hnx hpk (kpt_of ((b.dsk.mem_sts hdk t).2 hts) hn hfx) (by omega)
       refine sp rfl (PE.extract rfl rfl) rfl ?_
       refine sp rfl (PE.extract rfl rfl) rfl ?_
       refine alc rfl zl69 rfl (fun b13 => ?_)
       first | (refine stoA rfl rfl rfl cn69 rfl rfl rfl (ints_one _) ?_) | (refine stoA rfl rfl rfl cn69 rfl (by rw [ints_length]; exact htl) rfl (ints_one _) ?_)
       refine sp rfl (PE.assign rfl) rfl ?_
       refine sy_seq ?_
       refine sy_seq ?_
       refine sy_tx' [0, 1] rfl ?_
       refine sp rfl (PE.move rfl) rfl ?_
       refine sp rfl (PE.not rfl) rfl ?_
       refine sy_condF rfl ?_
       refine sy_skip ?_
       refine sy_seq ?_
       refine sy_draw [0, 0, 0, 0, 12, 28, 63, 127] (.ld 0 (.ld 1 (.ld 2 (.ld 3 (.ld 4 (.tk 5 (.big 6 (.big 7 .done)))))))) mixed (by kernel_rfl) ?_
       refine ld rfl rfl (lfB (sz := 1) sc74 rfl) rfl ?_
       refine ld rfl rfl (lhA (rest := []) (ints t) ag69 rfl (by rw [List.append_nil]; rfl) (by rw [ints_length]; exact htl)) rfl ?_
       refine ld rfl rfl (lh sc70 rfl rfl) rfl ?_
       refine ld rfl rfl (lhA (rest := []) (ints p) ag69 rfl (by rw [List.append_nil]; rfl) (by rw [ints_length]; exact hpl)) rfl ?_
       refine ldK rfl rfl rfl (lk_factE hpl (kvL_len hV14) (kvL_get hp1V) (heldM (x := m48))) rfl ?_
       refine tk rfl (PE.sub rfl rfl (by omega)) rfl ?_
       refine clF rfl rfl (cal27) rfl rfl (c_raise b hok ab cb bd m n hn kv hkv b4 b6 (b.dsk.lvl n p - 1) t hts _ _) ?_
       rintro _ _ _ ⟨uf, hu, rfl, rfl, rfl⟩
       obtain ⟨u0, u1, u2, u3, rfl⟩ := list4 hu.inS.len
       have hulv : b.dsk.lvl n [u0, u1, u2, u3] < b.dsk.lvl n p := by
         rcases hu.lv with h1 | h1
         · rw [h1]; exact htlv
         · omega
       have hum := (b.dsk.mem_sts hdk _).2 hu.inS
       have hukv := hkv.get _ hum
       have hcvu : ∀ V2 : List HSt, [u0, u1, u2, u3] ∈ V2 → ∀ t2, b.dsk.next p l = some t2 → ∃ u ∈ V2, undP b.dsk.n t2 u = true ∧ b.dsk.lvl n u < b.dsk.lvl n p := fun V2 hm t2 ht2 => by rw [hnx] at ht2; cases ht2; exact ⟨_, hm, hu.le, hulv⟩
       obtain ⟨go, hgo⟩ : ∃ go, (kvL b.dsk n V1).get [u0, u1, u2, u3] = go := ⟨_, rfl⟩
       refine bg (fun w hs => ⟨trivial, trivial, trivial, trivial, trivial, trivial⟩) ?_
       refine stoA rfl rfl rfl cn69 rfl (by rw [ints_length]; rfl) (by rw [ints_length]; exact htl) (ints_one _) ?_
       refine bg (fun w hs => trivial) ?_
       refine sy_seq ?_
       refine sy_tx' [0, 1, 2, 3, 4, 5, 6, 7] rfl ?_
       refine spL rfl rfl (lh sc70 rfl rfl) rfl ?_
       refine spL rfl rfl (lhA (rest := []) (ints [u0, u1, u2, u3]) ag69 rfl (by rw [List.append_nil]; rfl) (by rw [ints_length]; exact rfl)) rfl ?_
       refine spK rfl rfl rfl (lk_held (b := true) (kvL b.dsk n V1) [u0, u1, u2, u3] mke70 (KeyT.of eqf69 noa69) (run_zv zv3) rfl (kvL_len hV14) true) rfl ?_
       rw [hgo]
       refine sp rfl (PE.move rfl) rfl ?_
       refine sp rfl (PE.extract rfl rfl) rfl ?_
       refine sp rfl (PE.extract rfl rfl) rfl ?_
       refine sp rfl (PE.assign rfl) rfl ?_
       refine sp rfl (PE.assign rfl) rfl ?_
       refine sy_seq ?_
       refine sy_draw [0, 1, 3, 7, 7, 23, 55, 119, 7, 503, 1023, 2047] (.tk 0 (.tk 1 (.tk 2 (.tk 3 (.ld 4 (.tk 5 (.tk 6 (.ld 7 (.ld 8 (.ld 9 (.tk 10 (.tk 11 .done)))))))))))) mixed (by kernel_rfl) ?_
       refine tk rfl (PE.move rfl) rfl ?_
       refine tk rfl (PE.not rfl) rfl ?_
       refine tk rfl (PE.move rfl) rfl ?_
       refine sy_case (t := 106) rfl (fun g106 => ?_) (fun g106 => ?_)
       obtain rfl : go = none := by cases go with
         | none => rfl
         | some g => exact absurd g106 (by simp)
       have hun : [u0, u1, u2, u3] ∉ V1 := fun hm => by rw [kvL_get hm] at hgo; cases hgo
       refine tkN rfl rfl rfl rfl rfl rfl rfl rfl ?_
       refine ldN rfl rfl rfl rfl rfl rfl rfl rfl ?_
       repeat refine tkN rfl rfl rfl rfl rfl rfl rfl rfl ?_
       repeat refine ldN rfl rfl rfl rfl rfl rfl rfl rfl ?_
       refine tkN rfl rfl rfl rfl rfl rfl rfl rfl ?_
       refine tk rfl (PE.pick rfl rfl rfl) rfl ?_
       refine sy_condT rfl ?_
       refine sy_seq ?_
       refine sy_draw [0, 0, 0, 4, 12, 28, 0, 124, 255] (.ld 0 (.ld 1 (.ld 2 (.tk 3 (.tk 4 (.ld 5 (.ld 6 (.ld 7 (.big 8 .done))))))))) mixed (by kernel_rfl) ?_
       refine ld rfl rfl (lh sc70 rfl rfl) rfl ?_
       refine ld rfl rfl (lhA (rest := []) (ints [u0, u1, u2, u3]) ag69 rfl (by rw [List.append_nil]; rfl) (by rw [ints_length]; exact rfl)) rfl ?_
       refine ld rfl rfl (lfB (sz := 1) sc65 rfl) rfl ?_
       refine tk rfl (PE.nilCheck rfl) rfl ?_
       refine tk rfl (PE.fieldAddr fo72_3 rfl) rfl ?_
       refine ld rfl rfl (lfB (sz := 18) sc70 (dcs_map hl4 hm4)) rfl ?_
       refine ld rfl rfl (lhA (rest := []) (ints [u0, u1, u2, u3]) ag69 rfl (by rw [List.append_nil]; rfl) (by rw [ints_length]; exact rfl)) rfl ?_
       refine ldK rfl rfl rfl (lk_factE rfl hkv.len hukv (fun w hs => hs.now (MemF.mem (f := KpF m kv)))) rfl ?_
       refine mpu (kvL b.dsk n V1) [u0, u1, u2, u3] (v := .int .i64 (b.dsk.lvl n [u0, u1, u2, u3])) rfl mke70 (KeyT.of eqf69 noa69) rfl rfl rfl rfl (kvL_len hV14) ?_
       rw [kvL_put hun]
       refine bg (fun w hs => ⟨trivial, trivial, trivial, trivial, trivial, trivial, trivial⟩) ?_
       refine sy_tx' [0, 1, 2, 3, 4] rfl ?_
       refine spL rfl rfl (lh sc75 rfl rfl) rfl ?_
       refine spL rfl rfl (lhA (rest := []) (ints [u0, u1, u2, u3]) ag69 rfl (by rw [List.append_nil]; rfl) (by rw [ints_length]; exact rfl)) rfl ?_
       refine bsl (out := [_, _, _, _]) rfl sl75 zl69 rfl rfl rfl rfl rfl rfl (fun b126 => ?_)
       refine apQ q3 rfl ap75 rfl rfl (rowsH (row := ints [u0, u1, u2, u3]) rfl) rfl (by simp) rfl (by rw [strows_len, List.length_drop]; simp only [List.length_singleton]; omega) rfl (fun q4 => ?_)
       refine stoE (l' := [q4.fs]) rfl rfl rfl cn75 rfl rfl rfl rfl (Nat.le_refl _) ?_
       obtain ⟨q5, e5, g5⟩ : ∃ q5 : OQ 69 4 (strows ((V1 ++ [[u0, u1, u2, u3]]).drop (j + 1))), q5.fs = q4.fs ∧ q5.G = q4.G := ⟨q4.cast (strows_add (by omega) _), OQ.cast_fs _ _, OQ.cast_G _ _⟩
       exact sy_roundOn (.inl ⟨rfl, V1 ++ [[u0, u1, u2, u3]], q5, hb1.add (by omega) hu.inS hun (by have := hulv; omega), by rw [List.take_append_of_le_length (by omega)]; exact ht1, by rw [List.getElem?_append_left hj1]; exact hp1, (hcv.add _).more hk (hcvu _ (by simp)), rfl, rfl⟩) (fun _ h => by rw [e5, g5]; exact ((h.del b126).del b13).ftail)
       obtain ⟨g, rfl⟩ : ∃ g, go = some g := by cases go with
         | none => exact absurd g106 (by simp)
         | some g => exact ⟨g, rfl⟩
       have hui : [u0, u1, u2, u3] ∈ V1 := Classical.byContradiction fun hm => by rw [kvL_no hm] at hgo; cases hgo
       obtain rfl : g = .int .i64 (b.dsk.lvl n [u0, u1, u2, u3]) := by rw [kvL_get hui] at hgo; cases hgo; rfl
       refine tkG rfl rfl rfl rfl (PE.move rfl) rfl ?_
       refine ldG rfl rfl rfl rfl rfl (lfB (sz := 1) sc65 rfl) rfl ?_
       refine tkG rfl rfl rfl rfl (PE.nilCheck rfl) rfl ?_
       refine tkG rfl rfl rfl rfl (PE.fieldAddr fo72_3 rfl) rfl ?_
       refine ldG rfl rfl rfl rfl rfl (lfB (sz := 18) sc70 (dcs_map hl4 hm4)) rfl ?_
       refine ldG rfl rfl rfl rfl rfl (lhA (rest := []) (ints [u0, u1, u2, u3]) ag69 rfl (by rw [List.append_nil]; rfl) (by rw [ints_length]; exact rfl)) rfl ?_
       refine ldKG rfl rfl rfl rfl rfl rfl (lk_factE rfl hkv.len hukv (fun w hs => hs.now (MemF.mem (f := KpF m kv)))) rfl ?_
       refine tkG rfl rfl rfl rfl (PE.neq rfl rfl) rfl ?_
       refine tk rfl (PE.pick rfl rfl rfl) rfl ?_
       refine sy_cond rfl (fun hc4 => ?_) (fun hc4 => ?_)
       exact absurd hc4 (by simp)
       refine sy_skip ?_
       exact sy_roundOn (.inl ⟨rfl, V1, q3, hb1, ht1, hp1, hcv.more hk (hcvu V1 hui), rfl, rfl⟩) (fun _ h => (h.del b13).ftail)
       ·
        rintro _ _ _ _ ⟨rfl, rfl, V1, q3, hb1, ht1, hp1, hcv, rfl, rfl⟩
        refine sy_jn ?_
        have hj1 := (List.getElem?_eq_some_iff.1 hp1).1
        have hf1 := hb1.few hdk
        exact sy_nextD ⟨⟨(V1, j + 1, W ++ [⟨ay, cy, p.take b.bins.length, b.dsk.lvl n p⟩], bd0 :: mk), hb1.next hp1 hcv, hj1, by dsimp only; rw [wls_app, hwv, ht1, wlV_snoc hp]; rfl⟩, o78, q3⟩ (by dsimp only; omega) (by repeat' first | exact Sub.nil | apply Sub.cons | rfl | (simp [lk]; omega)) rfl (fun w h => St.sub ((h.del b11).perm ((perm_swap3 [_] [_, _, _] _).trans (List.Perm.append_left [_, _, _] ((List.perm_middle (l₁ := q3.G)).symm.trans (List.Perm.append_left q3.G ((List.perm_middle (l₁ := o78.G)).symm.trans (List.Perm.append_left o78.G (List.Perm.swap _ _ _)))))))))
      try simp only [decide_eq_true_eq, decide_eq_false_iff_not, Bool.and_eq_true, Bool.or_eq_true, Bool.not_eq_true', Int.not_le, Int.not_lt] at hc2
      obtain rfl : j = V.length := by omega
      rw [List.take_of_length_le (Nat.le_refl _)] at hwv
      have hw := hbq.wall hok hn hfx hc1
      rw [← hwv] at hw
      have hdm : ∀ x ∈ W, x.d ≤ b.dsk.lvl n b.state := fun x hx => by
        have h1 := wls_mem hx
        rw [hwv] at h1
        obtain ⟨v, hv, e⟩ := List.mem_map.1 h1
        have h2 := hbq.lv v hv
        have h3 : b.dsk.lvl n v = x.d := congrArg Prod.snd e
        omega
      obtain ⟨aw, cw, he, hcw, hf⟩ := o.freezeC
      rw [he, werows_len]
      rw [werows_len] at hcw
      refine sy_exit ?_
      repeat refine sy_tx ?_
      refine sy_bx ?_
      refine sy_seq ?_
      refine sy_tx' [0, 1, 2] rfl ?_
      refine sp rfl (PE.move rfl) rfl ?_
      refine sp rfl (PE.assign rfl) rfl ?_
      refine sp rfl (PE.assign rfl) rfl ?_
      refine sy_ret ?_
      refine Sy.heap (H' := mkh mk ++ H) (R' := RowsA aw 2 (werows W) :: InW W :: R) (fun w h => St.sub (hf ((St.drop (G := q.G) (((h.del m48).del b9).del b8)).del b1))) ?_
      exact sy_returnM mk (fun _ h => h) rfl (.cons (RV.tmp rfl) (.cons (RV.tmp rfl) .nil)) rfl ⟨rfl, .inr (.inr ⟨hck, _, W, aw, cw, hc1, hks, hw, by omega, hcw, hdm, rfl, rfl⟩)⟩ (fun w h => h)
   exact sy_stop
end Go.Proofs.YtelegnmfhjfbaaaGreat
namespace Go.Proofs.YtelegnmfhjfbaaaGreat
set_option linter.unusedSimpArgs false
set_option linter.unusedVariables false
open Go
theorem cal22 : cal Tryz.prog 22 = true := by kernel_rfl
theorem cal6 : cal Tryz.prog 6 = true := by kernel_rfl
structure WWant (b : Barn) (w lo : Int) : Prop where
  is : (b.check ≠ 0 ∧ w = b.check) ∨ (b.check = 0 ∧ Kpt b.dsk b.state lo ∧ ((lo = 1000000 ∧ w = 6) ∨ (lo ≠ 1000000 ∧ w = 0)))
theorem WWant.zero {b : Barn} {w lo : Int} (h : WWant b w lo) (hw : w = 0) : b.check = 0 ∧ Kpt b.dsk b.state lo ∧ lo ≠ 1000000 := by
  rcases h.is with ⟨h1, h2⟩ | ⟨h1, h2, h3⟩
  · omega
  · exact ⟨h1, h2, by omega⟩
theorem shwE_ok {b : Barn} {W : WL} (h : b.check = 0) : shwE b W = shwV b W := by unfold shwE; rw [decide_eq_true h]; rfl
theorem c_WallX (b : Barn) (ab : Option Addr) (cb : Nat) (hl : b.bins.length ≤ 9223372036854775807) (hr : b.rise.length = 6) {w lo : Int} (hw : WWant b w lo) (H : Heap) (R : Facts) [hB : MemRows ab 4 (brows b.bins) R] : Fn Tryz.prog 6 [b.v (b.sl ab cb)] H R (fun v H' R' => ∃ (L : List WE) (al : Option Addr) (cl : Nat), (w ≠ 0 → L = []) ∧ (w = 0 → shwV b (wls L) = (lo, 0) ∧ L.length ≤ b.dsk.nst ∧ L.length ≤ cl ∧ ∀ x ∈ L, x.d ≤ lo) ∧ v = .tuple #[.slice al L.length cl, .int .i64 w] ∧ H' = H ∧ R' = RowsA al 2 (werows L) :: InW L :: R) := fun w0 hw0 => by
  refine CallsIn.mono (c_Wall b ab cb hl hr H R w0 hw0) ?_
  rintro e' w' ⟨u, H', R', ⟨rfl, hq⟩, he, hs'⟩
  rcases hq with ⟨h1, rfl, rfl⟩ | ⟨h1, h2, rfl, rfl⟩ | ⟨h1, m, W, aw, cw, h2, h3, h4, h5, h6, h7, rfl, rfl⟩
  · have e : w = b.check := by rcases hw.is with ⟨_, h⟩ | ⟨h, _⟩; exact h; exact absurd h h1
    subst e
    exact ⟨_, _, _, ⟨[], none, 0, fun _ => rfl, fun h => absurd h h1, rfl, rfl, rfl⟩, he, St.noRows (St.inw0 hs')⟩
  · have e : w = 6 := by
      rcases hw.is with ⟨h, _⟩ | ⟨_, h, h3⟩
      · exact absurd h1 h
      · have := kpt_unique h h2; omega
    subst e
    exact ⟨_, _, _, ⟨[], none, 0, fun _ => rfl, fun h => (by cases h), rfl, rfl, rfl⟩, he, St.noRows (St.inw0 hs')⟩
  · have e : w = 0 ∧ lo = m := by
      rcases hw.is with ⟨h, _⟩ | ⟨_, h, h8⟩
      · exact absurd h1 h
      · have := kpt_unique h h3; omega
    obtain ⟨rfl, rfl⟩ := e
    exact ⟨_, _, _, ⟨W, aw, cw, fun h => absurd rfl h, fun _ => ⟨h4, h5, h6, h7⟩, rfl, rfl, rfl⟩, he, hs'⟩
end Go.Proofs.YtelegnmfhjfbaaaGreat
namespace Go.Proofs.YtelegnmfhjfbaaaGreat
set_option linter.unusedSimpArgs false
set_option linter.unusedVariables false
open Go
structure WO where
  b : Nat
  cap : Nat
  l : List Int
  junk : List Value
  d : Int
def WO.blk (x : WO) : Nat × Obj := (x.b, cel 3 (ints x.l ++ x.junk))
theorem OSl.wo (l : List Int) (d : Int) (o : OSl 3 1 (irows l)) (h : o.here) : ∃ x : WO, x.l = l ∧ x.d = d ∧ o.fs = .slice (some ⟨x.b, 0, none⟩) x.l.length x.cap ∧ o.G = [x.blk] := by
  obtain ⟨b, c, hf⟩ := h
  rcases o.is with ⟨_, h2, _⟩ | ⟨b', cap, junk, h1, h2, _⟩
  · rw [h2] at hf; cases hf
  · refine ⟨⟨b', cap, l, junk, d⟩, rfl, rfl, by rw [h1, irows_len], ?_⟩
    rw [h2, show (irows l).flatten = ints l from irows_flat l]; rfl
end Go.Proofs.YtelegnmfhjfbaaaGreat
namespace Go.Proofs.YtelegnmfhjfbaaaGreat
set_option linter.unusedSimpArgs false
set_option linter.unusedVariables false
open Go
structure Wok (b : Barn) (W : List WE) : Prop where
  ok : ∀ z ∈ wls W, stErr b z = 0
  len : 1 ≤ W.length ∧ W.length ≤ 2000
theorem Wok.one {b : Barn} {W : List WE} (h : Wok b W) {x : WE} (hx : x ∈ W) : x.l.length = b.bins.length ∧ (0 ≤ x.d ∧ x.d ≤ 20000) ∧ ∀ k < b.bins.length, badL b k (na x.l k) = false := stErr_zero (h.ok _ (wls_mem hx))
theorem Wok.put {b : Barn} {A C : List WE} {x y : WE} (h : Wok b (A ++ x :: C)) (hy : stErr b (y.l, y.d) = 0) : Wok b (A ++ y :: C) := by
  refine ⟨fun z hz => ?_, by have := h.len; simp only [List.length_append, List.length_cons] at this ⊢; exact this⟩
  rw [wls_app] at hz
  rcases List.mem_append.1 hz with hz | hz
  · exact h.ok z (by rw [wls_app]; exact List.mem_append_left _ hz)
  · rcases List.mem_cons.1 (show z ∈ (y.l, y.d) :: wls C from hz) with rfl | hz
    · exact hy
    · exact h.ok z (by rw [wls_app]; exact List.mem_append_right _ (show z ∈ (x.l, x.d) :: wls C from List.mem_cons_of_mem _ hz))
theorem Wok.del {b : Barn} {W : List WE} (h : Wok b W) {i : Nat} (hi : i < W.length) (h2 : 1 < W.length) : Wok b (W.eraseIdx i) := by
  refine ⟨fun z hz => ?_, by rw [List.length_eraseIdx_of_lt hi]; have := h.len; omega⟩
  obtain ⟨x, hx, rfl⟩ := List.mem_map.1 hz
  exact h.ok _ (wls_mem (List.mem_of_mem_eraseIdx hx))
theorem c_ShowsK (b : Barn) (ab : Option Addr) (cb : Nat) (hl : b.bins.length ≤ 9223372036854775807) (hr : b.rise.length = 6) (hck : b.check = 0) (W : List WE) (aw : Option Addr) (cw : Nat) (hwl : W.length ≤ 1000000) (hwx : ∀ x ∈ W, x.l.length ≤ 1000000) (H : Heap) (R : Facts) [hB : MemRows ab 4 (brows b.bins) R] [hW : MemRows aw 2 (werows W) R] [hN : MemF (InW W) R] : FnV Tryz.prog 22 [b.v (b.sl ab cb), .slice aw W.length cw] H R (.tuple #[.int .i64 (shwV b (wls W)).1, .int .i64 (shwV b (wls W)).2]) := by
  rw [← shwE_ok hck]; exact c_Shows b ab cb hl hr W aw cw hwl hwx H R
end Go.Proofs.YtelegnmfhjfbaaaGreat
namespace Go.Proofs.YtelegnmfhjfbaaaGreat
set_option linter.unusedSimpArgs false
set_option linter.unusedVariables false
open Go
theorem cal13 : cal Tryz.prog 13 = true := by kernel_rfl
theorem cal14 : cal Tryz.prog 14 = true := by kernel_rfl
theorem cal17 : cal Tryz.prog 17 = true := by kernel_rfl
theorem cal19 : cal Tryz.prog 19 = true := by kernel_rfl
theorem cal21 : cal Tryz.prog 21 = true := by kernel_rfl
theorem cal23 : cal Tryz.prog 23 = true := by kernel_rfl
theorem right_day {b : Barn} {l : List Nat} (h : l ∈ b.dsk.trs false) : (∀ (k : Nat) (x : Int), (il l)[k]? = some x → 0 ≤ x ∧ x < (b.bins.length : Int)) ∧ (∀ (i j : Nat) (x y : Int), i < j → (il l)[i]? = some x → (il l)[j]? = some y → x < y) ∧ ((il l).length : Int) ≤ b.gangs := by
  obtain ⟨u, hu, rfl, h1, _⟩ := b.dsk.mem_trs.1 h
  refine ⟨fun k x hx => ?_, fun i j x y hij hx hy => ?_, ?_⟩
  · obtain ⟨j, hj, rfl⟩ := List.mem_map.1 (List.mem_of_getElem? hx)
    have : j < b.bins.length := bitl_lt hj
    omega
  · obtain ⟨h2, e2⟩ := List.getElem?_eq_some_iff.1 hx
    obtain ⟨h3, e3⟩ := List.getElem?_eq_some_iff.1 hy
    have := List.pairwise_iff_getElem.1 (il_bitl_pair _ _) i j h2 h3 hij
    rw [e2, e3] at this; exact this
  · rw [il_len]
    unfold Dsk.g at h1
    have : b.dsk.gangs = b.gangs := rfl
    omega
def Mkb (b : Barn) (pl : List PL) : Prop := ∀ x ∈ pl, ∃ l, x.l = il l ∧ l ∈ b.dsk.trs false
theorem Mkb.of {b : Barn} {pl : List PL} {p : List (List Nat)} (h : lls pl = p.map il) (ht : ∀ l ∈ p, l ∈ b.dsk.trs false) : Mkb b pl := fun x hx => by
  have h1 : x.l ∈ lls pl := List.mem_map.2 ⟨x, hx, rfl⟩
  rw [h] at h1
  obtain ⟨l, hl, e⟩ := List.mem_map.1 h1
  exact ⟨l, e.symm, ht l hl⟩
theorem Mkb.four {b : Barn} (hok : b.ok) {pl : List PL} (h : Mkb b pl) : ∀ x ∈ pl, x.l.length ≤ 4 := fun x hx => by
  obtain ⟨l, e, hl⟩ := h x hx
  have := b.dsk.trs_four (b.dsk_ok hok) hl
  rw [e, il_len]; exact this
theorem goesV {b : Barn} {p q : List (List Int)} (hp : b.planned p = 0) (hq : planErr b.bins.length b.gangs q = 0) (hn : q.length ≠ 0) (hg : b.goes p q) {v : Value} (h : GoesQ b p q v) : v = .tuple #[.bool true, .int .i64 0] := by
  have e : goesErr b p q = 0 := by unfold goesErr; rw [decide_eq_true hp, decide_eq_true hq, decide_eq_false hn]; rfl
  rcases h with ⟨h1, _⟩ | ⟨_, is, h1, rfl⟩
  · exact absurd e h1
  · rw [h1.2 hg]
def repP (n : Nat) (q : List PL) : List PL := (List.replicate n q).flatten
theorem repP_succ (n : Nat) (q : List PL) : repP (n + 1) q = repP n q ++ q := by
  unfold repP; rw [List.replicate_succ', List.flatten_append, List.flatten_singleton]
theorem lls_rep (n : Nat) (q : List PL) : lls (repP n q) = rep n (lls q) := by
  induction n with
  | zero => rfl
  | succ n ih => rw [repP_succ, rep_succ, lls_app, ih]
theorem repP_len (n : Nat) (q : List PL) : (repP n q).length = n * q.length := by
  induction n with
  | zero => simp [repP]
  | succ n ih => rw [repP_succ, List.length_append, ih, Nat.succ_mul]
theorem repP_mem {n : Nat} {q : List PL} {x : PL} (h : x ∈ repP n q) : x ∈ q := by
  obtain ⟨r, hr, hx⟩ := List.mem_flatten.1 h
  rw [(List.mem_replicate.1 hr).2] at hx; exact hx
theorem cold_none {b : Barn} (hok : b.ok) {qc : List Int} (hc : Cls b qc) {p : List (List Int)} (h : (b.burnsF b.warms p 0).1 = none) : dayN (b.burnsC qc b.warms p 0) = -1 := by
  rw [burnsC_none (hc.rise hok) p b.warms b.warms 0 (fun _ _ => Int.le_refl _) h]; rfl
theorem PlnOk.none {b : Barn} (hok : b.ok) {n c : Nat} {p : List (List Nat)} (h : PlnOk b n c p) : (b.burnsF b.warms (p.map il) 0).1 = none := by
  have h1 := h.cold hok
  rw [brn_b, decide_eq_false_iff_not] at h1
  exact Classical.not_not.1 h1
theorem long_burns {b : Barn} (hok : b.ok) {p : List (List Nat)} (hp : ∀ l ∈ p, l ∈ b.dsk.trs false) (hx : ¬ ∃ t c, b.dsk.pth p.length b.state t c) : 0 ≤ dayN (b.burnsC (hiL b) b.warms (p.map il) 0) ∧ dayN (b.burnsC (hiL b) b.warms (p.map il) 0) < p.length := by
  rw [burnsC_hi]
  rcases brn_cases b (p.map il) with ⟨ws, h1, h2⟩ | ⟨d, k, ws, h1, h2⟩
  · exfalso
    refine hx ?_
    have hr : b.dsk.run b.state p = some (b.stw ws) := by
      rcases Barn.run_burns hok p b.warms 0 (Cool.start hok) (fun l hl => b.dsk.trs_lt (hp l hl)) with ⟨ws', h3, h4, _⟩ | ⟨x, ws', h3, _⟩
      · rw [h1] at h3; cases h3
        rw [Barn.stw_warms hok] at h4; exact h4
      · rw [h1] at h3; cases h3
    exact ⟨_, _, b.dsk.run_pth hp hr⟩
  · have h3 := (brn_hot h1).2.1
    rw [List.length_map] at h3
    rw [h2]
    simp only [cond_true]
    omega
theorem c_RoundN (b : Barn) (ab : Option Addr) (cb : Nat) (hl : b.bins.length ≤ 9223372036854775807) (hr : b.rise.length = 6) (hck : b.check = 0) {m : Int} (hk : Kpt b.dsk b.state m) (hm : m ≠ 1000000) (H : Heap) (R : Facts) [hB : MemRows ab 4 (brows b.bins) R] : FnV Tryz.prog 9 [b.v (b.sl ab cb)] H R (.tuple #[.slice none 0 0, .slice none 0 0, .int .i64 6]) := fun w hw => by
  refine CallsIn.mono (c_Round b ab cb hl hr H R w hw) ?_
  rintro e' w' ⟨u, H', R', ⟨rfl, hq⟩, he, hs'⟩
  rcases hq with ⟨h, _⟩ | ⟨_, _, rfl, rfl⟩ | ⟨_, h, _⟩
  · exact absurd hck h
  · exact ⟨_, _, _, ⟨rfl, rfl, rfl⟩, he, hs'⟩
  · exact absurd (kpt_unique hk h) hm
theorem c_lright (b : Barn) (ab : Option Addr) (cb : Nat) (hok : b.ok) (pl : List PL) (ap : Option Addr) (cp : Nat) (hpl : pl.length ≤ 9223372036854775807) (hpi : ∀ x ∈ pl, x.l.length ≤ 9223372036854775807) (hmk : Mkb b pl) (H : Heap) (R : Facts) [hB : MemRows ab 4 (brows b.bins) R] [hP : MemRows ap 1 (plrows pl) R] [hI : MemF (Inn pl) R] :
    FnV Tryz.prog 19 [b.v (b.sl ab cb), .slice ap pl.length cp] H R (.bool true) := by
 have hmn := hok.many
 refine fn_of Tryz.func19 rfl Tryz.ntmps19 rfl ?_
 refine sy_seq ?_
 refine sy_tx' [0, 1] rfl ?_
 refine bx rfl rfl rfl (fun b2 => ?_)
 refine sp rfl (PE.assign rfl) rfl ?_
 refine sy_seq ?_
 refine sy_seq ?_
 refine sy_tx' [0, 1, 2] rfl ?_
 refine sp rfl (PE.move rfl) rfl ?_
 refine sp rfl (PE.lenSl isl23 rfl) rfl ?_
 refine sp rfl (PE.move rfl) rfl ?_
 refine sy_block ?_
 refine sy_loop (ι := {d : Nat // d ≤ pl.length}) (fun y => ⟨[(2, .pointer (some ⟨b2, 0, none⟩)), (9, .slice ap pl.length cp), (10, .int .i64 pl.length), (11, .int .i64 y.1)], (b2, cel 27 (btl b (b.sl ab cb))) :: H, R⟩) (fun y => pl.length - y.1) ⟨0, Nat.zero_le _⟩ ?_ (fun y => ?_)
 exact sy_at (by repeat' first | exact Sub.nil | apply Sub.cons | rfl | (simp [lk]; omega)) (fun _ h => h)
 obtain ⟨d, hd⟩ := y
 dsimp only at hd ⊢
 refine sy_seq ?_
 refine sy_tx' [0] rfl ?_
 refine sp rfl (PE.lss rfl rfl) rfl ?_
 refine sy_seq ?_
 refine sy_cond rfl (fun hc0 => ?_) (fun hc0 => ?_)
 try simp only [decide_eq_true_eq, decide_eq_false_iff_not, Bool.and_eq_true, Bool.or_eq_true, Bool.not_eq_true', Int.not_le, Int.not_lt] at hc0
 obtain ⟨x, hx⟩ : ∃ x, pl[d]? = some x := ⟨_, List.getElem?_eq_getElem (by omega)⟩
 have hxm := List.mem_of_getElem? hx
 have hxl := hpi x hxm
 obtain ⟨l, hle, hlt⟩ := hmk x hxm
 obtain ⟨hr1, hr2, hr3⟩ := right_day hlt
 rw [← hle] at hr1 hr2 hr3
 refine sy_addr (a := ap) (sz := 1) (rows := plrows pl) (by intro h0; have := congrArg List.length h0; rw [plrows_len] at this; simp only [List.length_nil] at this; omega) (fun bp op he => ?_)
 subst he
 refine Sy.heap (fun w h => St.inn (x := x) h hxm) ?_
 refine sy_skip ?_
 refine sy_seq ?_
 refine sy_block ?_
 refine sy_seq ?_
 refine sy_tx' [0, 1, 2] rfl ?_
 refine sp rfl (PE.indexAddr el23 rfl rfl (by omega) (by omega)) rfl ?_
 refine spL rfl rfl (lf0 sc22 (pl_get hx) rfl) rfl ?_
 refine sp rfl (PE.assign rfl) rfl ?_
 refine sy_seq ?_
 refine sy_seq ?_
 refine sy_tx' [0, 1, 2] rfl ?_
 refine sp rfl (PE.move rfl) rfl ?_
 refine sp rfl (PE.lenSl isl22 rfl) rfl ?_
 refine sp rfl (PE.move rfl) rfl ?_
 refine sy_block ?_
 refine sy_loop (ι := {k : Nat // k ≤ x.l.length}) (fun y => ⟨[(2, .pointer (some ⟨b2, 0, none⟩)), (9, .slice (some ⟨bp, op, none⟩) pl.length cp), (10, .int .i64 pl.length), (11, .int .i64 d), (6, .slice x.a x.l.length x.c), (15, .slice x.a x.l.length x.c), (16, .int .i64 x.l.length), (17, .int .i64 y.1)], (b2, cel 27 (btl b (b.sl ab cb))) :: H, RowsA x.a 1 (irows x.l) :: R⟩) (fun y => x.l.length - y.1) ⟨0, Nat.zero_le _⟩ ?_ (fun y => ?_)
 exact sy_at (by repeat' first | exact Sub.nil | apply Sub.cons | rfl | (simp [lk]; omega)) (fun _ h => h)
 obtain ⟨k, hk⟩ := y
 dsimp only at hk ⊢
 refine sy_seq ?_
 refine sy_tx' [0] rfl ?_
 refine sp rfl (PE.lss rfl rfl) rfl ?_
 refine sy_seq ?_
 refine sy_cond rfl (fun hc1 => ?_) (fun hc1 => ?_)
 try simp only [decide_eq_true_eq, decide_eq_false_iff_not, Bool.and_eq_true, Bool.or_eq_true, Bool.not_eq_true', Int.not_le, Int.not_lt] at hc1
 obtain ⟨v, hv⟩ : ∃ v, x.l[k]? = some v := ⟨_, List.getElem?_eq_getElem (by omega)⟩
 have hv1 := hr1 k v hv
 refine sy_addr (a := x.a) (sz := 1) (rows := irows x.l) (by intro h0; have := congrArg List.length h0; rw [irows_len] at this; simp only [List.length_nil] at this; omega) (fun bx ox he => ?_)
 rw [he]
 refine sy_skip ?_
 refine sy_seq ?_
 refine sy_block ?_
 refine sy_seq ?_
 refine sy_tx' [0, 1, 2, 3, 4] rfl ?_
 refine sp rfl (PE.move rfl) rfl ?_
 refine sp rfl (PE.indexAddr el22 rfl rfl (by omega) (by omega)) rfl ?_
 refine spL rfl rfl (lf0 sc3 (ir_get hv) rfl) rfl ?_
 refine sp rfl (PE.assign rfl) rfl ?_
 refine sp rfl (PE.assign rfl) rfl ?_
 refine sy_seq ?_
 refine sy_tx' [0, 1, 2, 3, 4, 5, 6, 7, 8, 9, 10, 11, 12, 13, 14, 15, 16, 17, 18, 19, 20, 21] rfl ?_
 refine sp rfl (PE.move rfl) rfl ?_
 refine sp rfl (PE.lss rfl rfl) rfl ?_
 refine sp rfl (PE.move rfl) rfl ?_
 refine sy_case (t := 24) rfl (fun g24 => ?_) (fun g24 => ?_)
 simp only [decide_eq_true_eq] at g24; omega
 refine spG rfl rfl rfl rfl (PE.move rfl) rfl ?_
 refine spG rfl rfl rfl rfl (PE.fieldAddr fo27_3 rfl) rfl ?_
 refine spLG rfl rfl rfl rfl rfl (lh sc25 rfl rfl) rfl ?_
 refine spG rfl rfl rfl rfl (PE.lenSl isl25 rfl) rfl ?_
 refine spG rfl rfl rfl rfl (PE.geq rfl rfl) rfl ?_
 refine sp rfl (PE.pick rfl rfl rfl) rfl ?_
 refine sp rfl (PE.move rfl) rfl ?_
 refine sy_case (t := 31) rfl (fun g31 => ?_) (fun g31 => ?_)
 simp only [decide_eq_true_eq] at g31; omega
 refine spG rfl rfl rfl rfl (PE.move rfl) rfl ?_
 refine spG rfl rfl rfl rfl (PE.gtr rfl rfl) rfl ?_
 refine spG rfl rfl rfl rfl (PE.move rfl) rfl ?_
 refine sy_case (t := 34) rfl (fun g34 => ?_) (fun g34 => ?_)
 obtain ⟨u, hu⟩ : ∃ u, x.l[k - 1]? = some u := ⟨_, List.getElem?_eq_getElem (by omega)⟩
 have hk0 := of_decide_eq_true g34
 have huv := hr2 (k - 1) k u v (by omega) hu hv
 refine spG rfl rfl rfl rfl (PE.move rfl) rfl ?_
 refine spG rfl rfl rfl rfl (PE.move rfl) rfl ?_
 refine spG rfl rfl rfl rfl (PE.move rfl) rfl ?_
 refine spG rfl rfl rfl rfl (PE.sub rfl rfl (by omega)) rfl ?_
 refine spG rfl rfl rfl rfl (PE.indexAddr el22 rfl rfl (by omega) (by omega)) rfl ?_
 refine spLG rfl rfl rfl rfl rfl (lf0 (row := [.int .i64 u]) sc3 (by rw [show ((k : Int) - 1).toNat = k - 1 by omega]; exact ir_get hu) rfl) rfl ?_
 refine spG rfl rfl rfl rfl (PE.leq rfl rfl) rfl ?_
 refine spG rfl rfl rfl rfl (PE.pick rfl rfl rfl) rfl ?_
 refine sp rfl (PE.pick rfl rfl rfl) rfl ?_
 refine sy_cond rfl (fun hc2 => ?_) (fun hc2 => ?_)
 simp only [decide_eq_true_eq] at hc2; omega
 refine sy_skip ?_
 refine sy_tx' [0, 1] rfl ?_
 refine sp rfl (PE.add rfl rfl (by omega)) rfl ?_
 refine sp rfl (PE.move rfl) rfl ?_
 exact sy_next ⟨k + 1, by omega⟩ (by dsimp only; omega) (by repeat' first | exact Sub.nil | apply Sub.cons | rfl | (simp [lk]; omega)) (fun _ h => h)
 repeat refine spN rfl rfl rfl rfl rfl rfl rfl rfl ?_
 refine spG rfl rfl rfl rfl (PE.pick rfl rfl rfl) rfl ?_
 refine sp rfl (PE.pick rfl rfl rfl) rfl ?_
 refine sy_condF rfl ?_
 refine sy_skip ?_
 refine sy_tx' [0, 1] rfl ?_
 refine sp rfl (PE.add rfl rfl (by omega)) rfl ?_
 refine sp rfl (PE.move rfl) rfl ?_
 exact sy_next ⟨k + 1, by omega⟩ (by dsimp only; omega) (by repeat' first | exact Sub.nil | apply Sub.cons | rfl | (simp [lk]; omega)) (fun _ h => h)
 refine sy_exit ?_
 repeat refine sy_tx ?_
 refine sy_bx ?_
 refine sy_seq ?_
 refine sy_tx' [0, 1, 2, 3, 4] rfl ?_
 refine sp rfl (PE.move rfl) rfl ?_
 refine sp rfl (PE.lenSl isl22 rfl) rfl ?_
 refine sp rfl (PE.fieldAddr fo27_1 rfl) rfl ?_
 refine spL rfl rfl (lh sc3 rfl rfl) rfl ?_
 refine sp rfl (PE.gtr rfl rfl) rfl ?_
 refine sy_cond rfl (fun hc3 => ?_) (fun hc3 => ?_)
 simp only [decide_eq_true_eq] at hc3; omega
 refine sy_skip ?_
 refine sy_tx' [0, 1] rfl ?_
 refine sp rfl (PE.add rfl rfl (by omega)) rfl ?_
 refine sp rfl (PE.move rfl) rfl ?_
 exact sy_next ⟨d + 1, by omega⟩ (by dsimp only; omega) (by repeat' first | exact Sub.nil | apply Sub.cons | rfl | (simp [lk]; omega)) (fun w h => h.ftail)
 refine sy_exit ?_
 repeat refine sy_tx ?_
 refine sy_bx ?_
 refine sy_seq ?_
 refine sy_tx' [0] rfl ?_
 refine sp rfl (PE.assign rfl) rfl ?_
 refine sy_ret ?_
 exact sy_return (vs := [_]) rfl (.cons (RV.tmp rfl) .nil) rfl ⟨rfl, rfl, rfl⟩ (fun w h => h.del b2)
set_option maxHeartbeats 2000000 in
theorem c_HeatKept (l1 : List Int) (a1 : Option Addr) (c1 : Nat) (hl1 : l1.length ≤ 9223372036854775807) (l2 : List Int) (a2 : Option Addr) (c2 : Nat) (hl2 : l2.length ≤ 9223372036854775807) (H : Heap) (R : Facts) [hG1 : MemRows a1 1 (urows l1) R] [hG2 : MemRows a2 1 (urows l2) R] :
    Fn Tryz.prog 4 [.slice a1 l1.length c1, .slice a2 l2.length c2] H R (fun v H' R' => v = .bool true ∧ H' = H ∧ R' = R) := by
 refine fn_of Tryz.func4 rfl Tryz.ntmps4 rfl ?_
 refine sy_seq ?_
 refine sy_tx' [0] rfl ?_
 refine sp rfl (PE.assign rfl) rfl ?_
 refine sy_seq ?_
 refine sy_tx' [0, 1, 2, 3, 4, 5, 6, 7] rfl ?_
 refine sp rfl (PE.move rfl) rfl ?_
 refine cl rfl cal14 rfl rfl (c_Fill l1 a1 c1 hl1 _ _) ?_
 rintro _ _ R1 ⟨bs, ms, hms, rfl, rfl, hR1⟩
 obtain rfl := hR1.symm
 clear hR1
 refine cl rfl cal13 rfl rfl (c_Made l1 a1 c1 bs hl1 0 ms (by omega) hms 3 2 (by omega) (by omega) _ _) ?_
 rintro _ _ R1 ⟨b, ab, cb, tqb, mxb, hmd, rfl, htqb, hmxb, rfl, hR1⟩
 obtain rfl := hR1.symm
 clear hR1
 have hok := hmd.ok
 have hck := hmd.check
 have hr := hok.len
 have hmn := hok.many
 have hnb := hmd.nb
 have hgn := hok.gangs
 have hng := hmd.ng
 have hl : b.bins.length ≤ 9223372036854775807 := by omega
 refine sp rfl (PE.move rfl) rfl ?_
 refine cl rfl cal14 rfl rfl (c_Fill l2 a2 c2 hl2 _ _) ?_
 rintro _ _ R1 ⟨bt, mt, hmt, rfl, rfl, hR1⟩
 obtain rfl := hR1.symm
 clear hR1
 refine alc rfl zl27 rfl (fun b5 => ?_)
 refine stoE (l' := btl b (b.sl ab cb)) rfl rfl rfl cn27 rfl rfl rfl rfl (Nat.le_of_ble_eq_true rfl) ?_
 refine sp rfl (PE.assign rfl) rfl ?_
 refine sy_seq ?_
 refine sy_tx' [0, 1, 2, 3, 4, 5, 6] rfl ?_
 obtain ⟨x0, hx⟩ : ∃ x, b.bins[0]? = some x := ⟨_, List.getElem?_eq_getElem (by omega)⟩
 refine sy_addr (a := ab) (sz := 4) (rows := brows b.bins) (by intro h0; simp [brows] at h0; simp [h0] at hx) (fun ba oa he => ?_)
 subst he
 clear hx
 refine spL rfl rfl (lhA (btl b (b.sl (some ⟨ba, oa, none⟩) cb)) ag27 rfl rfl rfl) rfl ?_
 refine cl rfl cal15 rfl rfl (c_LongestX b (some ⟨ba, oa, none⟩) cb hl hr hck _ _) ?_
 rintro _ _ _ ⟨⟨m, hm, rfl⟩, rfl, rfl⟩
 have hmr := kpt_nn hm
 refine sp rfl (PE.move rfl) rfl ?_
 refine sp rfl (PE.extract rfl rfl) rfl ?_
 refine sp rfl (PE.extract rfl rfl) rfl ?_
 refine sp rfl (PE.assign rfl) rfl ?_
 refine sp rfl (PE.assign rfl) rfl ?_
 refine sy_seq ?_
 refine sy_tx' [0, 1, 2, 3, 4, 5, 6] rfl ?_
 refine spL rfl rfl (lhA (btl b (b.sl (some ⟨ba, oa, none⟩) cb)) ag27 rfl rfl rfl) rfl ?_
 refine clV rfl cal16 rfl rfl (c_FirstK b (some ⟨ba, oa, none⟩) cb hl hr hck hm _ _) ?_
 refine sp rfl (PE.move rfl) rfl ?_
 refine sp rfl (PE.extract rfl rfl) rfl ?_
 refine sp rfl (PE.extract rfl rfl) rfl ?_
 refine sp rfl (PE.assign rfl) rfl ?_
 refine sp rfl (PE.assign rfl) rfl ?_
 refine sy_seq ?_
 refine sy_seq ?_
 refine sy_tx' [0, 1, 2, 3, 4, 5, 6, 7, 8, 9, 10] rfl ?_
 refine spL rfl rfl (lhA (btl b (b.sl (some ⟨ba, oa, none⟩) cb)) ag27 rfl rfl rfl) rfl ?_
 refine clV rfl cal11 rfl rfl (c_Check b (some ⟨ba, oa, none⟩) cb hl hr _ _) ?_
 rw [hck]
 refine sp rfl (PE.neq rfl rfl) rfl ?_
 refine sp rfl (PE.move rfl) rfl ?_
 refine sy_case (t := 48) rfl (fun g48 => ?_) (fun g48 => ?_)
 exact absurd g48 (by simp)
 refine spG rfl rfl rfl rfl (PE.move rfl) rfl ?_
 refine spG rfl rfl rfl rfl (PE.neq rfl rfl) rfl ?_
 refine sp rfl (PE.pick rfl rfl rfl) rfl ?_
 refine sp rfl (PE.move rfl) rfl ?_
 refine sy_case (t := 52) rfl (fun g52 => ?_) (fun g52 => ?_)
 exact absurd g52 (by simp)
 refine spG rfl rfl rfl rfl (PE.move rfl) rfl ?_
 refine spG rfl rfl rfl rfl (PE.lss rfl rfl) rfl ?_
 refine sp rfl (PE.pick rfl rfl rfl) rfl ?_
 refine sy_cond rfl (fun hc0 => ?_) (fun hc0 => ?_)
 simp only [decide_eq_true_eq] at hc0; omega
 refine sy_skip ?_
 refine sy_seq ?_
 refine sy_tx' [0, 1, 2, 3] rfl ?_
 refine spL rfl rfl (lhA (btl b (b.sl (some ⟨ba, oa, none⟩) cb)) ag27 rfl rfl rfl) rfl ?_
 refine sp rfl (PE.move rfl) rfl ?_
 refine sy_pull bt ?_
 refine cl rfl cal17 rfl rfl (c_classesQ l2 a2 c2 bt hl2 _ _ (by omega) (by assumption) b (some ⟨ba, oa, none⟩) cb hok _ _) ?_
 rintro _ _ R1 ⟨qc, ac, cc, tqc, mxc, hcls, rfl, htqc, hmxc, rfl, hR1⟩
 obtain rfl := hR1.symm
 clear hR1
 refine sp rfl (PE.assign rfl) rfl ?_
 refine sy_seq ?_
 refine sy_seq ?_
 refine sy_tx' [0, 1] rfl ?_
 refine sp rfl (PE.move rfl) rfl ?_
 refine sp rfl (PE.eql rfl rfl) rfl ?_
 refine sy_cond rfl (fun hc1 => ?_) (fun hc1 => ?_)
 try simp only [decide_eq_true_eq, decide_eq_false_iff_not, Bool.and_eq_true, Bool.or_eq_true, Bool.not_eq_true', Int.not_le, Int.not_lt] at hc1
 obtain rfl : m = 1000000 := hc1
 have hw : WWant b 6 1000000 := ⟨.inr ⟨hck, hm, .inl ⟨rfl, rfl⟩⟩⟩
 refine sy_seq ?_
 refine sy_tx' [0, 1, 2, 3, 4, 5, 6, 7, 8] rfl ?_
 refine spL rfl rfl (lhA (btl b (b.sl (some ⟨ba, oa, none⟩) cb)) ag27 rfl rfl rfl) rfl ?_
 refine cl rfl cal9 rfl rfl (c_RoundX b (some ⟨ba, oa, none⟩) cb hl hr hck hm _ _) ?_
 rintro _ _ R1 ⟨p, q, pl, ql, ap, aq, cp, cq, hrn, hlp, hlq, rfl, rfl, hR1⟩
 obtain rfl := hR1.symm
 clear hR1
 have hlaw := hrn.law hok hlp hlq
 have hln := hlaw.len
 have hne := hlaw.ne
 have hmp : Mkb b pl := Mkb.of hlp (fun l hl => b.dsk.trs_sub (hrn.hp l hl))
 have hmq : Mkb b ql := Mkb.of hlq (fun l hl => b.dsk.trs_sub (hrn.hq l hl))
 have hpi : ∀ x ∈ pl, x.l.length ≤ 9223372036854775807 := fun x hx => by have := hmp.four hok x hx; omega
 have hqi : ∀ x ∈ ql, x.l.length ≤ 9223372036854775807 := fun x hx => by have := hmq.four hok x hx; omega
 have hpo : b.planned (lls pl) = 0 := by rw [hlp]; exact planned_of hck (by have := hrn.len; omega) (fun l hl => b.dsk.trs_sub (hrn.hp l hl))
 refine sp rfl (PE.move rfl) rfl ?_
 refine sp rfl (PE.extract rfl rfl) rfl ?_
 refine sp rfl (PE.extract rfl rfl) rfl ?_
 refine sp rfl (PE.extract rfl rfl) rfl ?_
 refine sp rfl (PE.assign rfl) rfl ?_
 refine sp rfl (PE.assign rfl) rfl ?_
 refine sp rfl (PE.assign rfl) rfl ?_
 refine sy_seq ?_
 refine sy_tx' [0, 1, 2, 3, 4, 5, 6, 7, 8] rfl ?_
 refine spL rfl rfl (lhA (btl b (b.sl (some ⟨ba, oa, none⟩) cb)) ag27 rfl rfl rfl) rfl ?_
 refine sp rfl (PE.move rfl) rfl ?_
 refine sp rfl (PE.move rfl) rfl ?_
 refine clV rfl cal18 rfl rfl ((c_Goes b (some ⟨ba, oa, none⟩) cb hl hr pl ap cp (by omega) hpi ql aq cq (by omega) hqi _ _).toV (fun v hq => goesV hpo hlaw.q (by rw [lls_len]; exact hne) hlaw.goes hq)) ?_
 refine sp rfl (PE.move rfl) rfl ?_
 refine sp rfl (PE.extract rfl rfl) rfl ?_
 refine sp rfl (PE.extract rfl rfl) rfl ?_
 refine sp rfl (PE.assign rfl) rfl ?_
 refine sp rfl (PE.assign rfl) rfl ?_
 refine sy_seq ?_
 refine sy_tx' [0, 1, 2, 3, 4, 5, 6] rfl ?_
 refine spL rfl rfl (lhA (btl b (b.sl (some ⟨ba, oa, none⟩) cb)) ag27 rfl rfl rfl) rfl ?_
 refine cl rfl cal6 rfl rfl (c_WallX b (some ⟨ba, oa, none⟩) cb hl hr hw _ _) ?_
 rintro _ _ R1 ⟨L, al, cz, hL1, _, rfl, rfl, hR1⟩
 obtain rfl := hR1.symm
 clear hR1
 refine sp rfl (PE.move rfl) rfl ?_
 refine sp rfl (PE.extract rfl rfl) rfl ?_
 refine sp rfl (PE.extract rfl rfl) rfl ?_
 refine sp rfl (PE.assign rfl) rfl ?_
 refine sp rfl (PE.assign rfl) rfl ?_
 refine sy_seq ?_
 refine sy_seq ?_
 refine sy_tx' [0, 1, 2, 3, 4, 5, 6, 7, 8, 9, 10, 11, 12, 13, 14, 15, 16, 17, 18, 19, 20, 21, 22, 23, 24, 25, 26, 27, 28, 29, 30, 31, 32, 33, 34, 35, 36, 37, 38, 39, 40, 41, 42] rfl ?_
 refine sp rfl (PE.move rfl) rfl ?_
 refine sp rfl (PE.neq rfl rfl) rfl ?_
 refine sp rfl (PE.move rfl) rfl ?_
 refine sy_case (t := 81) rfl (fun g81 => ?_) (fun g81 => ?_)
 exact absurd g81 (by simp)
 refine spG rfl rfl rfl rfl (PE.move rfl) rfl ?_
 refine spG rfl rfl rfl rfl (PE.neq rfl rfl) rfl ?_
 refine sp rfl (PE.pick rfl rfl rfl) rfl ?_
 refine sp rfl (PE.move rfl) rfl ?_
 refine sy_case (t := 85) rfl (fun g85 => ?_) (fun g85 => ?_)
 exact absurd g85 (by simp)
 refine spG rfl rfl rfl rfl (PE.move rfl) rfl ?_
 refine spG rfl rfl rfl rfl (PE.neq rfl rfl) rfl ?_
 refine sp rfl (PE.pick rfl rfl rfl) rfl ?_
 refine sp rfl (PE.move rfl) rfl ?_
 refine sy_case (t := 89) rfl (fun g89 => ?_) (fun g89 => ?_)
 exact absurd g89 (by simp)
 refine spG rfl rfl rfl rfl (PE.move rfl) rfl ?_
 refine spG rfl rfl rfl rfl (PE.neq rfl rfl) rfl ?_
 refine sp rfl (PE.pick rfl rfl rfl) rfl ?_
 refine sp rfl (PE.move rfl) rfl ?_
 refine sy_case (t := 93) rfl (fun g93 => ?_) (fun g93 => ?_)
 exact absurd g93 (by simp)
 refine spG rfl rfl rfl rfl (PE.move rfl) rfl ?_
 refine spG rfl rfl rfl rfl (PE.not rfl) rfl ?_
 refine sp rfl (PE.pick rfl rfl rfl) rfl ?_
 refine sp rfl (PE.move rfl) rfl ?_
 refine sy_case (t := 97) rfl (fun g97 => ?_) (fun g97 => ?_)
 exact absurd g97 (by simp)
 refine spG rfl rfl rfl rfl (PE.move rfl) rfl ?_
 refine spG rfl rfl rfl rfl (PE.lenSl isl23 rfl) rfl ?_
 refine spG rfl rfl rfl rfl (PE.eql rfl rfl) rfl ?_
 refine sp rfl (PE.pick rfl rfl rfl) rfl ?_
 refine sp rfl (PE.move rfl) rfl ?_
 refine sy_case (t := 102) rfl (fun g102 => ?_) (fun g102 => ?_)
 simp only [decide_eq_true_eq] at g102; omega
 refine spG rfl rfl rfl rfl (PE.move rfl) rfl ?_
 refine spG rfl rfl rfl rfl (PE.lenSl isl23 rfl) rfl ?_
 refine spG rfl rfl rfl rfl (PE.move rfl) rfl ?_
 refine spG rfl rfl rfl rfl (PE.lenSl isl23 rfl) rfl ?_
 refine spG rfl rfl rfl rfl (PE.add rfl rfl (by omega)) rfl ?_
 refine spG rfl rfl rfl rfl (PE.gtr rfl rfl) rfl ?_
 refine sp rfl (PE.pick rfl rfl rfl) rfl ?_
 refine sp rfl (PE.move rfl) rfl ?_
 refine sy_case (t := 110) rfl (fun g110 => ?_) (fun g110 => ?_)
 simp only [decide_eq_true_eq] at g110; omega
 refine spLG rfl rfl rfl rfl rfl (lhA (btl b (b.sl (some ⟨ba, oa, none⟩) cb)) ag27 rfl rfl rfl) rfl ?_
 refine spG rfl rfl rfl rfl (PE.move rfl) rfl ?_
 refine clVG rfl rfl rfl rfl cal19 rfl rfl (c_lright b (some ⟨ba, oa, none⟩) cb hok pl ap cp (by omega) hpi hmp _ _) ?_
 refine spG rfl rfl rfl rfl (PE.not rfl) rfl ?_
 refine sp rfl (PE.pick rfl rfl rfl) rfl ?_
 refine sp rfl (PE.move rfl) rfl ?_
 refine sy_case (t := 116) rfl (fun g116 => ?_) (fun g116 => ?_)
 exact absurd g116 (by simp)
 refine spLG rfl rfl rfl rfl rfl (lhA (btl b (b.sl (some ⟨ba, oa, none⟩) cb)) ag27 rfl rfl rfl) rfl ?_
 refine spG rfl rfl rfl rfl (PE.move rfl) rfl ?_
 refine clVG rfl rfl rfl rfl cal19 rfl rfl (c_lright b (some ⟨ba, oa, none⟩) cb hok ql aq cq (by omega) hqi hmq _ _) ?_
 refine spG rfl rfl rfl rfl (PE.not rfl) rfl ?_
 refine sp rfl (PE.pick rfl rfl rfl) rfl ?_
 refine sy_cond rfl (fun hc2 => ?_) (fun hc2 => ?_)
 exact absurd hc2 (by simp)
 refine sy_skip ?_
 refine sy_seq ?_
 refine sy_tx' [0, 1, 2, 3, 4] rfl ?_
 refine sp rfl (PE.move rfl) rfl ?_
 refine cl rfl cal20 rfl rfl (c_DupRowsO pl ap cp (by omega) (fun x hx => by have := hmp.four hok x hx; omega) _ _) ?_
 rintro _ _ R1 ⟨q1, oq, hq1, rfl, rfl, hR1⟩
 obtain rfl := hR1.symm
 clear hR1
 have hq1l : q1.length = pl.length := by have := congrArg List.length hq1; rwa [lls_len, lls_len] at this
 refine sp rfl (PE.move rfl) rfl ?_
 refine apO oq rfl ap23 rfl rfl (rowsF (a := aq) (sz := 1) (rows := plrows ql)) (plrows_len ql) (pl_onec ql) (by rw [plrows_len, plrows_len]; omega) rfl (fun o125' => ?_)
 obtain ⟨o125, e125, g125⟩ : ∃ o125 : OSl 22 1 (plrows (q1 ++ ql)), o125.fs = o125'.fs ∧ o125.G = o125'.G := ⟨o125'.cast (plrows_app q1 ql).symm, rfl, rfl⟩
 rw [← e125]
 refine Sy.heap (fun w h => by rw [← g125] at h; exact h) ?_
 clear e125 g125
 refine Sy.heap (fun w h => St.innApp (l := q1) (k := ql) h) ?_
 refine sp rfl (PE.assign rfl) rfl ?_
 refine sy_seq ?_
 refine sy_seq ?_
 refine sy_tx' [0] rfl ?_
 refine sp rfl (PE.move rfl) rfl ?_
 refine sy_block ?_
 refine sy_loop (ι := (y : {y : Nat × List PL // y.1 ≤ 4 ∧ y.2 = q1 ++ repP (y.1 + 1) ql}) × OSl 22 1 (plrows y.1.2)) (fun y => ⟨[(5, .pointer (some ⟨b5, 0, none⟩)), (11, .slice ac qc.length cc), (13, .slice aq ql.length cq), (19, y.2.fs), (126, .int .i64 y.1.1.1)], y.2.G ++ (bt, cel 125 [.slice a2 l2.length c2, .int .i64 (tqc), .int .u32 (mxc)]) :: (b5, cel 27 (btl b (b.sl (some ⟨ba, oa, none⟩) cb))) :: (bs, cel 125 [.slice a1 l1.length c1, .int .i64 (tqb), .int .u32 (mxb)]) :: H, Inn y.1.1.2 :: RowsA aq 1 (plrows ql) :: Inn ql :: RowsA ac 1 (irows qc) :: RowsA (some ⟨ba, oa, none⟩) 4 (brows b.bins) :: R⟩) (fun y => 4 - y.1.1.1) ⟨⟨(0, q1 ++ ql), by dsimp only; omega, by simp [repP]⟩, o125⟩ ?_ (fun y => ?_)
 exact sy_at (by repeat' first | exact Sub.nil | apply Sub.cons | rfl | (simp [lk]; omega)) (fun w h => h.facts (fun g hg => by simp only [List.mem_cons] at hg ⊢; rcases hg with hg | hg | hg | hg | hg | hg <;> simp [hg]))
 obtain ⟨⟨⟨i, Q⟩, hi, hQ⟩, o⟩ := y
 dsimp only at hi hQ o ⊢
 have hQl : Q.length = q1.length + (i + 1) * ql.length := by rw [hQ, List.length_append, repP_len]
 have hQm : (i + 1) * ql.length ≤ 5 * ql.length := Nat.mul_le_mul_right _ (by omega)
 have hQi : ∀ x ∈ Q, x.l.length ≤ 9223372036854775807 := fun x hx => by
   rw [hQ] at hx
   rcases List.mem_append.1 hx with hx | hx
   · have h1 : x.l ∈ lls pl := hq1 ▸ List.mem_map.2 ⟨x, hx, rfl⟩
     obtain ⟨y, hy, e⟩ := List.mem_map.1 h1
     rw [← e]; exact hpi y hy
   · exact hqi x (repP_mem hx)
 refine sy_seq ?_
 refine sy_tx' [0] rfl ?_
 refine sp rfl (PE.lss rfl rfl) rfl ?_
 refine sy_seq ?_
 refine sy_cond rfl (fun hc3 => ?_) (fun hc3 => ?_)
 try simp only [decide_eq_true_eq, decide_eq_false_iff_not, Bool.and_eq_true, Bool.or_eq_true, Bool.not_eq_true', Int.not_le, Int.not_lt] at hc3
 refine sy_skip ?_
 refine sy_seq ?_
 refine sy_block ?_
 refine sy_tx' [0, 1, 2, 3] rfl ?_
 refine sp rfl (PE.move rfl) rfl ?_
 refine sp rfl (PE.move rfl) rfl ?_
 refine apO o rfl ap23 rfl rfl (rowsF (a := aq) (sz := 1) (rows := plrows ql)) (plrows_len ql) (pl_onec ql) (by rw [plrows_len, plrows_len]; omega) rfl (fun o130' => ?_)
 obtain ⟨o130, e130, g130⟩ : ∃ o130 : OSl 22 1 (plrows (Q ++ ql)), o130.fs = o130'.fs ∧ o130.G = o130'.G := ⟨o130'.cast (plrows_app Q ql).symm, rfl, rfl⟩
 rw [← e130]
 refine Sy.heap (fun w h => by rw [← g130] at h; exact h) ?_
 clear e130 g130
 refine Sy.heap (fun w h => St.innApp (l := Q) (k := ql) h) ?_
 refine sp rfl (PE.assign rfl) rfl ?_
 refine sy_tx' [0, 1] rfl ?_
 refine sp rfl (PE.add rfl rfl (by omega)) rfl ?_
 refine sp rfl (PE.move rfl) rfl ?_
 exact sy_next ⟨⟨(i + 1, Q ++ ql), by dsimp only; omega, by dsimp only; rw [hQ, repP_succ (i + 1), List.append_assoc]⟩, o130⟩ (by dsimp only; omega) (by repeat' first | exact Sub.nil | apply Sub.cons | rfl | (simp [lk]; omega)) (fun w h => h.facts (fun g hg => by simp only [List.mem_cons] at hg ⊢; rcases hg with hg | hg | hg | hg | hg | hg <;> simp [hg]))
 try simp only [decide_eq_true_eq, decide_eq_false_iff_not, Bool.and_eq_true, Bool.or_eq_true, Bool.not_eq_true', Int.not_le, Int.not_lt] at hc3
 obtain rfl : i = 4 := by omega
 have hgo : (b.burnsF b.warms (lls Q) 0).1 = none := by rw [hQ, lls_app, lls_rep, hq1]; exact hlaw.goes 5
 refine sy_exit ?_
 repeat refine sy_tx ?_
 refine sy_bx ?_
 refine sy_seq ?_
 refine sy_draw [0, 0, 0, 7, 15, 31, 63, 63, 63, 319, 1023, 2047, 4095, 8191, 16383, 32767, 65535] (.ld 0 (.tk 1 (.tk 2 (.big 3 (.tk 4 (.tk 5 (.ld 6 (.tk 7 (.ld 8 (.big 9 (.big 10 (.tk 11 (.tk 12 (.tk 13 (.big 14 (.tk 15 (.tk 16 .done))))))))))))))))) mixed (by kernel_rfl) ?_
 refine ld rfl rfl (lhA (btl b (b.sl (some ⟨ba, oa, none⟩) cb)) ag27 rfl rfl rfl) rfl ?_
 refine tk rfl (PE.move rfl) rfl ?_
 refine tk rfl (PE.move rfl) rfl ?_
 refine clV rfl cal21 rfl rfl (FnV.lendO o (fun v => [b.v (b.sl (some ⟨ba, oa, none⟩) cb), v, .slice ac qc.length cc]) (fun a5 c5 B9 => by rw [plrows_len]; exact c_lburns b (some ⟨ba, oa, none⟩) cb hok Q a5 c5 (by omega) hQi qc ac cc hcls _ _)) ?_
 refine bg (fun w hs => ⟨trivial, trivial⟩) ?_
 rw [cold_none hok hcls hgo]
 refine tk rfl (PE.lss rfl rfl) rfl ?_
 refine tk rfl (PE.move rfl) rfl ?_
 refine sy_case (t := 137) rfl (fun g137 => ?_) (fun g137 => ?_)
 refine ldG rfl rfl rfl rfl rfl (lhA (btl b (b.sl (some ⟨ba, oa, none⟩) cb)) ag27 rfl rfl rfl) rfl ?_
 refine tkG rfl rfl rfl rfl (PE.move rfl) rfl ?_
 refine ldG rfl rfl rfl rfl rfl (lhA (btl b (b.sl (some ⟨ba, oa, none⟩) cb)) ag27 rfl rfl rfl) rfl ?_
 refine clG rfl rfl rfl rfl cal17 rfl rfl (c_classesN b (some ⟨ba, oa, none⟩) cb hok _ _) ?_
 rintro _ _ R1 ⟨ac3, cc3, rfl, rfl, hR1⟩
 obtain rfl := hR1.symm
 clear hR1
 rw [← show (hiL b).length = b.bins.length from (hiL_cls hok).len]
 refine bg (fun w hs => ⟨trivial, (lhA (btl b (b.sl (some ⟨ba, oa, none⟩) cb)) ag27 rfl rfl rfl) w hs, trivial⟩) ?_
 refine clVG rfl rfl rfl rfl cal21 rfl rfl (FnV.lendO o (fun v => [b.v (b.sl (some ⟨ba, oa, none⟩) cb), v, .slice ac3 (hiL b).length cc3]) (fun a5 c5 B9 => by rw [plrows_len]; exact c_lburns b (some ⟨ba, oa, none⟩) cb hok Q a5 c5 (by omega) hQi (hiL b) ac3 cc3 (hiL_cls hok) _ _)) ?_
 refine bg (fun w hs => ⟨trivial, trivial⟩) ?_
 rw [cold_none hok (hiL_cls hok) hgo]
 refine tkG rfl rfl rfl rfl (PE.lss rfl rfl) rfl ?_
 refine tk rfl (PE.pick rfl rfl rfl) rfl ?_
 refine tk rfl (PE.move rfl) rfl ?_
 refine sy_case (t := 145) rfl (fun g145 => ?_) (fun g145 => ?_)
 refine clVG rfl rfl rfl rfl cal12 rfl rfl (c_awake _ _) ?_
 refine bg (fun w hs => trivial) ?_
 refine tk rfl (PE.pick rfl rfl rfl) rfl ?_
 refine tk rfl (PE.assign rfl) rfl ?_
 refine sy_ret ?_
 exact sy_return (vs := [_]) rfl (.cons (RV.tmp rfl) .nil) rfl ⟨rfl, rfl, rfl⟩ (fun w h => (St.drop (((h.del bt).del b5).del bs)).facts (fun g hg => by simp [hg]))
 exact absurd g145 (by simp)
 exact absurd g137 (by simp)
 try simp only [decide_eq_true_eq, decide_eq_false_iff_not, Bool.and_eq_true, Bool.or_eq_true, Bool.not_eq_true', Int.not_le, Int.not_lt] at hc1
 have hmf : ¬ m = 1000000 := hc1
 have hw : WWant b 0 m := ⟨.inr ⟨hck, hm, .inr ⟨hmf, rfl⟩⟩⟩
 have hn14 := (b.dsk.nst_le (b.dsk_ok hok)).2
 refine sy_skip ?_
 refine sy_seq ?_
 refine sy_tx' [0, 1, 2, 3, 4, 5, 6] rfl ?_
 refine spL rfl rfl (lhA (btl b (b.sl (some ⟨ba, oa, none⟩) cb)) ag27 rfl rfl rfl) rfl ?_
 refine cl rfl cal6 rfl rfl (c_WallX b (some ⟨ba, oa, none⟩) cb hl hr hw _ _) ?_
 rintro _ _ R1 ⟨L, al, cz, _, hL2, rfl, rfl, hR1⟩
 obtain rfl := hR1.symm
 clear hR1
 obtain ⟨hsv, hLn, _, _⟩ := hL2 rfl
 have hLz := (wlErr_zero (shw_zero (W := wls L) (by rw [hsv])).1).2
 have hLi : ∀ x ∈ L, x.l.length ≤ 1000000 := fun x hx => by have := (stErr_zero (hLz _ (wls_mem hx))).1; dsimp only at this; omega
 refine sp rfl (PE.move rfl) rfl ?_
 refine sp rfl (PE.extract rfl rfl) rfl ?_
 refine sp rfl (PE.extract rfl rfl) rfl ?_
 refine sp rfl (PE.assign rfl) rfl ?_
 refine sp rfl (PE.assign rfl) rfl ?_
 refine sy_seq ?_
 refine sy_tx' [0, 1, 2, 3, 4, 5, 6, 7] rfl ?_
 refine spL rfl rfl (lhA (btl b (b.sl (some ⟨ba, oa, none⟩) cb)) ag27 rfl rfl rfl) rfl ?_
 refine sp rfl (PE.move rfl) rfl ?_
 refine clV rfl cal22 rfl rfl (c_ShowsK b (some ⟨ba, oa, none⟩) cb hl hr hck L al cz (by omega) hLi _ _) ?_
 rw [hsv]
 refine sp rfl (PE.move rfl) rfl ?_
 refine sp rfl (PE.extract rfl rfl) rfl ?_
 refine sp rfl (PE.extract rfl rfl) rfl ?_
 refine sp rfl (PE.assign rfl) rfl ?_
 refine sp rfl (PE.assign rfl) rfl ?_
 refine sy_seq ?_
 refine sy_tx' [0, 1, 2, 3, 4, 5, 6, 7, 8] rfl ?_
 refine spL rfl rfl (lhA (btl b (b.sl (some ⟨ba, oa, none⟩) cb)) ag27 rfl rfl rfl) rfl ?_
 refine clV rfl cal9 rfl rfl (c_RoundN b (some ⟨ba, oa, none⟩) cb hl hr hck hm hmf _ _) ?_
 refine sp rfl (PE.move rfl) rfl ?_
 refine sp rfl (PE.extract rfl rfl) rfl ?_
 refine sp rfl (PE.extract rfl rfl) rfl ?_
 refine sp rfl (PE.extract rfl rfl) rfl ?_
 refine sp rfl (PE.assign rfl) rfl ?_
 refine sp rfl (PE.assign rfl) rfl ?_
 refine sp rfl (PE.assign rfl) rfl ?_
 refine sy_seq ?_
 refine sy_seq ?_
 refine sy_tx' [0, 1, 2, 3, 4, 5, 6, 7, 8, 9, 10, 11, 12, 13, 14, 15, 16, 17, 18, 19, 20, 21, 22, 23] rfl ?_
 refine sp rfl (PE.move rfl) rfl ?_
 refine sp rfl (PE.neq rfl rfl) rfl ?_
 refine sp rfl (PE.move rfl) rfl ?_
 refine sy_case (t := 167) rfl (fun g167 => ?_) (fun g167 => ?_)
 exact absurd g167 (by simp [hmf])
 refine spG rfl rfl rfl rfl (PE.move rfl) rfl ?_
 refine spG rfl rfl rfl rfl (PE.move rfl) rfl ?_
 refine spG rfl rfl rfl rfl (PE.neq rfl rfl) rfl ?_
 refine sp rfl (PE.pick rfl rfl rfl) rfl ?_
 refine sp rfl (PE.move rfl) rfl ?_
 refine sy_case (t := 172) rfl (fun g172 => ?_) (fun g172 => ?_)
 exact absurd g172 (by simp [hmf])
 refine spG rfl rfl rfl rfl (PE.move rfl) rfl ?_
 refine spG rfl rfl rfl rfl (PE.neq rfl rfl) rfl ?_
 refine sp rfl (PE.pick rfl rfl rfl) rfl ?_
 refine sp rfl (PE.move rfl) rfl ?_
 refine sy_case (t := 176) rfl (fun g176 => ?_) (fun g176 => ?_)
 exact absurd g176 (by simp)
 refine spG rfl rfl rfl rfl (PE.move rfl) rfl ?_
 refine spG rfl rfl rfl rfl (PE.neq rfl rfl) rfl ?_
 refine sp rfl (PE.pick rfl rfl rfl) rfl ?_
 refine sp rfl (PE.move rfl) rfl ?_
 refine sy_case (t := 180) rfl (fun g180 => ?_) (fun g180 => ?_)
 exact absurd g180 (by simp)
 refine spG rfl rfl rfl rfl (PE.move rfl) rfl ?_
 refine spG rfl rfl rfl rfl (PE.move rfl) rfl ?_
 refine spG rfl rfl rfl rfl (PE.neq rfl rfl) rfl ?_
 refine sp rfl (PE.pick rfl rfl rfl) rfl ?_
 refine sp rfl (PE.move rfl) rfl ?_
 refine sy_case (t := 185) rfl (fun g185 => ?_) (fun g185 => ?_)
 exact absurd g185 (by simp)
 refine spG rfl rfl rfl rfl (PE.move rfl) rfl ?_
 refine spG rfl rfl rfl rfl (PE.neq rfl rfl) rfl ?_
 refine sp rfl (PE.pick rfl rfl rfl) rfl ?_
 refine sy_cond rfl (fun hc4 => ?_) (fun hc4 => ?_)
 exact absurd hc4 (by simp)
 refine sy_skip ?_
 refine sy_seq ?_
 refine sy_tx' [0, 1, 2, 3, 4, 5, 6, 7, 8] rfl ?_
 refine spL rfl rfl (lhA (btl b (b.sl (some ⟨ba, oa, none⟩) cb)) ag27 rfl rfl rfl) rfl ?_
 refine sp rfl (PE.move rfl) rfl ?_
 refine sp rfl (PE.min rfl rfl) rfl ?_
 obtain ⟨n, hn⟩ : ∃ n : Nat, min m 20 = n := ⟨(min m 20).toNat, by omega⟩
 rw [hn]
 refine cl rfl cal8 rfl rfl (c_PlanX b (some ⟨ba, oa, none⟩) cb hl hr hok hck (n := n) (by omega) ((kpt_pth (b.dsk_ok hok) (b.state_inS hok) hm n).2 (.inr (by omega))) _ _) ?_
 rintro _ _ R1 ⟨c3, p3, pl3, ap3, cp3, hpk, hlp3, rfl, rfl, hR1⟩
 obtain rfl := hR1.symm
 clear hR1
 have hpl3 : pl3.length = n := by have := congrArg List.length hlp3; rw [lls_len, List.length_map, hpk.len] at this; exact this
 have hmk3 : Mkb b pl3 := Mkb.of hlp3 hpk.trs
 have hpi3 : ∀ x ∈ pl3, x.l.length ≤ 9223372036854775807 := fun x hx => by have := hmk3.four hok x hx; omega
 have hno3 : (b.burnsF b.warms (lls pl3) 0).1 = none := by rw [hlp3]; exact hpk.none hok
 refine sp rfl (PE.move rfl) rfl ?_
 refine sp rfl (PE.extract rfl rfl) rfl ?_
 refine sp rfl (PE.extract rfl rfl) rfl ?_
 refine sp rfl (PE.assign rfl) rfl ?_
 refine sp rfl (PE.assign rfl) rfl ?_
 refine sy_seq ?_
 refine sy_seq ?_
 refine sy_draw [0, 1, 3, 7, 15, 7, 39, 127, 255, 511, 1023, 1023, 4095, 8191, 16383, 32767, 65535, 65535, 65535, 524287, 1048575, 2097151, 4194303, 8388607, 8388607, 8388607, 41943039, 134217727, 268435455, 536870911] (.tk 0 (.tk 1 (.tk 2 (.tk 3 (.tk 4 (.tk 5 (.tk 6 (.tk 7 (.tk 8 (.tk 9 (.ld 10 (.tk 11 (.big 12 (.tk 13 (.tk 14 (.tk 15 (.ld 16 (.tk 17 (.tk 18 (.big 19 (.tk 20 (.tk 21 (.tk 22 (.ld 23 (.tk 24 (.ld 25 (.big 26 (.big 27 (.tk 28 (.tk 29 .done)))))))))))))))))))))))))))))) mixed (by kernel_rfl) ?_
 refine tk rfl (PE.move rfl) rfl ?_
 refine tk rfl (PE.neq rfl rfl) rfl ?_
 refine tk rfl (PE.move rfl) rfl ?_
 refine sy_case (t := 198) rfl (fun g198 => ?_) (fun g198 => ?_)
 exact absurd g198 (by simp)
 refine tkG rfl rfl rfl rfl (PE.move rfl) rfl ?_
 refine tkG rfl rfl rfl rfl (PE.lenSl isl23 rfl) rfl ?_
 refine tkG rfl rfl rfl rfl (PE.move rfl) rfl ?_
 refine tkG rfl rfl rfl rfl (PE.min rfl rfl) rfl ?_
 refine tkG rfl rfl rfl rfl (PE.neq rfl rfl) rfl ?_
 refine tk rfl (PE.pick rfl rfl rfl) rfl ?_
 refine tk rfl (PE.move rfl) rfl ?_
 refine sy_case (t := 205) rfl (fun g205 => ?_) (fun g205 => ?_)
 simp only [decide_eq_true_eq] at g205; omega
 refine ldG rfl rfl rfl rfl rfl (lhA (btl b (b.sl (some ⟨ba, oa, none⟩) cb)) ag27 rfl rfl rfl) rfl ?_
 refine tkG rfl rfl rfl rfl (PE.move rfl) rfl ?_
 refine clVG rfl rfl rfl rfl cal19 rfl rfl (c_lright b (some ⟨ba, oa, none⟩) cb hok pl3 ap3 cp3 (by omega) hpi3 hmk3 _ _) ?_
 refine bg (fun w hs => ⟨trivial, trivial⟩) ?_
 refine tkG rfl rfl rfl rfl (PE.not rfl) rfl ?_
 refine tk rfl (PE.pick rfl rfl rfl) rfl ?_
 refine tk rfl (PE.move rfl) rfl ?_
 refine sy_case (t := 211) rfl (fun g211 => ?_) (fun g211 => ?_)
 exact absurd g211 (by simp)
 refine ldG rfl rfl rfl rfl rfl (lhA (btl b (b.sl (some ⟨ba, oa, none⟩) cb)) ag27 rfl rfl rfl) rfl ?_
 refine tkG rfl rfl rfl rfl (PE.move rfl) rfl ?_
 refine tkG rfl rfl rfl rfl (PE.move rfl) rfl ?_
 refine clVG rfl rfl rfl rfl cal21 rfl rfl (c_lburns b (some ⟨ba, oa, none⟩) cb hok pl3 ap3 cp3 (by omega) hpi3 qc ac cc hcls _ _) ?_
 refine bg (fun w hs => ⟨trivial, trivial⟩) ?_
 rw [cold_none hok hcls hno3]
 refine tkG rfl rfl rfl rfl (PE.geq rfl rfl) rfl ?_
 refine tk rfl (PE.pick rfl rfl rfl) rfl ?_
 refine tk rfl (PE.move rfl) rfl ?_
 refine sy_case (t := 218) rfl (fun g218 => ?_) (fun g218 => ?_)
 exact absurd g218 (by simp)
 refine ldG rfl rfl rfl rfl rfl (lhA (btl b (b.sl (some ⟨ba, oa, none⟩) cb)) ag27 rfl rfl rfl) rfl ?_
 refine tkG rfl rfl rfl rfl (PE.move rfl) rfl ?_
 refine ldG rfl rfl rfl rfl rfl (lhA (btl b (b.sl (some ⟨ba, oa, none⟩) cb)) ag27 rfl rfl rfl) rfl ?_
 refine clG rfl rfl rfl rfl cal17 rfl rfl (c_classesN b (some ⟨ba, oa, none⟩) cb hok _ _) ?_
 rintro _ _ R1 ⟨ac4, cc4, rfl, rfl, hR1⟩
 obtain rfl := hR1.symm
 clear hR1
 rw [← show (hiL b).length = b.bins.length from (hiL_cls hok).len]
 refine bg (fun w hs => ⟨trivial, (lhA (btl b (b.sl (some ⟨ba, oa, none⟩) cb)) ag27 rfl rfl rfl) w hs, trivial⟩) ?_
 refine clVG rfl rfl rfl rfl cal21 rfl rfl (c_lburns b (some ⟨ba, oa, none⟩) cb hok pl3 ap3 cp3 (by omega) hpi3 (hiL b) ac4 cc4 (hiL_cls hok) _ _) ?_
 refine bg (fun w hs => ⟨trivial, trivial⟩) ?_
 rw [cold_none hok (hiL_cls hok) hno3]
 refine tkG rfl rfl rfl rfl (PE.geq rfl rfl) rfl ?_
 refine tk rfl (PE.pick rfl rfl rfl) rfl ?_
 refine sy_cond rfl (fun hc5 => ?_) (fun hc5 => ?_)
 exact absurd hc5 (by simp)
 refine sy_skip ?_
 refine sy_seq ?_
 refine sy_seq ?_
 refine sy_tx' [0, 1] rfl ?_
 refine sp rfl (PE.move rfl) rfl ?_
 refine sp rfl (PE.lss rfl rfl) rfl ?_
 refine sy_cond rfl (fun hc6 => ?_) (fun hc6 => ?_)
 try simp only [decide_eq_true_eq, decide_eq_false_iff_not, Bool.and_eq_true, Bool.or_eq_true, Bool.not_eq_true', Int.not_le, Int.not_lt] at hc6
 refine sy_seq ?_
 refine sy_seq ?_
 refine sy_tx' [0, 1, 2, 3, 4, 5, 6, 7] rfl ?_
 refine spL rfl rfl (lhA (btl b (b.sl (some ⟨ba, oa, none⟩) cb)) ag27 rfl rfl rfl) rfl ?_
 refine sp rfl (PE.move rfl) rfl ?_
 refine sp rfl (PE.add rfl rfl (by omega)) rfl ?_
 obtain ⟨n1, hn1⟩ : ∃ n : Nat, m + 1 = n := ⟨(m + 1).toNat, by omega⟩
 rw [hn1]
 have hno : ¬ ∃ t c, b.dsk.pth n1 b.state t c := by rw [kpt_pth (b.dsk_ok hok) (b.state_inS hok) hm n1]; omega
 refine cl rfl cal8 rfl rfl (c_PlanY b (some ⟨ba, oa, none⟩) cb hl hr hok hck n1 (by omega) _ _) ?_
 rintro _ _ R1 ⟨pl4, ap4, cp4, hpc, hpe, rfl, rfl, hR1⟩
 obtain rfl := hR1.symm
 clear hR1
 have he6 : planE b n1 = 6 := by
   rcases hpe with ⟨h, _⟩ | ⟨c, p, _, _, h2, _⟩
   · exact h
   · obtain ⟨t, ht⟩ := h2.few.is
     exact absurd ⟨_, _, ht⟩ hno
 rw [he6]
 refine sp rfl (PE.move rfl) rfl ?_
 refine sp rfl (PE.extract rfl rfl) rfl ?_
 refine sp rfl (PE.extract rfl rfl) rfl ?_
 refine sp rfl (PE.assign rfl) rfl ?_
 refine sy_seq ?_
 refine sy_tx' [0, 1] rfl ?_
 refine sp rfl (PE.move rfl) rfl ?_
 refine sp rfl (PE.neq rfl rfl) rfl ?_
 refine sy_cond rfl (fun hc7 => ?_) (fun hc7 => ?_)
 exact absurd hc7 (by simp)
 refine sy_skip ?_
 refine sy_seq ?_
 refine sy_tx' [0] rfl ?_
 refine sp rfl (PE.move rfl) rfl ?_
 refine sy_block ?_
 refine sy_loop (ι := {y : Nat × Int × Int // y.1 ≤ 4 ∧ (0 ≤ y.2.1 ∧ y.2.1 ≤ 100 + 200 * y.1) ∧ (0 ≤ y.2.2 ∧ y.2.2 ≤ 4294967295)}) (fun y => ⟨[(5, .pointer (some ⟨b5, 0, none⟩)), (6, .pointer (some ⟨bt, 0, none⟩)), (7, .int .i64 m), (237, .int .i64 y.1.1)], (bt, cel 125 [.slice a2 l2.length c2, .int .i64 (y.1.2.1), .int .u32 (y.1.2.2)]) :: (b5, cel 27 (btl b (b.sl (some ⟨ba, oa, none⟩) cb))) :: (bs, cel 125 [.slice a1 l1.length c1, .int .i64 (tqb), .int .u32 (mxb)]) :: H, RowsA (some ⟨ba, oa, none⟩) 4 (brows b.bins) :: R⟩) (fun y => 4 - y.1.1) ⟨(0, tqc, mxc), by dsimp only; omega, by dsimp only; omega, by assumption⟩ ?_ (fun y => ?_)
 exact sy_at (by repeat' first | exact Sub.nil | apply Sub.cons | rfl | (simp [lk]; omega)) (fun w h => h.facts (fun g hg => by simp only [List.mem_cons] at hg ⊢; rcases hg with hg | hg <;> simp [hg]))
 obtain ⟨⟨i, tq, mx⟩, hi, htq, hmx⟩ := y
 dsimp only at hi htq hmx ⊢
 refine sy_seq ?_
 refine sy_tx' [0] rfl ?_
 refine sp rfl (PE.lss rfl rfl) rfl ?_
 refine sy_seq ?_
 refine sy_cond rfl (fun hc8 => ?_) (fun hc8 => ?_)
 try simp only [decide_eq_true_eq, decide_eq_false_iff_not, Bool.and_eq_true, Bool.or_eq_true, Bool.not_eq_true', Int.not_le, Int.not_lt] at hc8
 refine sy_skip ?_
 refine sy_seq ?_
 refine sy_block ?_
 refine sy_seq ?_
 refine sy_draw [0, 0, 0, 0, 8, 30, 0, 126, 255, 511] (.ld 0 (.tk 1 (.ld 2 (.tk 3 (.tk 4 (.ld 6 (.big 5 (.big 7 (.big 8 (.tk 9 .done)))))))))) mixed (by kernel_rfl) ?_
 refine ld rfl rfl (lhA (btl b (b.sl (some ⟨ba, oa, none⟩) cb)) ag27 rfl rfl rfl) rfl ?_
 refine tk rfl (PE.move rfl) rfl ?_
 refine ld rfl rfl (lhA (btl b (b.sl (some ⟨ba, oa, none⟩) cb)) ag27 rfl rfl rfl) rfl ?_
 refine tk rfl (PE.move rfl) rfl ?_
 refine tk rfl (PE.add rfl rfl (by omega)) rfl ?_
 refine ld rfl rfl (lhA (btl b (b.sl (some ⟨ba, oa, none⟩) cb)) ag27 rfl rfl rfl) rfl ?_
 rw [hn1]
 refine sy_pull bt ?_
 refine cl rfl cal23 rfl rfl (c_tried l2 a2 c2 bt hl2 _ _ (by omega) (by assumption) b (some ⟨ba, oa, none⟩) cb hok n1 (by omega) _ _) ?_
 rintro _ _ R1 ⟨p, pl, ap, cp, tqt, mxt, hlp, hpn, hpt, rfl, htqt, hmxt, rfl, hR1⟩
 obtain rfl := hR1.symm
 clear hR1
 have hpll : pl.length = p.length := by have := congrArg List.length hlp; rwa [lls_len, List.length_map] at this
 have hpi : ∀ x ∈ pl, x.l.length ≤ 9223372036854775807 := fun x hx => by have := lls_four hok hlp hpt x hx; omega
 refine bg (fun w hs => ⟨(lhA (btl b (b.sl (some ⟨ba, oa, none⟩) cb)) ag27 rfl rfl rfl) w hs, trivial, (lhA (btl b (b.sl (some ⟨ba, oa, none⟩) cb)) ag27 rfl rfl rfl) w hs, trivial⟩) ?_
 refine cl rfl cal17 rfl rfl (c_classesN b (some ⟨ba, oa, none⟩) cb hok _ _) ?_
 rintro _ _ R1 ⟨ac5, cc5, rfl, rfl, hR1⟩
 obtain rfl := hR1.symm
 clear hR1
 rw [← show (hiL b).length = b.bins.length from (hiL_cls hok).len]
 refine bg (fun w hs => ⟨trivial, (lhA (btl b (b.sl (some ⟨ba, oa, none⟩) cb)) ag27 rfl rfl rfl) w hs, trivial⟩) ?_
 refine clV rfl cal21 rfl rfl (c_lburns b (some ⟨ba, oa, none⟩) cb hok pl ap cp (by omega) hpi (hiL b) ac5 cc5 (hiL_cls hok) _ _) ?_
 refine bg (fun w hs => ⟨trivial, trivial⟩) ?_
 have hlb := long_burns hok hpt (by rw [hpn]; exact hno)
 rw [← hlp] at hlb
 obtain ⟨d, hd⟩ : ∃ d, dayN (b.burnsC (hiL b) b.warms (lls pl) 0) = d := ⟨_, rfl⟩
 rw [hd] at hlb ⊢
 refine tk rfl (PE.assign rfl) rfl ?_
 refine sy_seq ?_
 refine sy_tx' [0, 1, 2, 3, 4, 5, 6] rfl ?_
 refine sp rfl (PE.move rfl) rfl ?_
 refine sp rfl (PE.lss rfl rfl) rfl ?_
 refine sp rfl (PE.move rfl) rfl ?_
 refine sy_case (t := 250) rfl (fun g250 => ?_) (fun g250 => ?_)
 simp only [decide_eq_true_eq] at g250; omega
 refine spG rfl rfl rfl rfl (PE.move rfl) rfl ?_
 refine spG rfl rfl rfl rfl (PE.move rfl) rfl ?_
 refine spG rfl rfl rfl rfl (PE.gtr rfl rfl) rfl ?_
 refine sp rfl (PE.pick rfl rfl rfl) rfl ?_
 refine sy_cond rfl (fun hc9 => ?_) (fun hc9 => ?_)
 simp only [decide_eq_true_eq] at hc9; omega
 refine sy_skip ?_
 refine sy_tx' [0, 1] rfl ?_
 refine sp rfl (PE.add rfl rfl (by omega)) rfl ?_
 refine sp rfl (PE.move rfl) rfl ?_
 exact sy_next ⟨(i + 1, tqt, mxt), by dsimp only; omega, by dsimp only; push_cast; omega, by assumption⟩ (by dsimp only; omega) (by repeat' first | exact Sub.nil | apply Sub.cons | rfl | (simp [lk]; omega)) (fun w h => h.facts (fun g hg => by simp only [List.mem_cons] at hg ⊢; rcases hg with hg | hg <;> simp [hg]))
 try simp only [decide_eq_true_eq, decide_eq_false_iff_not, Bool.and_eq_true, Bool.or_eq_true, Bool.not_eq_true', Int.not_le, Int.not_lt] at hc8
 refine sy_exit ?_
 repeat refine sy_tx ?_
 refine sy_bx ?_
 refine sy_seq ?_
 refine sy_tx' [0, 1] rfl ?_
 refine clV rfl cal12 rfl rfl (c_awake _ _) ?_
 refine sp rfl (PE.assign rfl) rfl ?_
 refine sy_ret ?_
 exact sy_return (vs := [_]) rfl (.cons (RV.tmp rfl) .nil) rfl ⟨rfl, rfl, rfl⟩ (fun w h => (((h.del bt).del b5).del bs).facts (fun g hg => by simp [hg]))
 try simp only [decide_eq_true_eq, decide_eq_false_iff_not, Bool.and_eq_true, Bool.or_eq_true, Bool.not_eq_true', Int.not_le, Int.not_lt] at hc6
 refine sy_skip ?_
 refine sy_seq ?_
 refine sy_tx' [0, 1] rfl ?_
 refine clV rfl cal12 rfl rfl (c_awake _ _) ?_
 refine sp rfl (PE.assign rfl) rfl ?_
 refine sy_ret ?_
 exact sy_return (vs := [_]) rfl (.cons (RV.tmp rfl) .nil) rfl ⟨rfl, rfl, rfl⟩ (fun w h => (((h.del bt).del b5).del bs).facts (fun g hg => by simp [hg]))
end Go.Proofs.YtelegnmfhjfbaaaGreat
