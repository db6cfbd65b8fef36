/- Walks of the functions of the program, and the laws that join them: what the last theorem of this claim needs, in order. -/
import Derived.Test.YtnifcjgnageniaaGreaths7
namespace Go.Proofs.YtnifcjgnageniaaGreat
set_option linter.unusedSimpArgs false
set_option linter.unusedVariables false
open Go
theorem Zgv : apT Tryz.prog 32 = some (37, 2, 32) := by kernel_rfl
theorem ZdV : cal Tryz.prog 16 = true := by kernel_rfl
theorem ZcB : Z1h Tryz.prog 55 = some 1 := by kernel_rfl
theorem Zia : Z1h Tryz.prog 59 = some 1 := by kernel_rfl
theorem Zfs : Z2z Tryz.prog 37 = some [(0, 1), (1, 1)] := by kernel_rfl
theorem Zeg : slE Tryz.prog 32 = some (37, 2) := by kernel_rfl
theorem ZcV : Z0x Tryz.prog 55 = some ([.map none]) := by kernel_rfl
theorem Zi9 : Z0x Tryz.prog 59 = some ([.nilFunc]) := by kernel_rfl
def Zh6 (b : Barn) (H : Zg) (R : Z6) : Value → Zg → Z6 → Prop := fun v H' R' =>
  ((b.check ≠ 0 ∧ v = .tuple #[.slice none 0 0, .int .i64 b.check] ∧ H' = H ∧ R' = R) ∨
   (b.check = 0 ∧ Kpt b.dsk b.state 1000000 ∧ v = .tuple #[.slice none 0 0, .int .i64 6] ∧ H' = H ∧ R' = R) ∨
   (b.check = 0 ∧ ∃ (m : Int) (W : List WO) (o : OSl 37 2 (ZC (wos W))), m ≠ 1000000 ∧ Kpt b.dsk b.state m ∧ Z3E b (wls (wos W)) = (m, 0) ∧ W.length ≤ b.dsk.nst ∧ (∀ x ∈ wos W, x.d ≤ m) ∧ v = .tuple #[o.fs, .int .i64 0] ∧ H' = o.G ++ (wob W ++ H) ∧ R' = R))
theorem Z3V {a b c d : Nat × Obj} {G1 G2 : Zg} {l : List WO} {x : WO} {T : Zg} : (x.blk :: a :: b :: c :: d :: (G1 ++ (G2 ++ (wob l ++ T)))).Perm (a :: b :: c :: d :: (G1 ++ (G2 ++ (wob (l ++ [x]) ++ T)))) := by
  have h := ZaI (G := [a, b, c, d] ++ (G1 ++ G2)) (l := l) (x := x) (T := T)
  simpa [List.append_assoc] using h
set_option maxHeartbeats 1000000 in
theorem Zbq (b : Barn) (ab : Option Addr) (cb : Nat) (hl : b.bins.length ≤ 9223372036854775807) (hr : b.rise.length = 6) (H : Zg) (R : Z6) [hB : MemRows ab 4 (Z7 b.bins) R] :
    Fn Tryz.prog 5 [b.v (b.sl ab cb)] H R (Zh6 b H R) := by
 refine Z5C Tryz.func5 rfl Tryz.ntmps5 rfl ?_
 refine sqt 3 rfl (bx rfl rfl rfl (fun b1 => pur 2 rfl (sqt 8 rfl (spL rfl rfl (lhA (btl b (b.sl ab cb)) ZD rfl rfl rfl) rfl ?_))))
 refine cl rfl Z9V rfl rfl (Z2H b ab cb hl hr _ _) ?_
 rintro _ _ _ (⟨hck, rfl, rfl, rfl⟩ | ⟨hck, bd, m, rfl, rfl, rfl⟩)
 refine pur 3 rfl (alc rfl Zf9 rfl (fun b4 => ?_))
 refine sto rfl rfl rfl Zf7 rfl rfl rfl rfl ?_
 refine pur 1 rfl (Z0 (sqt 2 rfl (pur 2 rfl ?_)))
 refine Zq (congrArg (fun b => some (Value.bool b)) (dT hck)) ?_
 refine sqt 3 rfl (pur 3 rfl (Z4 ?_))
 exact ZY [] idH rfl (.cons (RV.tmp rfl) (.cons (RV.tmp rfl) .nil)) rfl (.inl ⟨hck, rfl, rfl, rfl⟩) (fun w h => (h.del b4).del b1)
 ·
  have hok := Barn.ok_of hr hck
  have hdk := b.dsk_ok hok
  have hl4 := hdk.lasts.len
  have hm4 := hdk.most.len
  have hmn := hok.many
  refine pur 3 rfl (alc rfl Zf9 rfl (fun b4 => ?_))
  refine sto rfl rfl rfl Zf7 rfl rfl rfl rfl ?_
  refine pur 1 rfl (Z0 (sqt 2 rfl (pur 2 rfl ?_)))
  refine ZG (rfl) ?_
  refine Z1 (sqt 2 rfl (spL rfl rfl (lh Z0U rfl rfl) rfl ?_))
  refine Z32 m ?_
  refine cl rfl Zc1 rfl rfl (Z8R b hok ab cb bd m _ _) ?_
  rintro v _ _ ⟨n, kv, hn, hfx, hkv, rfl, rfl⟩
  have hst := b.state_sts hok
  have hsi := b.state_inS hok
  have hks := Z1r hst hn hfx
  have hkg := hkv.get _ hst
  refine Z0 (Z0 ?_)
  refine Zi [0, 1, 3, 7, 0, 16, 63, 127] (.ld 0 (.tk 1 (.tk 2 (.ld 3 (.ld 4 (.big 5 (.ld 6 (.tk 7 .done)))))))) ZH (by kernel_rfl) ?_
  refine ld rfl rfl (lh Z0U rfl rfl) rfl (tk rfl (PE.nilCheck rfl) rfl (tk rfl (PE.fA Z16 rfl) rfl (ld rfl rfl (lfB (sz := 18) Z1s (ZU hl4 hm4)) rfl (ld rfl rfl (lhA (btl b (b.sl ab cb)) ZD rfl rfl rfl) rfl ?_))))
  refine clV rfl Z63 rfl rfl (Z2b b ab cb hok _ _) ?_
  refine bg (fun w hs => ⟨trivial, (lfB (sz := 18) Z1s (ZU hl4 hm4)) w hs, (lh Z0U rfl rfl) w hs, trivial⟩) ?_
  refine ldK rfl rfl rfl ((Z23 (b := true) kv b.state Z1g (KeyT.of Z0L Z0P) (Z1O zv3) (b.state_sml hok).len hkv.len false)) rfl ?_
  rw [hkg]
  refine Zp 1 rfl ?_
  refine Z2 rfl ?_ ?_ <;> intro hc1 <;> try simp only [cS] at hc1
  refine sqt 2 rfl (pur 2 rfl (Z4 ?_))
  exact ZY [] idH rfl (.cons (RV.tmp rfl) (.cons (RV.tmp rfl) .nil)) rfl (.inr (.inl ⟨hck, hc1 ▸ hks, rfl, rfl, rfl⟩)) (fun w h => St.sub (((h.del m).del b4).del b1))
  ·
   have hkr := Z2i hks
   have hn14 := (b.dsk.nst_le hdk).2
   refine Z1 (sqt 1 rfl (alc rfl Zi9 rfl (fun b6 => sqt 2 rfl (sp rfl (PE.makeFunc rfl rfl) rfl ?_))))
   refine sto rfl rfl rfl Zia rfl rfl rfl rfl ?_
   refine sqt 4 rfl ?_
   refine Sy.heap (fun w h => St.kpf (h.pull m)) ?_
   refine Sy.heap (fun w h => St.rows (sz := 1) (rows := [[.pointer (some ⟨bd, 0, none⟩)]]) (rest := []) (h.pull b4) (by simp)) ?_
   refine Sy.heap (fun w h => St.rows (sz := 1) (rows := [[.func (.func 15) #[] #[.pointer (some ⟨b4, 0, none⟩), .pointer (some ⟨b6, 0, none⟩)]]]) (rest := []) (h.pull b6) (by simp)) ?_
   refine spL rfl rfl (lhA (btl b (b.sl ab cb)) ZD rfl rfl rfl) rfl ?_
   refine clV rfl Z63 rfl rfl (Z2b b ab cb hok _ _) ?_
   refine alc rfl Z1G rfl (fun b7 => ?_)
   refine Z1I rfl rfl rfl Z1e rfl (by rw [Z8]; exact hsi.len) rfl (Zu _) ?_
   refine Z0 ?_
   refine Zi [0, 0, 0, 4, 12, 28, 0, 124, 255, 511, 0, 2047] (.ld 0 (.ld 1 (.ld 2 (.tk 3 (.tk 4 (.ld 5 (.ld 6 (.ld 7 (.any (.alt 8 (.any (.alt 9 (.big 10 (.big 11 .done)) (.alt 10 (.big 9 (.big 11 .done)) .stop))) (.alt 10 (.big 8 (.big 9 (.big 11 .done))) .stop))))))))))) ZH (by kernel_rfl) ?_
   refine ld rfl rfl (lfB (sz := 1) Zdo rfl) rfl (ld rfl rfl (lhI b.state ZV rfl rfl (hsi.len)) rfl (ld rfl rfl (lfB (sz := 1) Z0U rfl) rfl (tk rfl (PE.nilCheck rfl) rfl (tk rfl (PE.fA Z16 rfl) rfl (ld rfl rfl (lfB (sz := 18) Z1s (ZU hl4 hm4)) rfl (ld rfl rfl (lhI b.state ZV rfl rfl (hsi.len)) rfl ?_))))))
   refine ldK rfl rfl rfl (ZP hsi.len hkv.len hkg (fun w hs => hs.now (MemF.mem (f := KpF m kv)))) rfl ?_
   refine Zs ?_ ?_
   ·
    refine clF rfl rfl (Z7j) rfl rfl (Z56 b hok ab cb bd m n hn kv hkv b4 b6 (b.dsk.lvl n b.state) b.state hsi _ _) ?_
    rintro _ _ _ ⟨uf, huf, rfl, rfl, rfl⟩
    obtain ⟨f0, f1, f2, f3, rfl⟩ := Z1P huf.inS.len
    refine bgT ?_
    refine Zs ?_ ?_
    ·
     refine bsl (out := [_, _, _, _]) rfl Za6 Z1G rfl rfl rfl rfl rfl rfl (fun b47 => ?_)
     refine bgT (alc rfl Zfv rfl (fun b8 => bgT ?_))
     refine sto rfl rfl rfl Za9 rfl rfl rfl rfl ?_
     refine bgT (Z0 ?_)
     refine Z2Q (ι := {x : (Nat × Nat × Nat × Nat) × HSt // Rz b.dsk n (b.dsk.lvl n b.state) b.state x.2}) (fun x => ⟨[(1, .pointer (some ⟨b1, 0, none⟩)), (4, .pointer (some ⟨b4, 0, none⟩)), (6, .pointer (some ⟨b6, 0, none⟩)), (8, .pointer (some ⟨x.1.1.1, 0, none⟩)), (9, .pointer (some ⟨x.1.1.2.1, 0, none⟩))], (x.1.1.1, cel 60 [.slice (some ⟨x.1.1.2.2.2, 0, none⟩) 1 1]) :: (x.1.1.2.1, cel 55 [.map (some x.1.1.2.2.1)]) :: (x.1.1.2.2.1, Z0g true [(x.1.2, .int .i64 (b.dsk.lvl n b.state))]) :: (x.1.1.2.2.2, cel 54 (ZI x.1.2)) :: (b1, cel 27 (btl b (b.sl ab cb))) :: H, Z5 (some ⟨b6, 0, none⟩) 1 [[.func (.func 15) #[] #[.pointer (some ⟨b4, 0, none⟩), .pointer (some ⟨b6, 0, none⟩)]]] :: Z5 (some ⟨b4, 0, none⟩) 1 [[.pointer (some ⟨bd, 0, none⟩)]] :: KpF m kv :: Z5 (some ⟨bd, 0, none⟩) 18 [dcs b (b.sl ab cb) b.lasts b.most m] :: R⟩) ?_ ?_
     refine Zi [0, 0, 2, 6, 0, 16, 48, 112, 0, 496, 1023, 2047, 0, 8191] (.ld 1 (.tk 2 (.ld 3 (.ld 4 (.tk 5 (.tk 6 (.ld 7 (.ld 8 (.ld 9 (.any (.alt 0 (.any (.alt 10 (.tk 11 (.big 12 (.big 13 .done))) (.alt 12 (.big 10 (.tk 11 (.big 13 .done))) .stop))) (.alt 12 (.big 0 (.big 10 (.tk 11 (.big 13 .done)))) .stop)))))))))))) ZH (by kernel_rfl) ?_
     refine ld rfl rfl (lh Z2U rfl rfl) rfl (tk rfl (PE.indexAddr ZaZ rfl rfl (by decide) (by decide)) rfl (ld rfl rfl (lhI [f0, f1, f2, f3] ZV rfl rfl (rfl)) rfl (ld rfl rfl (lfB (sz := 1) Z0U rfl) rfl (tk rfl (PE.nilCheck rfl) rfl (tk rfl (PE.fA Z16 rfl) rfl (ld rfl rfl (lfB (sz := 18) Z1s (ZU hl4 hm4)) rfl (ld rfl rfl (lhI b.state ZV rfl rfl (hsi.len)) rfl ?_)))))))
     refine ldK rfl rfl rfl (ZP hsi.len hkv.len hkg (fun w hs => hs.now (MemF.mem (f := KpF m kv)))) rfl ?_
     refine Zs ?_ ?_
     refine mkm rfl rfl true (fun m48 => ?_)
     refine bg (fun w hs => ⟨(ZP hsi.len hkv.len hkg (fun w hs => hs.now (MemF.mem (f := KpF m kv)))) w hs, (lhI b.state ZV rfl rfl (hsi.len)) w hs, (lfB (sz := 18) Z1s (ZU hl4 hm4)) w hs, (lfB (sz := 1) Z0U rfl) w hs, (lhI [f0, f1, f2, f3] ZV rfl rfl (rfl)) w hs, (lh Z2U rfl rfl) w hs, trivial⟩) ?_
     refine Zs ?_ ?_
     refine mpi [] [f0, f1, f2, f3] rfl Z1g (KeyT.of Z0L Z0P) rfl rfl rfl rfl (by simp) ?_
     refine bgT (Zp 1 rfl (alc rfl ZcV rfl (fun b9 => bgT ?_)))
     refine sto rfl rfl rfl ZcB rfl rfl rfl rfl ?_
     refine bgT ?_
     exact Za ⟨((b8, b9, m48, b47), [f0, f1, f2, f3]), huf⟩ (fun w h => (((((h.pull b1).pull b47).pull m48).pull b9).pull b8 |>.del b7))
     refine Zs ?_ ?_
     refine alc rfl ZcV rfl (fun b9 => ?_)
     refine bg (fun w hs => ⟨(ZP hsi.len hkv.len hkg (fun w hs => hs.now (MemF.mem (f := KpF m kv)))) w hs, (lhI b.state ZV rfl rfl (hsi.len)) w hs, (lfB (sz := 18) Z1s (ZU hl4 hm4)) w hs, (lfB (sz := 1) Z0U rfl) w hs, (lhI [f0, f1, f2, f3] ZV rfl rfl (rfl)) w hs, (lh Z2U rfl rfl) w hs, trivial⟩) ?_
     refine mpi [] [f0, f1, f2, f3] rfl Z1g (KeyT.of Z0L Z0P) rfl rfl rfl rfl (by simp) ?_
     refine bgT (Zp 1 rfl ?_)
     refine sto rfl rfl rfl ZcB rfl rfl rfl rfl ?_
     refine bgT ?_
     exact Za ⟨((b8, b9, m48, b47), [f0, f1, f2, f3]), huf⟩ (fun w h => (((((h.pull b1).pull b47).pull m48).pull b9).pull b8 |>.del b7))
     exact ZN
     refine Zs ?_ ?_
     refine alc rfl ZcV rfl (fun b9 => ?_)
     refine bg (fun w hs => ⟨(ZP hsi.len hkv.len hkg (fun w hs => hs.now (MemF.mem (f := KpF m kv)))) w hs, (lhI b.state ZV rfl rfl (hsi.len)) w hs, (lfB (sz := 18) Z1s (ZU hl4 hm4)) w hs, (lfB (sz := 1) Z0U rfl) w hs, (lhI [f0, f1, f2, f3] ZV rfl rfl (rfl)) w hs, (lh Z2U rfl rfl) w hs, trivial⟩) ?_
     refine mkm rfl rfl true (fun m48 => ?_)
     refine bg (fun w hs => ⟨(ZP hsi.len hkv.len hkg (fun w hs => hs.now (MemF.mem (f := KpF m kv)))) w hs, (lhI b.state ZV rfl rfl (hsi.len)) w hs, (lfB (sz := 18) Z1s (ZU hl4 hm4)) w hs, (lfB (sz := 1) Z0U rfl) w hs, (lhI [f0, f1, f2, f3] ZV rfl rfl (rfl)) w hs, (lh Z2U rfl rfl) w hs, trivial⟩) ?_
     refine mpi [] [f0, f1, f2, f3] rfl Z1g (KeyT.of Z0L Z0P) rfl rfl rfl rfl (by simp) ?_
     refine bgT (Zp 1 rfl ?_)
     refine sto rfl rfl rfl ZcB rfl rfl rfl rfl ?_
     refine bgT ?_
     exact Za ⟨((b8, b9, m48, b47), [f0, f1, f2, f3]), huf⟩ (fun w h => (((((h.pull b1).pull b47).pull m48).pull b9).pull b8 |>.del b7))
     exact ZN
     ·
      rintro ⟨⟨⟨b8, b9, m48, b47⟩, uf⟩, huf⟩
      dsimp only at huf ⊢
      obtain ⟨f0, f1, f2, f3, rfl⟩ := Z1P huf.inS.len
      have hfl : b.dsk.lvl n [f0, f1, f2, f3] = b.dsk.lvl n b.state := by
        have h1 := Z6u hdk hn hfx hsi huf.inS huf.le
        have h2 := (Bq.start huf).lv [f0, f1, f2, f3] (by simp)
        omega
      refine sqt 1 rfl (pur 1 rfl (Z0 (Z3 ?_)))
      obtain ⟨q0, hq0, hqG⟩ := OQ.one (e := 54) (sz := 4) b47 (row := ZI [f0, f1, f2, f3]) rfl
      obtain ⟨q1, hq1, hqG1⟩ : ∃ q1 : OQ 54 4 (Zx (([[f0, f1, f2, f3]] : List HSt).drop 0)), q1.fs = .slice (some ⟨b47, 0, none⟩) 1 1 ∧ q1.G = [(b47, cel 54 (ZI [f0, f1, f2, f3]))] := ⟨q0, hq0, hqG⟩
      refine Sy.heap (H' := (b8, cel 60 [q1.fs]) :: (b9, cel 55 [.map (some m48)]) :: (m48, Z0g true (kvL b.dsk n [[f0, f1, f2, f3]])) :: (q1.G ++ ((OSl.nil 37 2).G ++ (wob [] ++ (b1, cel 27 (btl b (b.sl ab cb))) :: (mkh [] ++ H))))) (R' := Z5 (some ⟨b6, 0, none⟩) 1 [[.func (.func 15) #[] #[.pointer (some ⟨b4, 0, none⟩), .pointer (some ⟨b6, 0, none⟩)]]] :: Z5 (some ⟨b4, 0, none⟩) 1 [[.pointer (some ⟨bd, 0, none⟩)]] :: KpF m kv :: Z5 (some ⟨bd, 0, none⟩) 18 [dcs b (b.sl ab cb) b.lasts b.most m] :: R) (fun w h => by
        rw [hq1, hqG1, show kvL b.dsk n [[f0, f1, f2, f3]] = [([f0, f1, f2, f3], .int .i64 (b.dsk.lvl n b.state))] by unfold kvL; simp [hfl]]
        exact (show St ((b8, cel 60 [.slice (some ⟨b47, 0, none⟩) 1 1]) :: (b9, cel 55 [.map (some m48)]) :: (m48, Z0g true [([f0, f1, f2, f3], .int .i64 (b.dsk.lvl n b.state))]) :: (b47, cel 54 (ZI [f0, f1, f2, f3])) :: (b1, cel 27 (btl b (b.sl ab cb))) :: H) _ w from h)) ?_
      refine Z3j (ι := (y : {y : List HSt × Nat × List WO × List Nat // Bq b.dsk n b.state y.1 y.2.1 ∧ y.2.1 ≤ y.1.length ∧ wls (wos y.2.2.1) = wlV b.dsk n (y.1.take y.2.1)}) × (OSl 37 2 (ZC (wos y.1.2.2.1)) × OQ 54 4 (Zx (y.1.1.drop y.1.2.1)))) (fun y => ⟨[(1, .pointer (some ⟨b1, 0, none⟩)), (4, .pointer (some ⟨b4, 0, none⟩)), (6, .pointer (some ⟨b6, 0, none⟩)), (8, .pointer (some ⟨b8, 0, none⟩)), (9, .pointer (some ⟨b9, 0, none⟩)), (10, y.2.1.fs)], mks y.1.1.2.2.2, (b8, cel 60 [y.2.2.fs]) :: (b9, cel 55 [.map (some m48)]) :: (m48, Z0g true (kvL b.dsk n y.1.1.1)) :: (y.2.2.G ++ (y.2.1.G ++ (wob y.1.1.2.2.1 ++ (b1, cel 27 (btl b (b.sl ab cb))) :: (mkh y.1.1.2.2.2 ++ H)))), Z5 (some ⟨b6, 0, none⟩) 1 [[.func (.func 15) #[] #[.pointer (some ⟨b4, 0, none⟩), .pointer (some ⟨b6, 0, none⟩)]]] :: Z5 (some ⟨b4, 0, none⟩) 1 [[.pointer (some ⟨bd, 0, none⟩)]] :: KpF m kv :: Z5 (some ⟨bd, 0, none⟩) 18 [dcs b (b.sl ab cb) b.lasts b.most m] :: R⟩) (fun y => b.dsk.nst - y.1.1.2.1) ⟨⟨([[f0, f1, f2, f3]], 0, [], []), Bq.start huf, Nat.zero_le _, rfl⟩, OSl.nil _ _, q1⟩ ?_ (fun y => ?_)
      exact Z7t (by repeat' first | exact Sub.nil | apply Sub.cons | rfl | (simp [lk]; omega)) rfl idH
      ·
       obtain ⟨⟨⟨V, j, W, mk⟩, hbq, hjv, hwv⟩, o, q⟩ := y
       dsimp only at hbq hjv hwv o q ⊢
       have hfew := hbq.few hdk
       have hWl : W.length = j := by have := congrArg List.length hwv; unfold wlV at this; rw [Z0F, Z2u, List.length_map, List.length_take] at this; omega
       have hqs : q.fs = .slice (some ⟨q.b, q.off, none⟩) (V.length - j) q.cap := by unfold OQ.fs; rw [ZT, List.length_drop]
       rw [hqs]
       refine Z0 (sqt 3 rfl (spL rfl rfl (lh Z2U rfl rfl) rfl (sp rfl (PE.lenSl Z78 rfl) rfl (pur 1 rfl ?_))))
       refine Z2 rfl ?_ ?_ <;> intro hc2 <;> try simp only [cS] at hc2
       ·
        obtain ⟨p, hp⟩ : ∃ p, V[j]? = some p := ⟨_, List.getElem?_eq_getElem (by omega)⟩
        have hpV := List.mem_of_getElem? hp
        have hps := hbq.sts p hpV
        have hpl := hps.len
        have hpm := b.dsk.inS_sml hdk hps
        have hplv := hbq.lv p hpV
        have hpk := Z1r ((b.dsk.mem_sts hdk p).2 hps) hn hfx
        have hpr := Z2i hpk
        have hpe : (ZI p).length = 4 := by rw [Z8]; exact hpl
        have hV4 : ∀ s ∈ V, s.length = 4 := fun s hs => (hbq.sts s hs).len
        refine Sy.heap (H' := (b8, cel 60 [.slice (some ⟨q.b, q.off, none⟩) (V.length - j) q.cap]) :: (b9, cel 55 [.map (some m48)]) :: (m48, Z0g true (kvL b.dsk n V)) :: (q.b, cel 54 (q.pre ++ ((Zx (V.drop j)).flatten ++ q.junk))) :: (o.G ++ (wob W ++ (b1, cel 27 (btl b (b.sl ab cb))) :: (mkh mk ++ H)))) idH ?_
        have hdr : (q.pre ++ ((Zx (V.drop j)).flatten ++ q.junk)).drop (q.off + (0 : Int).toNat * 4) = ZI p ++ ((Zx (V.drop (j + 1))).flatten ++ q.junk) := by
          have hfl : (Zx (V.drop j)).flatten = ZI p ++ (Zx (V.drop (j + 1))).flatten := by rw [ZS hp, List.flatten_cons]
          rw [hfl, show q.off + (0 : Int).toNat * 4 = q.pre.length by rw [q.pl]; simp, List.drop_left, List.append_assoc]
        obtain ⟨q2, hq2, hqG2⟩ := (q.cast (ZS hp)).pop
        have hqc : (q.cast (ZS hp)).b = q.b ∧ (q.cast (ZS hp)).off = q.off ∧ (q.cast (ZS hp)).cap = q.cap := by
          generalize ZS hp = e
          generalize ZI p :: Zx (V.drop (j + 1)) = r at e
          subst e; exact ⟨rfl, rfl, rfl⟩
        rw [hqc.1, hqc.2.1, hqc.2.2, ZT, List.length_drop] at hq2
        rw [OQ.cast_G] at hqG2
        refine Z1 (Z3 (sqt 5 rfl (spL rfl rfl (lh Z2U rfl rfl) rfl (sp rfl (PE.indexAddr ZaZ rfl rfl (by omega) (by omega)) rfl (spL rfl rfl (lhA (ZI p) ZV rfl hdr hpe) rfl (alc rfl Z1G rfl (fun b11 => ?_)))))))
        refine Z1I rfl rfl rfl Z1e rfl (by rw [Z8]; exact hpl) rfl (Zu _) ?_
        refine sqt 3 rfl (spL rfl rfl (lh Z2U rfl rfl) rfl (sp rfl (PE.slLoA (l := 1) Za6 rfl rfl (by omega)) rfl ?_))
        have hq2e : Value.slice (if q.cap = 1 then some ⟨q.b, q.off, none⟩ else (some (⟨q.b, q.off, none⟩ : Addr)).map (·.add (1 * 4))) (V.length - j - 1) (q.cap - 1) = q2.fs := by
          rw [hq2, Option.map_some, Z0p, show V.length - (j + 1) = V.length - j - 1 by omega]
        rw [hq2e]
        refine Z1b (l' := [q2.fs]) rfl rfl rfl Za9 rfl rfl rfl rfl (Nat.le_refl _) ?_
        refine Sy.heap (H' := (b11, cel 54 (ZI p)) :: (b8, cel 60 [q2.fs]) :: (b9, cel 55 [.map (some m48)]) :: (m48, Z0g true (kvL b.dsk n V)) :: (q2.G ++ (o.G ++ (wob W ++ (b1, cel 27 (btl b (b.sl ab cb))) :: (mkh mk ++ H))))) (fun w h => by rw [hqG2]; exact h) ?_
        refine Z0 ?_
        refine Zi [0, 0, 2, 6, 14, 30, 0, 0, 192, 510, 1022, 2047, 4095] (.tk 0 (.tk 1 (.ld 2 (.tk 3 (.tk 4 (.ld 6 (.ld 7 (.ld 8 (.big 5 (.tk 9 (.big 10 (.big 11 (.tk 12 .done))))))))))))) ZH (by kernel_rfl) ?_
        refine Zp 1 rfl (tk rfl (PE.fA ZE rfl) rfl (ld rfl rfl (lh Z0C rfl rfl) rfl (tk rfl (PE.lenSl Z0M rfl) rfl (tk rfl (PE.slArrHi (h := b.bins.length) Z2G rfl rfl (by omega)) rfl (ld rfl rfl (lh Z1s rfl rfl) rfl (ld rfl rfl (lhI p ZV rfl rfl (hpl)) rfl ?_))))))
        refine ldK rfl rfl rfl (ZP hpl (Z12 hV4) (Z0T hpV) (Z4Q (x := m48))) rfl ?_
        refine cl rfl ZdV rfl rfl (Z7U b11 54 b.bins.length 4 p (by omega) (by omega) _ _) ?_
        rintro _ _ _ ⟨ol, rfl, rfl, rfl⟩
        obtain ⟨xn, hnl, hnd, hnf, hnG⟩ := OSl.wo (p.take b.bins.length) (b.dsk.lvl n p) ol (by
          obtain ⟨ay, cy, jk, h1, _⟩ := ol.is.resolve_left (fun h => by have := congrArg List.length h.1; rw [Zd, List.length_take, hpl] at this; simp only [List.length_nil] at this; omega)
          exact ⟨ay, cy, h1.trans (by first | rfl | simp)⟩)
        rw [hnf]
        refine Sy.heap (fun w h => by rw [hnG] at h; exact h) ?_
        refine bg (fun w hs => ⟨(ZP hpl (Z12 hV4) (Z0T hpV) (Z4Q (x := m48))) w hs, (lhI p ZV rfl rfl (hpl)) w hs, (lh Z1s rfl rfl) w hs, trivial, trivial⟩) ?_
        refine tk rfl (PE.build (out := [_, _]) Zfs Z7c rfl rfl) rfl ?_
        refine bsl (out := [_, _]) rfl Zeg Z7c rfl rfl rfl rfl rfl rfl (fun b77 => ?_)
        refine bgT ?_
        refine apO (o) rfl Zgv rfl rfl (Z0W (row := [.slice (some ⟨xn.b, 0, none⟩) xn.l.length xn.cap, .int .i64 (b.dsk.lvl n p)]) rfl) rfl rfl ((by rw [ZM, Z2u]; simp only [List.length_singleton]; omega)) rfl (fun o78 => ?_)
        refine bgT (Zp 1 rfl (sqt 2 rfl ?_))
        obtain ⟨o78, e78, g78⟩ : ∃ o' : OSl 37 2 (ZC (wos (W ++ [xn]))), o'.fs = o78.fs ∧ o'.G = o78.G := ⟨o78.cast (by rw [Z3G, Z1T, ← hnd]; rfl), rfl, rfl⟩
        rw [← e78]
        refine Sy.heap (H' := (b11, cel 54 (ZI p)) :: (b8, cel 60 [q2.fs]) :: (b9, cel 55 [.map (some m48)]) :: (m48, Z0g true (kvL b.dsk n V)) :: (q2.G ++ (o78.G ++ (wob (W ++ [xn]) ++ (b1, cel 27 (btl b (b.sl ab cb))) :: (mkh mk ++ H))))) (R' := Z5 (some ⟨b6, 0, none⟩) 1 [[.func (.func 15) #[] #[.pointer (some ⟨b4, 0, none⟩), .pointer (some ⟨b6, 0, none⟩)]]] :: Z5 (some ⟨b4, 0, none⟩) 1 [[.pointer (some ⟨bd, 0, none⟩)]] :: KpF m kv :: Z5 (some ⟨bd, 0, none⟩) 18 [dcs b (b.sl ab cb) b.lasts b.most m] :: R) (fun w h => by rw [← g78] at h; exact St.sub ((h.del b77).perm Z3V)) ?_
        clear e78 g78
        refine spL rfl rfl (lfB (sz := 1) Z0U rfl) rfl ?_
        refine cl rfl Z8o rfl rfl (Z1j bd false _ _) ?_
        rintro _ _ _ ⟨xb, xf, rfl, rfl, rfl⟩
        refine Z3 ?_
        refine Z1x rfl Z8s (fun c0 bl0 bd0 hcp0 hca0 hcb0 hck0 => ?_)
        refine ⟨fun st pend T R' => st = .ready ∧ pend = none ∧ ∃ (V' : List HSt) (q' : OQ 54 4 (Zx (V'.drop (j + 1)))), Bq b.dsk n b.state V' j ∧ V'.take (j + 1) = V.take (j + 1) ∧ V'[j]? = some p ∧ CvK b.dsk n V' p ((b.dsk.trs false).length) ∧ T = (bd0, .deferred (some [])) :: (b11, cel 54 (ZI p)) :: (b8, cel 60 [q'.fs]) :: (b9, cel 55 [.map (some m48)]) :: (m48, Z0g true (kvL b.dsk n V')) :: (q'.G ++ (o78.G ++ (wob (W ++ [xn]) ++ (b1, cel 27 (btl b (b.sl ab cb))) :: (mkh mk ++ H)))) ∧ R' = Z5 (some ⟨xf, 0, none⟩) 1 [[.bool false]] :: Z5 (some ⟨xb, 0, none⟩) 1 [[.pointer (some ⟨bd, 0, none⟩)]] :: Z5 (some ⟨b6, 0, none⟩) 1 [[.func (.func 15) #[] #[.pointer (some ⟨b4, 0, none⟩), .pointer (some ⟨b6, 0, none⟩)]]] :: Z5 (some ⟨b4, 0, none⟩) 1 [[.pointer (some ⟨bd, 0, none⟩)]] :: KpF m kv :: Z5 (some ⟨bd, 0, none⟩) 18 [dcs b (b.sl ab cb) b.lasts b.most m] :: R,
          Fn.mono (Z10 b hok ab cb bd m false xb xf bl0 (fun k H' R' => ∃ (V' : List HSt) (q' : OQ 54 4 (Zx (V'.drop (j + 1)))), Bq b.dsk n b.state V' j ∧ V'.take (j + 1) = V.take (j + 1) ∧ V'[j]? = some p ∧ CvK b.dsk n V' p (k) ∧ H' = (bl0, lob c0 .ready none) :: (bd0, .deferred (some [])) :: (b11, cel 54 (ZI p)) :: (b8, cel 60 [q'.fs]) :: (b9, cel 55 [.map (some m48)]) :: (m48, Z0g true (kvL b.dsk n V')) :: (q'.G ++ (o78.G ++ (wob (W ++ [xn]) ++ (b1, cel 27 (btl b (b.sl ab cb))) :: (mkh mk ++ H)))) ∧ R' = Z5 (some ⟨xf, 0, none⟩) 1 [[.bool false]] :: Z5 (some ⟨xb, 0, none⟩) 1 [[.pointer (some ⟨bd, 0, none⟩)]] :: Z5 (some ⟨b6, 0, none⟩) 1 [[.func (.func 15) #[] #[.pointer (some ⟨b4, 0, none⟩), .pointer (some ⟨b6, 0, none⟩)]]] :: Z5 (some ⟨b4, 0, none⟩) 1 [[.pointer (some ⟨bd, 0, none⟩)]] :: KpF m kv :: Z5 (some ⟨bd, 0, none⟩) 18 [dcs b (b.sl ab cb) b.lasts b.most m] :: R)
            (fun _ _ => False)
            (fun k H' R' h => by obtain ⟨_, _, _, _, _, _, _, rfl⟩ := h; exact ⟨by simp, by simp, by simp⟩) (fun k l a c H' R' hk hI => ?_) _ _ ⟨V, q2, hbq, rfl, hp, fun i l hi => absurd hi (Nat.not_lt_zero _), rfl, rfl⟩) (fun v H' R' h => ?_), ?_⟩
        rotate_left
        · rcases h with ⟨V', q', h1, h2, h3, h4, rfl, rfl⟩ | h
          · exact ⟨.ready, none, _, by simp, .refl _, rfl, rfl, V', q', h1, h2, h3, h4, rfl, rfl⟩
          · exact h.elim
        rotate_left
        have hlm := List.mem_of_getElem? hk
        have hlt := b.dsk.trs_lt hlm
        have hll : l.length ≤ 1000000 := by
          obtain ⟨i, _, rfl⟩ := List.mem_map.1 (List.mem_filter.1 hlm).1
          have := Z18 b.dsk.n i
          have := hdk.n
          omega
        obtain ⟨V1, q3, hb1, ht1, hp1, hcv, rfl, rfl⟩ := hI
        have hj1 := (List.getElem?_eq_some_iff.1 hp1).1
        have hf1 := hb1.few hdk
        have hp1V := List.mem_of_getElem? hp1
        have hV14 : ∀ s ∈ V1, s.length = 4 := fun s hs => (hb1.sts s hs).len
        refine Z5h hcp0 hca0 hcb0 hck0 rfl ?_
        refine sqr 1 rfl (pur 1 rfl ?_)
        refine Z05 ?_
        refine Z3 (sqt 10 rfl (spL rfl rfl (lfB (sz := 1) Z0U rfl) rfl (spL rfl rfl (lhI p ZV rfl rfl (hpl)) rfl (pur 1 rfl ?_))))
        refine cl rfl Z8k rfl rfl (Z4O b hok ab cb bd m p hpm l hlt hll a c _ _) ?_
        rintro _ _ _ ⟨rfl, rfl, rfl⟩
        rcases hnx : b.dsk.next p l with _ | t
        refine pur 3 rfl (alc rfl Z1G rfl (fun b13 => ?_))
        first | (refine Z1I rfl rfl rfl Z1e rfl rfl rfl (Zu _) ?_) | (refine Z1I rfl rfl rfl Z1e rfl (by rw [Z8]; exact htl) rfl (Zu _) ?_)
        refine pur 1 rfl (Z0 (sqt 2 rfl (pur 2 rfl ?_)))
        refine Zq rfl ?_
        refine Zb (Zf (ZB ?_))
        exact ZF (.inl ⟨rfl, V1, q3, hb1, ht1, hp1, hcv.more hk (fun t ht => by rw [hnx] at ht; cases ht), rfl, rfl⟩) (fun _ h => (h.del b13).ftail)
        refine pur 1 rfl ?_
        have hts := b.dsk.next_inS hdk hps hlt hnx
        have htl := hts.len
        have htlv : b.dsk.lvl n t < b.dsk.lvl n p := Z5U hdk hps hlm hnx hpk (Z1r ((b.dsk.mem_sts hdk t).2 hts) hn hfx) (by omega)
        refine pur 2 rfl (alc rfl Z1G rfl (fun b13 => ?_))
        first | (refine Z1I rfl rfl rfl Z1e rfl rfl rfl (Zu _) ?_) | (refine Z1I rfl rfl rfl Z1e rfl (by rw [Z8]; exact htl) rfl (Zu _) ?_)
        refine pur 1 rfl (Z0 (sqt 2 rfl (pur 2 rfl ?_)))
        refine ZG rfl ?_
        refine Z1 (Z0 ?_)
        refine Zi [0, 0, 0, 0, 12, 28, 63, 127] (.ld 0 (.ld 1 (.ld 2 (.ld 3 (.ld 4 (.tk 5 (.big 6 (.big 7 .done)))))))) ZH (by kernel_rfl) ?_
        refine ld rfl rfl (lfB (sz := 1) Zdo rfl) rfl (ld rfl rfl (lhI t ZV rfl rfl (htl)) rfl (ld rfl rfl (lh Z1s rfl rfl) rfl (ld rfl rfl (lhI p ZV rfl rfl (hpl)) rfl ?_)))
        refine ldK rfl rfl rfl (ZP hpl (Z12 hV14) (Z0T hp1V) (Z4Q (x := m48))) rfl ?_
        refine tk rfl (PE.sub rfl rfl (by omega)) rfl ?_
        refine clF rfl rfl (Z7j) rfl rfl (Z56 b hok ab cb bd m n hn kv hkv b4 b6 (b.dsk.lvl n p - 1) t hts _ _) ?_
        rintro _ _ _ ⟨uf, hu, rfl, rfl, rfl⟩
        obtain ⟨u0, u1, u2, u3, rfl⟩ := Z1P hu.inS.len
        have hulv : b.dsk.lvl n [u0, u1, u2, u3] < b.dsk.lvl n p := by
          rcases hu.lv with h1 | h1
          · rw [h1]; exact htlv
          · omega
        have hum := (b.dsk.mem_sts hdk _).2 hu.inS
        have hukv := hkv.get _ hum
        have hcvu : ∀ V2 : List HSt, [u0, u1, u2, u3] ∈ V2 → ∀ t2, b.dsk.next p l = some t2 → ∃ u ∈ V2, Z1A b.dsk.n t2 u = true ∧ b.dsk.lvl n u < b.dsk.lvl n p := fun V2 hm t2 ht2 => by rw [hnx] at ht2; cases ht2; exact ⟨_, hm, hu.le, hulv⟩
        obtain ⟨go, hgo⟩ : ∃ go, (kvL b.dsk n V1).get [u0, u1, u2, u3] = go := ⟨_, rfl⟩
        refine bgT ?_
        refine Z1I rfl rfl rfl Z1e rfl (by rw [Z8]; rfl) (by rw [Z8]; exact htl) (Zu _) ?_
        refine bgT (sqt 8 rfl (spL rfl rfl (lh Z1s rfl rfl) rfl (spL rfl rfl (lhI [u0, u1, u2, u3] ZV rfl rfl (rfl)) rfl ?_)))
        refine spK rfl rfl rfl (Z23 (b := true) (kvL b.dsk n V1) [u0, u1, u2, u3] Z1g (KeyT.of Z0L Z0P) (Z1O zv3) rfl (Z12 hV14) true) rfl ?_
        rw [hgo]
        refine pur 5 rfl (Z0 ?_)
        refine Zi [0, 1, 3, 7, 7, 23, 55, 119, 7, 503, 1023, 2047] (tks 0 4 (.ld 4 (.tk 5 (.tk 6 (.ld 7 (.ld 8 (.ld 9 (.tk 10 (.tk 11 .done))))))))) ZH (by kernel_rfl) ?_
        refine Zp 3 rfl ?_
        refine Zh 106 rfl ?_ ?_ <;> intro g106
        obtain rfl : go = none := by cases go with
          | none => rfl
          | some g => exact absurd g106 (by simp)
        have hun : [u0, u1, u2, u3] ∉ V1 := fun hm => by rw [Z0T hm] at hgo; cases hgo
        refine Zp 1 rfl ?_
        refine ldN rfl rfl rfl rfl rfl rfl rfl rfl ?_
        refine Zp 2 rfl ?_
        repeat refine ldN rfl rfl rfl rfl rfl rfl rfl rfl ?_
        refine Zp 2 rfl ?_
        refine Zq rfl ?_
        refine Z0 ?_
        refine Zi [0, 0, 0, 4, 12, 28, 0, 124, 255] (.ld 0 (.ld 1 (.ld 2 (.tk 3 (.tk 4 (.ld 5 (.ld 6 (.ld 7 (.big 8 .done))))))))) ZH (by kernel_rfl) ?_
        refine ld rfl rfl (lh Z1s rfl rfl) rfl (ld rfl rfl (lhI [u0, u1, u2, u3] ZV rfl rfl (rfl)) rfl (ld rfl rfl (lfB (sz := 1) Z0U rfl) rfl (tk rfl (PE.nilCheck rfl) rfl (tk rfl (PE.fA Z16 rfl) rfl (ld rfl rfl (lfB (sz := 18) Z1s (ZU hl4 hm4)) rfl (ld rfl rfl (lhI [u0, u1, u2, u3] ZV rfl rfl (rfl)) rfl ?_))))))
        refine ldK rfl rfl rfl (ZP rfl hkv.len hukv (fun w hs => hs.now (MemF.mem (f := KpF m kv)))) rfl ?_
        refine mpu (kvL b.dsk n V1) [u0, u1, u2, u3] (v := .int .i64 (b.dsk.lvl n [u0, u1, u2, u3])) rfl Z1g (KeyT.of Z0L Z0P) rfl rfl rfl rfl (Z12 hV14) ?_
        rw [Z60 hun]
        refine bgT (sqr 5 rfl (spL rfl rfl (lh Z2U rfl rfl) rfl (spL rfl rfl (lhI [u0, u1, u2, u3] ZV rfl rfl (rfl)) rfl ?_)))
        refine bsl (out := [_, _, _, _]) rfl Za6 Z1G rfl rfl rfl rfl rfl rfl (fun b126 => ?_)
        refine apQ q3 rfl ZeT rfl rfl (Z0W (row := ZI [u0, u1, u2, u3]) rfl) rfl (by simp) rfl (by rw [ZT, List.length_drop]; simp only [List.length_singleton]; omega) rfl (fun q4 => ?_)
        refine Z1b (l' := [q4.fs]) rfl rfl rfl Za9 rfl rfl rfl rfl (Nat.le_refl _) ?_
        obtain ⟨q5, e5, g5⟩ : ∃ q5 : OQ 54 4 (Zx ((V1 ++ [[u0, u1, u2, u3]]).drop (j + 1))), q5.fs = q4.fs ∧ q5.G = q4.G := ⟨q4.cast (Z3K (by omega) _), OQ.cast_fs _ _, OQ.cast_G _ _⟩
        exact ZF (.inl ⟨rfl, V1 ++ [[u0, u1, u2, u3]], q5, hb1.add (by omega) hu.inS hun (by have := hulv; omega), by rw [List.take_append_of_le_length (by omega)]; exact ht1, by rw [List.getElem?_append_left hj1]; exact hp1, (hcv.add _).more hk (hcvu _ (by simp)), rfl, rfl⟩) (fun _ h => by rw [e5, g5]; exact ((h.del b126).del b13).ftail)
        obtain ⟨g, rfl⟩ : ∃ g, go = some g := by cases go with
          | none => exact absurd g106 (by simp)
          | some g => exact ⟨g, rfl⟩
        have hui : [u0, u1, u2, u3] ∈ V1 := Classical.byContradiction fun hm => by rw [Z9k hm] at hgo; cases hgo
        obtain rfl : g = .int .i64 (b.dsk.lvl n [u0, u1, u2, u3]) := by rw [Z0T hui] at hgo; cases hgo; rfl
        refine Zp 1 rfl (ldG rfl rfl rfl rfl rfl (lfB (sz := 1) Z0U rfl) rfl ?_)
        refine tkG rfl rfl rfl rfl (PE.nilCheck rfl) rfl ?_
        refine tkG rfl rfl rfl rfl (PE.fA Z16 rfl) rfl ?_
        refine ldG rfl rfl rfl rfl rfl (lfB (sz := 18) Z1s (ZU hl4 hm4)) rfl (ldG rfl rfl rfl rfl rfl (lhI [u0, u1, u2, u3] ZV rfl rfl (rfl)) rfl ?_)
        refine Zgy rfl rfl rfl rfl rfl rfl (ZP rfl hkv.len hukv (fun w hs => hs.now (MemF.mem (f := KpF m kv)))) rfl ?_
        refine Zp 2 rfl ?_
        refine Z2 rfl ?_ ?_ <;> intro hc4
        exact absurd hc4 (by simp)
        refine Z1 ?_
        exact ZF (.inl ⟨rfl, V1, q3, hb1, ht1, hp1, hcv.more hk (hcvu V1 hui), rfl, rfl⟩) (fun _ h => (h.del b13).ftail)
        ·
         rintro _ _ _ _ ⟨rfl, rfl, V1, q3, hb1, ht1, hp1, hcv, rfl, rfl⟩
         refine Z5k ?_
         have hj1 := (List.getElem?_eq_some_iff.1 hp1).1
         have hf1 := hb1.few hdk
         exact Z3k ⟨⟨(V1, j + 1, W ++ [xn], bd0 :: mk), hb1.next hp1 hcv, hj1, by dsimp only; rw [Z3G, Z3U, hwv, ht1, Z6B hp]; show _ ++ [(xn.l, xn.d)] = _; rw [hnl, hnd]; rfl⟩, o78, q3⟩ (by dsimp only; omega) (by repeat' first | exact Sub.nil | apply Sub.cons | rfl | (simp [lk]; omega)) rfl (fun w h => St.sub ((h.del b11).perm ((ZO [_] [_, _, _] _).trans (List.Perm.append_left [_, _, _] ((List.perm_middle (l₁ := q3.G)).symm.trans (List.Perm.append_left q3.G ((List.perm_middle (l₁ := o78.G)).symm.trans (List.Perm.append_left o78.G ((List.perm_middle (l₁ := wob (W ++ [xn]))).symm.trans (List.Perm.append_left _ (List.Perm.swap _ _ _)))))))))))
       obtain rfl : j = V.length := by omega
       rw [List.take_of_length_le (Nat.le_refl _)] at hwv
       have hw := hbq.wall hok hn hfx hc1
       rw [← hwv] at hw
       have hdm : ∀ x ∈ wos W, x.d ≤ b.dsk.lvl n b.state := fun x hx => by
         have h1 := Z1q hx
         rw [hwv] at h1
         obtain ⟨v, hv, e⟩ := List.mem_map.1 h1
         have h2 := hbq.lv v hv
         have h3 : b.dsk.lvl n v = x.d := congrArg Prod.snd e
         omega
       refine Zb (Zf (Zf (ZB (sqt 3 rfl (pur 3 rfl (Z4 ?_))))))
       refine Sy.heap (H' := mkh mk ++ (o.G ++ (wob W ++ H))) (R' := R) (fun w h => St.sub (((St.drop (G := q.G) (((h.del m48).del b9).del b8)).del b1).perm ((List.Perm.append_left o.G (ZO (wob W) (mkh mk) H)).trans (ZO o.G (mkh mk) _)))) ?_
       exact ZY mk idH rfl (.cons (RV.tmp rfl) (.cons (RV.tmp rfl) .nil)) rfl (.inr (.inr ⟨hck, _, W, o, hc1, hks, hw, by omega, hdm, rfl, rfl, rfl⟩)) idH
    refine Zs ?_ ?_
    ·
     refine alc rfl Zfv rfl (fun b8 => bgT ?_)
     refine bsl (out := [_, _, _, _]) rfl Za6 Z1G rfl rfl rfl rfl rfl rfl (fun b47 => ?_)
     refine bgT ?_
     refine sto rfl rfl rfl Za9 rfl rfl rfl rfl ?_
     refine bgT (Z0 ?_)
     refine Z2Q (ι := {x : (Nat × Nat × Nat × Nat) × HSt // Rz b.dsk n (b.dsk.lvl n b.state) b.state x.2}) (fun x => ⟨[(1, .pointer (some ⟨b1, 0, none⟩)), (4, .pointer (some ⟨b4, 0, none⟩)), (6, .pointer (some ⟨b6, 0, none⟩)), (8, .pointer (some ⟨x.1.1.1, 0, none⟩)), (9, .pointer (some ⟨x.1.1.2.1, 0, none⟩))], (x.1.1.1, cel 60 [.slice (some ⟨x.1.1.2.2.2, 0, none⟩) 1 1]) :: (x.1.1.2.1, cel 55 [.map (some x.1.1.2.2.1)]) :: (x.1.1.2.2.1, Z0g true [(x.1.2, .int .i64 (b.dsk.lvl n b.state))]) :: (x.1.1.2.2.2, cel 54 (ZI x.1.2)) :: (b1, cel 27 (btl b (b.sl ab cb))) :: H, Z5 (some ⟨b6, 0, none⟩) 1 [[.func (.func 15) #[] #[.pointer (some ⟨b4, 0, none⟩), .pointer (some ⟨b6, 0, none⟩)]]] :: Z5 (some ⟨b4, 0, none⟩) 1 [[.pointer (some ⟨bd, 0, none⟩)]] :: KpF m kv :: Z5 (some ⟨bd, 0, none⟩) 18 [dcs b (b.sl ab cb) b.lasts b.most m] :: R⟩) ?_ ?_
     refine Zi [0, 0, 2, 6, 0, 16, 48, 112, 0, 496, 1023, 2047, 0, 8191] (.ld 1 (.tk 2 (.ld 3 (.ld 4 (.tk 5 (.tk 6 (.ld 7 (.ld 8 (.ld 9 (.any (.alt 0 (.any (.alt 10 (.tk 11 (.big 12 (.big 13 .done))) (.alt 12 (.big 10 (.tk 11 (.big 13 .done))) .stop))) (.alt 12 (.big 0 (.big 10 (.tk 11 (.big 13 .done)))) .stop)))))))))))) ZH (by kernel_rfl) ?_
     refine ld rfl rfl (lh Z2U rfl rfl) rfl (tk rfl (PE.indexAddr ZaZ rfl rfl (by decide) (by decide)) rfl (ld rfl rfl (lhI [f0, f1, f2, f3] ZV rfl rfl (rfl)) rfl (ld rfl rfl (lfB (sz := 1) Z0U rfl) rfl (tk rfl (PE.nilCheck rfl) rfl (tk rfl (PE.fA Z16 rfl) rfl (ld rfl rfl (lfB (sz := 18) Z1s (ZU hl4 hm4)) rfl (ld rfl rfl (lhI b.state ZV rfl rfl (hsi.len)) rfl ?_)))))))
     refine ldK rfl rfl rfl (ZP hsi.len hkv.len hkg (fun w hs => hs.now (MemF.mem (f := KpF m kv)))) rfl ?_
     refine Zs ?_ ?_
     refine mkm rfl rfl true (fun m48 => ?_)
     refine bg (fun w hs => ⟨(ZP hsi.len hkv.len hkg (fun w hs => hs.now (MemF.mem (f := KpF m kv)))) w hs, (lhI b.state ZV rfl rfl (hsi.len)) w hs, (lfB (sz := 18) Z1s (ZU hl4 hm4)) w hs, (lfB (sz := 1) Z0U rfl) w hs, (lhI [f0, f1, f2, f3] ZV rfl rfl (rfl)) w hs, (lh Z2U rfl rfl) w hs, trivial⟩) ?_
     refine Zs ?_ ?_
     refine mpi [] [f0, f1, f2, f3] rfl Z1g (KeyT.of Z0L Z0P) rfl rfl rfl rfl (by simp) ?_
     refine bgT (Zp 1 rfl (alc rfl ZcV rfl (fun b9 => bgT ?_)))
     refine sto rfl rfl rfl ZcB rfl rfl rfl rfl ?_
     refine bgT ?_
     exact Za ⟨((b8, b9, m48, b47), [f0, f1, f2, f3]), huf⟩ (fun w h => (((((h.pull b1).pull b47).pull m48).pull b9).pull b8 |>.del b7))
     refine Zs ?_ ?_
     refine alc rfl ZcV rfl (fun b9 => ?_)
     refine bg (fun w hs => ⟨(ZP hsi.len hkv.len hkg (fun w hs => hs.now (MemF.mem (f := KpF m kv)))) w hs, (lhI b.state ZV rfl rfl (hsi.len)) w hs, (lfB (sz := 18) Z1s (ZU hl4 hm4)) w hs, (lfB (sz := 1) Z0U rfl) w hs, (lhI [f0, f1, f2, f3] ZV rfl rfl (rfl)) w hs, (lh Z2U rfl rfl) w hs, trivial⟩) ?_
     refine mpi [] [f0, f1, f2, f3] rfl Z1g (KeyT.of Z0L Z0P) rfl rfl rfl rfl (by simp) ?_
     refine bgT (Zp 1 rfl ?_)
     refine sto rfl rfl rfl ZcB rfl rfl rfl rfl ?_
     refine bgT ?_
     exact Za ⟨((b8, b9, m48, b47), [f0, f1, f2, f3]), huf⟩ (fun w h => (((((h.pull b1).pull b47).pull m48).pull b9).pull b8 |>.del b7))
     exact ZN
     refine Zs ?_ ?_
     refine alc rfl ZcV rfl (fun b9 => ?_)
     refine bg (fun w hs => ⟨(ZP hsi.len hkv.len hkg (fun w hs => hs.now (MemF.mem (f := KpF m kv)))) w hs, (lhI b.state ZV rfl rfl (hsi.len)) w hs, (lfB (sz := 18) Z1s (ZU hl4 hm4)) w hs, (lfB (sz := 1) Z0U rfl) w hs, (lhI [f0, f1, f2, f3] ZV rfl rfl (rfl)) w hs, (lh Z2U rfl rfl) w hs, trivial⟩) ?_
     refine mkm rfl rfl true (fun m48 => ?_)
     refine bg (fun w hs => ⟨(ZP hsi.len hkv.len hkg (fun w hs => hs.now (MemF.mem (f := KpF m kv)))) w hs, (lhI b.state ZV rfl rfl (hsi.len)) w hs, (lfB (sz := 18) Z1s (ZU hl4 hm4)) w hs, (lfB (sz := 1) Z0U rfl) w hs, (lhI [f0, f1, f2, f3] ZV rfl rfl (rfl)) w hs, (lh Z2U rfl rfl) w hs, trivial⟩) ?_
     refine mpi [] [f0, f1, f2, f3] rfl Z1g (KeyT.of Z0L Z0P) rfl rfl rfl rfl (by simp) ?_
     refine bgT (Zp 1 rfl ?_)
     refine sto rfl rfl rfl ZcB rfl rfl rfl rfl ?_
     refine bgT ?_
     exact Za ⟨((b8, b9, m48, b47), [f0, f1, f2, f3]), huf⟩ (fun w h => (((((h.pull b1).pull b47).pull m48).pull b9).pull b8 |>.del b7))
     exact ZN
     ·
      rintro ⟨⟨⟨b8, b9, m48, b47⟩, uf⟩, huf⟩
      dsimp only at huf ⊢
      obtain ⟨f0, f1, f2, f3, rfl⟩ := Z1P huf.inS.len
      have hfl : b.dsk.lvl n [f0, f1, f2, f3] = b.dsk.lvl n b.state := by
        have h1 := Z6u hdk hn hfx hsi huf.inS huf.le
        have h2 := (Bq.start huf).lv [f0, f1, f2, f3] (by simp)
        omega
      refine sqt 1 rfl (pur 1 rfl (Z0 (Z3 ?_)))
      obtain ⟨q0, hq0, hqG⟩ := OQ.one (e := 54) (sz := 4) b47 (row := ZI [f0, f1, f2, f3]) rfl
      obtain ⟨q1, hq1, hqG1⟩ : ∃ q1 : OQ 54 4 (Zx (([[f0, f1, f2, f3]] : List HSt).drop 0)), q1.fs = .slice (some ⟨b47, 0, none⟩) 1 1 ∧ q1.G = [(b47, cel 54 (ZI [f0, f1, f2, f3]))] := ⟨q0, hq0, hqG⟩
      refine Sy.heap (H' := (b8, cel 60 [q1.fs]) :: (b9, cel 55 [.map (some m48)]) :: (m48, Z0g true (kvL b.dsk n [[f0, f1, f2, f3]])) :: (q1.G ++ ((OSl.nil 37 2).G ++ (wob [] ++ (b1, cel 27 (btl b (b.sl ab cb))) :: (mkh [] ++ H))))) (R' := Z5 (some ⟨b6, 0, none⟩) 1 [[.func (.func 15) #[] #[.pointer (some ⟨b4, 0, none⟩), .pointer (some ⟨b6, 0, none⟩)]]] :: Z5 (some ⟨b4, 0, none⟩) 1 [[.pointer (some ⟨bd, 0, none⟩)]] :: KpF m kv :: Z5 (some ⟨bd, 0, none⟩) 18 [dcs b (b.sl ab cb) b.lasts b.most m] :: R) (fun w h => by
        rw [hq1, hqG1, show kvL b.dsk n [[f0, f1, f2, f3]] = [([f0, f1, f2, f3], .int .i64 (b.dsk.lvl n b.state))] by unfold kvL; simp [hfl]]
        exact (show St ((b8, cel 60 [.slice (some ⟨b47, 0, none⟩) 1 1]) :: (b9, cel 55 [.map (some m48)]) :: (m48, Z0g true [([f0, f1, f2, f3], .int .i64 (b.dsk.lvl n b.state))]) :: (b47, cel 54 (ZI [f0, f1, f2, f3])) :: (b1, cel 27 (btl b (b.sl ab cb))) :: H) _ w from h)) ?_
      refine Z3j (ι := (y : {y : List HSt × Nat × List WO × List Nat // Bq b.dsk n b.state y.1 y.2.1 ∧ y.2.1 ≤ y.1.length ∧ wls (wos y.2.2.1) = wlV b.dsk n (y.1.take y.2.1)}) × (OSl 37 2 (ZC (wos y.1.2.2.1)) × OQ 54 4 (Zx (y.1.1.drop y.1.2.1)))) (fun y => ⟨[(1, .pointer (some ⟨b1, 0, none⟩)), (4, .pointer (some ⟨b4, 0, none⟩)), (6, .pointer (some ⟨b6, 0, none⟩)), (8, .pointer (some ⟨b8, 0, none⟩)), (9, .pointer (some ⟨b9, 0, none⟩)), (10, y.2.1.fs)], mks y.1.1.2.2.2, (b8, cel 60 [y.2.2.fs]) :: (b9, cel 55 [.map (some m48)]) :: (m48, Z0g true (kvL b.dsk n y.1.1.1)) :: (y.2.2.G ++ (y.2.1.G ++ (wob y.1.1.2.2.1 ++ (b1, cel 27 (btl b (b.sl ab cb))) :: (mkh y.1.1.2.2.2 ++ H)))), Z5 (some ⟨b6, 0, none⟩) 1 [[.func (.func 15) #[] #[.pointer (some ⟨b4, 0, none⟩), .pointer (some ⟨b6, 0, none⟩)]]] :: Z5 (some ⟨b4, 0, none⟩) 1 [[.pointer (some ⟨bd, 0, none⟩)]] :: KpF m kv :: Z5 (some ⟨bd, 0, none⟩) 18 [dcs b (b.sl ab cb) b.lasts b.most m] :: R⟩) (fun y => b.dsk.nst - y.1.1.2.1) ⟨⟨([[f0, f1, f2, f3]], 0, [], []), Bq.start huf, Nat.zero_le _, rfl⟩, OSl.nil _ _, q1⟩ ?_ (fun y => ?_)
      exact Z7t (by repeat' first | exact Sub.nil | apply Sub.cons | rfl | (simp [lk]; omega)) rfl idH
      ·
       obtain ⟨⟨⟨V, j, W, mk⟩, hbq, hjv, hwv⟩, o, q⟩ := y
       dsimp only at hbq hjv hwv o q ⊢
       have hfew := hbq.few hdk
       have hWl : W.length = j := by have := congrArg List.length hwv; unfold wlV at this; rw [Z0F, Z2u, List.length_map, List.length_take] at this; omega
       have hqs : q.fs = .slice (some ⟨q.b, q.off, none⟩) (V.length - j) q.cap := by unfold OQ.fs; rw [ZT, List.length_drop]
       rw [hqs]
       refine Z0 (sqt 3 rfl (spL rfl rfl (lh Z2U rfl rfl) rfl (sp rfl (PE.lenSl Z78 rfl) rfl (pur 1 rfl ?_))))
       refine Z2 rfl ?_ ?_ <;> intro hc2 <;> try simp only [cS] at hc2
       ·
        obtain ⟨p, hp⟩ : ∃ p, V[j]? = some p := ⟨_, List.getElem?_eq_getElem (by omega)⟩
        have hpV := List.mem_of_getElem? hp
        have hps := hbq.sts p hpV
        have hpl := hps.len
        have hpm := b.dsk.inS_sml hdk hps
        have hplv := hbq.lv p hpV
        have hpk := Z1r ((b.dsk.mem_sts hdk p).2 hps) hn hfx
        have hpr := Z2i hpk
        have hpe : (ZI p).length = 4 := by rw [Z8]; exact hpl
        have hV4 : ∀ s ∈ V, s.length = 4 := fun s hs => (hbq.sts s hs).len
        refine Sy.heap (H' := (b8, cel 60 [.slice (some ⟨q.b, q.off, none⟩) (V.length - j) q.cap]) :: (b9, cel 55 [.map (some m48)]) :: (m48, Z0g true (kvL b.dsk n V)) :: (q.b, cel 54 (q.pre ++ ((Zx (V.drop j)).flatten ++ q.junk))) :: (o.G ++ (wob W ++ (b1, cel 27 (btl b (b.sl ab cb))) :: (mkh mk ++ H)))) idH ?_
        have hdr : (q.pre ++ ((Zx (V.drop j)).flatten ++ q.junk)).drop (q.off + (0 : Int).toNat * 4) = ZI p ++ ((Zx (V.drop (j + 1))).flatten ++ q.junk) := by
          have hfl : (Zx (V.drop j)).flatten = ZI p ++ (Zx (V.drop (j + 1))).flatten := by rw [ZS hp, List.flatten_cons]
          rw [hfl, show q.off + (0 : Int).toNat * 4 = q.pre.length by rw [q.pl]; simp, List.drop_left, List.append_assoc]
        obtain ⟨q2, hq2, hqG2⟩ := (q.cast (ZS hp)).pop
        have hqc : (q.cast (ZS hp)).b = q.b ∧ (q.cast (ZS hp)).off = q.off ∧ (q.cast (ZS hp)).cap = q.cap := by
          generalize ZS hp = e
          generalize ZI p :: Zx (V.drop (j + 1)) = r at e
          subst e; exact ⟨rfl, rfl, rfl⟩
        rw [hqc.1, hqc.2.1, hqc.2.2, ZT, List.length_drop] at hq2
        rw [OQ.cast_G] at hqG2
        refine Z1 (Z3 (sqt 5 rfl (spL rfl rfl (lh Z2U rfl rfl) rfl (sp rfl (PE.indexAddr ZaZ rfl rfl (by omega) (by omega)) rfl (spL rfl rfl (lhA (ZI p) ZV rfl hdr hpe) rfl (alc rfl Z1G rfl (fun b11 => ?_)))))))
        refine Z1I rfl rfl rfl Z1e rfl (by rw [Z8]; exact hpl) rfl (Zu _) ?_
        refine sqt 3 rfl (spL rfl rfl (lh Z2U rfl rfl) rfl (sp rfl (PE.slLoA (l := 1) Za6 rfl rfl (by omega)) rfl ?_))
        have hq2e : Value.slice (if q.cap = 1 then some ⟨q.b, q.off, none⟩ else (some (⟨q.b, q.off, none⟩ : Addr)).map (·.add (1 * 4))) (V.length - j - 1) (q.cap - 1) = q2.fs := by
          rw [hq2, Option.map_some, Z0p, show V.length - (j + 1) = V.length - j - 1 by omega]
        rw [hq2e]
        refine Z1b (l' := [q2.fs]) rfl rfl rfl Za9 rfl rfl rfl rfl (Nat.le_refl _) ?_
        refine Sy.heap (H' := (b11, cel 54 (ZI p)) :: (b8, cel 60 [q2.fs]) :: (b9, cel 55 [.map (some m48)]) :: (m48, Z0g true (kvL b.dsk n V)) :: (q2.G ++ (o.G ++ (wob W ++ (b1, cel 27 (btl b (b.sl ab cb))) :: (mkh mk ++ H))))) (fun w h => by rw [hqG2]; exact h) ?_
        refine Z0 ?_
        refine Zi [0, 0, 2, 6, 14, 30, 0, 0, 192, 510, 1022, 2047, 4095] (.tk 0 (.tk 1 (.ld 2 (.tk 3 (.tk 4 (.ld 6 (.ld 7 (.ld 8 (.big 5 (.tk 9 (.big 10 (.big 11 (.tk 12 .done))))))))))))) ZH (by kernel_rfl) ?_
        refine Zp 1 rfl (tk rfl (PE.fA ZE rfl) rfl (ld rfl rfl (lh Z0C rfl rfl) rfl (tk rfl (PE.lenSl Z0M rfl) rfl (tk rfl (PE.slArrHi (h := b.bins.length) Z2G rfl rfl (by omega)) rfl (ld rfl rfl (lh Z1s rfl rfl) rfl (ld rfl rfl (lhI p ZV rfl rfl (hpl)) rfl ?_))))))
        refine ldK rfl rfl rfl (ZP hpl (Z12 hV4) (Z0T hpV) (Z4Q (x := m48))) rfl ?_
        refine cl rfl ZdV rfl rfl (Z7U b11 54 b.bins.length 4 p (by omega) (by omega) _ _) ?_
        rintro _ _ _ ⟨ol, rfl, rfl, rfl⟩
        obtain ⟨xn, hnl, hnd, hnf, hnG⟩ := OSl.wo (p.take b.bins.length) (b.dsk.lvl n p) ol (by
          obtain ⟨ay, cy, jk, h1, _⟩ := ol.is.resolve_left (fun h => by have := congrArg List.length h.1; rw [Zd, List.length_take, hpl] at this; simp only [List.length_nil] at this; omega)
          exact ⟨ay, cy, h1.trans (by first | rfl | simp)⟩)
        rw [hnf]
        refine Sy.heap (fun w h => by rw [hnG] at h; exact h) ?_
        refine bg (fun w hs => ⟨(ZP hpl (Z12 hV4) (Z0T hpV) (Z4Q (x := m48))) w hs, (lhI p ZV rfl rfl (hpl)) w hs, (lh Z1s rfl rfl) w hs, trivial, trivial⟩) ?_
        refine tk rfl (PE.build (out := [_, _]) Zfs Z7c rfl rfl) rfl ?_
        refine bsl (out := [_, _]) rfl Zeg Z7c rfl rfl rfl rfl rfl rfl (fun b77 => ?_)
        refine bgT ?_
        refine apO (o) rfl Zgv rfl rfl (Z0W (row := [.slice (some ⟨xn.b, 0, none⟩) xn.l.length xn.cap, .int .i64 (b.dsk.lvl n p)]) rfl) rfl rfl ((by rw [ZM, Z2u]; simp only [List.length_singleton]; omega)) rfl (fun o78 => ?_)
        refine bgT (Zp 1 rfl (sqt 2 rfl ?_))
        obtain ⟨o78, e78, g78⟩ : ∃ o' : OSl 37 2 (ZC (wos (W ++ [xn]))), o'.fs = o78.fs ∧ o'.G = o78.G := ⟨o78.cast (by rw [Z3G, Z1T, ← hnd]; rfl), rfl, rfl⟩
        rw [← e78]
        refine Sy.heap (H' := (b11, cel 54 (ZI p)) :: (b8, cel 60 [q2.fs]) :: (b9, cel 55 [.map (some m48)]) :: (m48, Z0g true (kvL b.dsk n V)) :: (q2.G ++ (o78.G ++ (wob (W ++ [xn]) ++ (b1, cel 27 (btl b (b.sl ab cb))) :: (mkh mk ++ H))))) (R' := Z5 (some ⟨b6, 0, none⟩) 1 [[.func (.func 15) #[] #[.pointer (some ⟨b4, 0, none⟩), .pointer (some ⟨b6, 0, none⟩)]]] :: Z5 (some ⟨b4, 0, none⟩) 1 [[.pointer (some ⟨bd, 0, none⟩)]] :: KpF m kv :: Z5 (some ⟨bd, 0, none⟩) 18 [dcs b (b.sl ab cb) b.lasts b.most m] :: R) (fun w h => by rw [← g78] at h; exact St.sub ((h.del b77).perm Z3V)) ?_
        clear e78 g78
        refine spL rfl rfl (lfB (sz := 1) Z0U rfl) rfl ?_
        refine cl rfl Z8o rfl rfl (Z1j bd false _ _) ?_
        rintro _ _ _ ⟨xb, xf, rfl, rfl, rfl⟩
        refine Z3 ?_
        refine Z1x rfl Z8s (fun c0 bl0 bd0 hcp0 hca0 hcb0 hck0 => ?_)
        refine ⟨fun st pend T R' => st = .ready ∧ pend = none ∧ ∃ (V' : List HSt) (q' : OQ 54 4 (Zx (V'.drop (j + 1)))), Bq b.dsk n b.state V' j ∧ V'.take (j + 1) = V.take (j + 1) ∧ V'[j]? = some p ∧ CvK b.dsk n V' p ((b.dsk.trs false).length) ∧ T = (bd0, .deferred (some [])) :: (b11, cel 54 (ZI p)) :: (b8, cel 60 [q'.fs]) :: (b9, cel 55 [.map (some m48)]) :: (m48, Z0g true (kvL b.dsk n V')) :: (q'.G ++ (o78.G ++ (wob (W ++ [xn]) ++ (b1, cel 27 (btl b (b.sl ab cb))) :: (mkh mk ++ H)))) ∧ R' = Z5 (some ⟨xf, 0, none⟩) 1 [[.bool false]] :: Z5 (some ⟨xb, 0, none⟩) 1 [[.pointer (some ⟨bd, 0, none⟩)]] :: Z5 (some ⟨b6, 0, none⟩) 1 [[.func (.func 15) #[] #[.pointer (some ⟨b4, 0, none⟩), .pointer (some ⟨b6, 0, none⟩)]]] :: Z5 (some ⟨b4, 0, none⟩) 1 [[.pointer (some ⟨bd, 0, none⟩)]] :: KpF m kv :: Z5 (some ⟨bd, 0, none⟩) 18 [dcs b (b.sl ab cb) b.lasts b.most m] :: R,
          Fn.mono (Z10 b hok ab cb bd m false xb xf bl0 (fun k H' R' => ∃ (V' : List HSt) (q' : OQ 54 4 (Zx (V'.drop (j + 1)))), Bq b.dsk n b.state V' j ∧ V'.take (j + 1) = V.take (j + 1) ∧ V'[j]? = some p ∧ CvK b.dsk n V' p (k) ∧ H' = (bl0, lob c0 .ready none) :: (bd0, .deferred (some [])) :: (b11, cel 54 (ZI p)) :: (b8, cel 60 [q'.fs]) :: (b9, cel 55 [.map (some m48)]) :: (m48, Z0g true (kvL b.dsk n V')) :: (q'.G ++ (o78.G ++ (wob (W ++ [xn]) ++ (b1, cel 27 (btl b (b.sl ab cb))) :: (mkh mk ++ H)))) ∧ R' = Z5 (some ⟨xf, 0, none⟩) 1 [[.bool false]] :: Z5 (some ⟨xb, 0, none⟩) 1 [[.pointer (some ⟨bd, 0, none⟩)]] :: Z5 (some ⟨b6, 0, none⟩) 1 [[.func (.func 15) #[] #[.pointer (some ⟨b4, 0, none⟩), .pointer (some ⟨b6, 0, none⟩)]]] :: Z5 (some ⟨b4, 0, none⟩) 1 [[.pointer (some ⟨bd, 0, none⟩)]] :: KpF m kv :: Z5 (some ⟨bd, 0, none⟩) 18 [dcs b (b.sl ab cb) b.lasts b.most m] :: R)
            (fun _ _ => False)
            (fun k H' R' h => by obtain ⟨_, _, _, _, _, _, _, rfl⟩ := h; exact ⟨by simp, by simp, by simp⟩) (fun k l a c H' R' hk hI => ?_) _ _ ⟨V, q2, hbq, rfl, hp, fun i l hi => absurd hi (Nat.not_lt_zero _), rfl, rfl⟩) (fun v H' R' h => ?_), ?_⟩
        rotate_left
        · rcases h with ⟨V', q', h1, h2, h3, h4, rfl, rfl⟩ | h
          · exact ⟨.ready, none, _, by simp, .refl _, rfl, rfl, V', q', h1, h2, h3, h4, rfl, rfl⟩
          · exact h.elim
        rotate_left
        have hlm := List.mem_of_getElem? hk
        have hlt := b.dsk.trs_lt hlm
        have hll : l.length ≤ 1000000 := by
          obtain ⟨i, _, rfl⟩ := List.mem_map.1 (List.mem_filter.1 hlm).1
          have := Z18 b.dsk.n i
          have := hdk.n
          omega
        obtain ⟨V1, q3, hb1, ht1, hp1, hcv, rfl, rfl⟩ := hI
        have hj1 := (List.getElem?_eq_some_iff.1 hp1).1
        have hf1 := hb1.few hdk
        have hp1V := List.mem_of_getElem? hp1
        have hV14 : ∀ s ∈ V1, s.length = 4 := fun s hs => (hb1.sts s hs).len
        refine Z5h hcp0 hca0 hcb0 hck0 rfl ?_
        refine sqr 1 rfl (pur 1 rfl ?_)
        refine Z05 ?_
        refine Z3 (sqt 10 rfl (spL rfl rfl (lfB (sz := 1) Z0U rfl) rfl (spL rfl rfl (lhI p ZV rfl rfl (hpl)) rfl (pur 1 rfl ?_))))
        refine cl rfl Z8k rfl rfl (Z4O b hok ab cb bd m p hpm l hlt hll a c _ _) ?_
        rintro _ _ _ ⟨rfl, rfl, rfl⟩
        rcases hnx : b.dsk.next p l with _ | t
        refine pur 3 rfl (alc rfl Z1G rfl (fun b13 => ?_))
        first | (refine Z1I rfl rfl rfl Z1e rfl rfl rfl (Zu _) ?_) | (refine Z1I rfl rfl rfl Z1e rfl (by rw [Z8]; exact htl) rfl (Zu _) ?_)
        refine pur 1 rfl (Z0 (sqt 2 rfl (pur 2 rfl ?_)))
        refine Zq rfl ?_
        refine Zb (Zf (ZB ?_))
        exact ZF (.inl ⟨rfl, V1, q3, hb1, ht1, hp1, hcv.more hk (fun t ht => by rw [hnx] at ht; cases ht), rfl, rfl⟩) (fun _ h => (h.del b13).ftail)
        refine pur 1 rfl ?_
        have hts := b.dsk.next_inS hdk hps hlt hnx
        have htl := hts.len
        have htlv : b.dsk.lvl n t < b.dsk.lvl n p := Z5U hdk hps hlm hnx hpk (Z1r ((b.dsk.mem_sts hdk t).2 hts) hn hfx) (by omega)
        refine pur 2 rfl (alc rfl Z1G rfl (fun b13 => ?_))
        first | (refine Z1I rfl rfl rfl Z1e rfl rfl rfl (Zu _) ?_) | (refine Z1I rfl rfl rfl Z1e rfl (by rw [Z8]; exact htl) rfl (Zu _) ?_)
        refine pur 1 rfl (Z0 (sqt 2 rfl (pur 2 rfl ?_)))
        refine ZG rfl ?_
        refine Z1 (Z0 ?_)
        refine Zi [0, 0, 0, 0, 12, 28, 63, 127] (.ld 0 (.ld 1 (.ld 2 (.ld 3 (.ld 4 (.tk 5 (.big 6 (.big 7 .done)))))))) ZH (by kernel_rfl) ?_
        refine ld rfl rfl (lfB (sz := 1) Zdo rfl) rfl (ld rfl rfl (lhI t ZV rfl rfl (htl)) rfl (ld rfl rfl (lh Z1s rfl rfl) rfl (ld rfl rfl (lhI p ZV rfl rfl (hpl)) rfl ?_)))
        refine ldK rfl rfl rfl (ZP hpl (Z12 hV14) (Z0T hp1V) (Z4Q (x := m48))) rfl ?_
        refine tk rfl (PE.sub rfl rfl (by omega)) rfl ?_
        refine clF rfl rfl (Z7j) rfl rfl (Z56 b hok ab cb bd m n hn kv hkv b4 b6 (b.dsk.lvl n p - 1) t hts _ _) ?_
        rintro _ _ _ ⟨uf, hu, rfl, rfl, rfl⟩
        obtain ⟨u0, u1, u2, u3, rfl⟩ := Z1P hu.inS.len
        have hulv : b.dsk.lvl n [u0, u1, u2, u3] < b.dsk.lvl n p := by
          rcases hu.lv with h1 | h1
          · rw [h1]; exact htlv
          · omega
        have hum := (b.dsk.mem_sts hdk _).2 hu.inS
        have hukv := hkv.get _ hum
        have hcvu : ∀ V2 : List HSt, [u0, u1, u2, u3] ∈ V2 → ∀ t2, b.dsk.next p l = some t2 → ∃ u ∈ V2, Z1A b.dsk.n t2 u = true ∧ b.dsk.lvl n u < b.dsk.lvl n p := fun V2 hm t2 ht2 => by rw [hnx] at ht2; cases ht2; exact ⟨_, hm, hu.le, hulv⟩
        obtain ⟨go, hgo⟩ : ∃ go, (kvL b.dsk n V1).get [u0, u1, u2, u3] = go := ⟨_, rfl⟩
        refine bgT ?_
        refine Z1I rfl rfl rfl Z1e rfl (by rw [Z8]; rfl) (by rw [Z8]; exact htl) (Zu _) ?_
        refine bgT (sqt 8 rfl (spL rfl rfl (lh Z1s rfl rfl) rfl (spL rfl rfl (lhI [u0, u1, u2, u3] ZV rfl rfl (rfl)) rfl ?_)))
        refine spK rfl rfl rfl (Z23 (b := true) (kvL b.dsk n V1) [u0, u1, u2, u3] Z1g (KeyT.of Z0L Z0P) (Z1O zv3) rfl (Z12 hV14) true) rfl ?_
        rw [hgo]
        refine pur 5 rfl (Z0 ?_)
        refine Zi [0, 1, 3, 7, 7, 23, 55, 119, 7, 503, 1023, 2047] (tks 0 4 (.ld 4 (.tk 5 (.tk 6 (.ld 7 (.ld 8 (.ld 9 (.tk 10 (.tk 11 .done))))))))) ZH (by kernel_rfl) ?_
        refine Zp 3 rfl ?_
        refine Zh 106 rfl ?_ ?_ <;> intro g106
        obtain rfl : go = none := by cases go with
          | none => rfl
          | some g => exact absurd g106 (by simp)
        have hun : [u0, u1, u2, u3] ∉ V1 := fun hm => by rw [Z0T hm] at hgo; cases hgo
        refine Zp 1 rfl ?_
        refine ldN rfl rfl rfl rfl rfl rfl rfl rfl ?_
        refine Zp 2 rfl ?_
        repeat refine ldN rfl rfl rfl rfl rfl rfl rfl rfl ?_
        refine Zp 2 rfl ?_
        refine Zq rfl ?_
        refine Z0 ?_
        refine Zi [0, 0, 0, 4, 12, 28, 0, 124, 255] (.ld 0 (.ld 1 (.ld 2 (.tk 3 (.tk 4 (.ld 5 (.ld 6 (.ld 7 (.big 8 .done))))))))) ZH (by kernel_rfl) ?_
        refine ld rfl rfl (lh Z1s rfl rfl) rfl (ld rfl rfl (lhI [u0, u1, u2, u3] ZV rfl rfl (rfl)) rfl (ld rfl rfl (lfB (sz := 1) Z0U rfl) rfl (tk rfl (PE.nilCheck rfl) rfl (tk rfl (PE.fA Z16 rfl) rfl (ld rfl rfl (lfB (sz := 18) Z1s (ZU hl4 hm4)) rfl (ld rfl rfl (lhI [u0, u1, u2, u3] ZV rfl rfl (rfl)) rfl ?_))))))
        refine ldK rfl rfl rfl (ZP rfl hkv.len hukv (fun w hs => hs.now (MemF.mem (f := KpF m kv)))) rfl ?_
        refine mpu (kvL b.dsk n V1) [u0, u1, u2, u3] (v := .int .i64 (b.dsk.lvl n [u0, u1, u2, u3])) rfl Z1g (KeyT.of Z0L Z0P) rfl rfl rfl rfl (Z12 hV14) ?_
        rw [Z60 hun]
        refine bgT (sqr 5 rfl (spL rfl rfl (lh Z2U rfl rfl) rfl (spL rfl rfl (lhI [u0, u1, u2, u3] ZV rfl rfl (rfl)) rfl ?_)))
        refine bsl (out := [_, _, _, _]) rfl Za6 Z1G rfl rfl rfl rfl rfl rfl (fun b126 => ?_)
        refine apQ q3 rfl ZeT rfl rfl (Z0W (row := ZI [u0, u1, u2, u3]) rfl) rfl (by simp) rfl (by rw [ZT, List.length_drop]; simp only [List.length_singleton]; omega) rfl (fun q4 => ?_)
        refine Z1b (l' := [q4.fs]) rfl rfl rfl Za9 rfl rfl rfl rfl (Nat.le_refl _) ?_
        obtain ⟨q5, e5, g5⟩ : ∃ q5 : OQ 54 4 (Zx ((V1 ++ [[u0, u1, u2, u3]]).drop (j + 1))), q5.fs = q4.fs ∧ q5.G = q4.G := ⟨q4.cast (Z3K (by omega) _), OQ.cast_fs _ _, OQ.cast_G _ _⟩
        exact ZF (.inl ⟨rfl, V1 ++ [[u0, u1, u2, u3]], q5, hb1.add (by omega) hu.inS hun (by have := hulv; omega), by rw [List.take_append_of_le_length (by omega)]; exact ht1, by rw [List.getElem?_append_left hj1]; exact hp1, (hcv.add _).more hk (hcvu _ (by simp)), rfl, rfl⟩) (fun _ h => by rw [e5, g5]; exact ((h.del b126).del b13).ftail)
        obtain ⟨g, rfl⟩ : ∃ g, go = some g := by cases go with
          | none => exact absurd g106 (by simp)
          | some g => exact ⟨g, rfl⟩
        have hui : [u0, u1, u2, u3] ∈ V1 := Classical.byContradiction fun hm => by rw [Z9k hm] at hgo; cases hgo
        obtain rfl : g = .int .i64 (b.dsk.lvl n [u0, u1, u2, u3]) := by rw [Z0T hui] at hgo; cases hgo; rfl
        refine Zp 1 rfl (ldG rfl rfl rfl rfl rfl (lfB (sz := 1) Z0U rfl) rfl ?_)
        refine tkG rfl rfl rfl rfl (PE.nilCheck rfl) rfl ?_
        refine tkG rfl rfl rfl rfl (PE.fA Z16 rfl) rfl ?_
        refine ldG rfl rfl rfl rfl rfl (lfB (sz := 18) Z1s (ZU hl4 hm4)) rfl (ldG rfl rfl rfl rfl rfl (lhI [u0, u1, u2, u3] ZV rfl rfl (rfl)) rfl ?_)
        refine Zgy rfl rfl rfl rfl rfl rfl (ZP rfl hkv.len hukv (fun w hs => hs.now (MemF.mem (f := KpF m kv)))) rfl ?_
        refine Zp 2 rfl ?_
        refine Z2 rfl ?_ ?_ <;> intro hc4
        exact absurd hc4 (by simp)
        refine Z1 ?_
        exact ZF (.inl ⟨rfl, V1, q3, hb1, ht1, hp1, hcv.more hk (hcvu V1 hui), rfl, rfl⟩) (fun _ h => (h.del b13).ftail)
        ·
         rintro _ _ _ _ ⟨rfl, rfl, V1, q3, hb1, ht1, hp1, hcv, rfl, rfl⟩
         refine Z5k ?_
         have hj1 := (List.getElem?_eq_some_iff.1 hp1).1
         have hf1 := hb1.few hdk
         exact Z3k ⟨⟨(V1, j + 1, W ++ [xn], bd0 :: mk), hb1.next hp1 hcv, hj1, by dsimp only; rw [Z3G, Z3U, hwv, ht1, Z6B hp]; show _ ++ [(xn.l, xn.d)] = _; rw [hnl, hnd]; rfl⟩, o78, q3⟩ (by dsimp only; omega) (by repeat' first | exact Sub.nil | apply Sub.cons | rfl | (simp [lk]; omega)) rfl (fun w h => St.sub ((h.del b11).perm ((ZO [_] [_, _, _] _).trans (List.Perm.append_left [_, _, _] ((List.perm_middle (l₁ := q3.G)).symm.trans (List.Perm.append_left q3.G ((List.perm_middle (l₁ := o78.G)).symm.trans (List.Perm.append_left o78.G ((List.perm_middle (l₁ := wob (W ++ [xn]))).symm.trans (List.Perm.append_left _ (List.Perm.swap _ _ _)))))))))))
       obtain rfl : j = V.length := by omega
       rw [List.take_of_length_le (Nat.le_refl _)] at hwv
       have hw := hbq.wall hok hn hfx hc1
       rw [← hwv] at hw
       have hdm : ∀ x ∈ wos W, x.d ≤ b.dsk.lvl n b.state := fun x hx => by
         have h1 := Z1q hx
         rw [hwv] at h1
         obtain ⟨v, hv, e⟩ := List.mem_map.1 h1
         have h2 := hbq.lv v hv
         have h3 : b.dsk.lvl n v = x.d := congrArg Prod.snd e
         omega
       refine Zb (Zf (Zf (ZB (sqt 3 rfl (pur 3 rfl (Z4 ?_))))))
       refine Sy.heap (H' := mkh mk ++ (o.G ++ (wob W ++ H))) (R' := R) (fun w h => St.sub (((St.drop (G := q.G) (((h.del m48).del b9).del b8)).del b1).perm ((List.Perm.append_left o.G (ZO (wob W) (mkh mk) H)).trans (ZO o.G (mkh mk) _)))) ?_
       exact ZY mk idH rfl (.cons (RV.tmp rfl) (.cons (RV.tmp rfl) .nil)) rfl (.inr (.inr ⟨hck, _, W, o, hc1, hks, hw, by omega, hdm, rfl, rfl, rfl⟩)) idH
    exact ZN
   refine Zs ?_ ?_
   ·
    refine alc rfl Zfv rfl (fun b8 => ?_)
    refine bg (fun w hs => ⟨(ZP hsi.len hkv.len hkg (fun w hs => hs.now (MemF.mem (f := KpF m kv)))) w hs, (lhI b.state ZV rfl rfl (hsi.len)) w hs, (lfB (sz := 18) Z1s (ZU hl4 hm4)) w hs, (lfB (sz := 1) Z0U rfl) w hs, (lhI b.state ZV rfl rfl (hsi.len)) w hs, (lfB (sz := 1) Zdo rfl) w hs, trivial⟩) ?_
    refine clF rfl rfl (Z7j) rfl rfl (Z56 b hok ab cb bd m n hn kv hkv b4 b6 (b.dsk.lvl n b.state) b.state hsi _ _) ?_
    rintro _ _ _ ⟨uf, huf, rfl, rfl, rfl⟩
    obtain ⟨f0, f1, f2, f3, rfl⟩ := Z1P huf.inS.len
    refine bgT ?_
    refine bsl (out := [_, _, _, _]) rfl Za6 Z1G rfl rfl rfl rfl rfl rfl (fun b47 => ?_)
    refine bgT ?_
    refine sto rfl rfl rfl Za9 rfl rfl rfl rfl ?_
    refine bgT (Z0 ?_)
    refine Z2Q (ι := {x : (Nat × Nat × Nat × Nat) × HSt // Rz b.dsk n (b.dsk.lvl n b.state) b.state x.2}) (fun x => ⟨[(1, .pointer (some ⟨b1, 0, none⟩)), (4, .pointer (some ⟨b4, 0, none⟩)), (6, .pointer (some ⟨b6, 0, none⟩)), (8, .pointer (some ⟨x.1.1.1, 0, none⟩)), (9, .pointer (some ⟨x.1.1.2.1, 0, none⟩))], (x.1.1.1, cel 60 [.slice (some ⟨x.1.1.2.2.2, 0, none⟩) 1 1]) :: (x.1.1.2.1, cel 55 [.map (some x.1.1.2.2.1)]) :: (x.1.1.2.2.1, Z0g true [(x.1.2, .int .i64 (b.dsk.lvl n b.state))]) :: (x.1.1.2.2.2, cel 54 (ZI x.1.2)) :: (b1, cel 27 (btl b (b.sl ab cb))) :: H, Z5 (some ⟨b6, 0, none⟩) 1 [[.func (.func 15) #[] #[.pointer (some ⟨b4, 0, none⟩), .pointer (some ⟨b6, 0, none⟩)]]] :: Z5 (some ⟨b4, 0, none⟩) 1 [[.pointer (some ⟨bd, 0, none⟩)]] :: KpF m kv :: Z5 (some ⟨bd, 0, none⟩) 18 [dcs b (b.sl ab cb) b.lasts b.most m] :: R⟩) ?_ ?_
    refine Zi [0, 0, 2, 6, 0, 16, 48, 112, 0, 496, 1023, 2047, 0, 8191] (.ld 1 (.tk 2 (.ld 3 (.ld 4 (.tk 5 (.tk 6 (.ld 7 (.ld 8 (.ld 9 (.any (.alt 0 (.any (.alt 10 (.tk 11 (.big 12 (.big 13 .done))) (.alt 12 (.big 10 (.tk 11 (.big 13 .done))) .stop))) (.alt 12 (.big 0 (.big 10 (.tk 11 (.big 13 .done)))) .stop)))))))))))) ZH (by kernel_rfl) ?_
    refine ld rfl rfl (lh Z2U rfl rfl) rfl (tk rfl (PE.indexAddr ZaZ rfl rfl (by decide) (by decide)) rfl (ld rfl rfl (lhI [f0, f1, f2, f3] ZV rfl rfl (rfl)) rfl (ld rfl rfl (lfB (sz := 1) Z0U rfl) rfl (tk rfl (PE.nilCheck rfl) rfl (tk rfl (PE.fA Z16 rfl) rfl (ld rfl rfl (lfB (sz := 18) Z1s (ZU hl4 hm4)) rfl (ld rfl rfl (lhI b.state ZV rfl rfl (hsi.len)) rfl ?_)))))))
    refine ldK rfl rfl rfl (ZP hsi.len hkv.len hkg (fun w hs => hs.now (MemF.mem (f := KpF m kv)))) rfl ?_
    refine Zs ?_ ?_
    refine mkm rfl rfl true (fun m48 => ?_)
    refine bg (fun w hs => ⟨(ZP hsi.len hkv.len hkg (fun w hs => hs.now (MemF.mem (f := KpF m kv)))) w hs, (lhI b.state ZV rfl rfl (hsi.len)) w hs, (lfB (sz := 18) Z1s (ZU hl4 hm4)) w hs, (lfB (sz := 1) Z0U rfl) w hs, (lhI [f0, f1, f2, f3] ZV rfl rfl (rfl)) w hs, (lh Z2U rfl rfl) w hs, trivial⟩) ?_
    refine Zs ?_ ?_
    refine mpi [] [f0, f1, f2, f3] rfl Z1g (KeyT.of Z0L Z0P) rfl rfl rfl rfl (by simp) ?_
    refine bgT (Zp 1 rfl (alc rfl ZcV rfl (fun b9 => bgT ?_)))
    refine sto rfl rfl rfl ZcB rfl rfl rfl rfl ?_
    refine bgT ?_
    exact Za ⟨((b8, b9, m48, b47), [f0, f1, f2, f3]), huf⟩ (fun w h => (((((h.pull b1).pull b47).pull m48).pull b9).pull b8 |>.del b7))
    refine Zs ?_ ?_
    refine alc rfl ZcV rfl (fun b9 => ?_)
    refine bg (fun w hs => ⟨(ZP hsi.len hkv.len hkg (fun w hs => hs.now (MemF.mem (f := KpF m kv)))) w hs, (lhI b.state ZV rfl rfl (hsi.len)) w hs, (lfB (sz := 18) Z1s (ZU hl4 hm4)) w hs, (lfB (sz := 1) Z0U rfl) w hs, (lhI [f0, f1, f2, f3] ZV rfl rfl (rfl)) w hs, (lh Z2U rfl rfl) w hs, trivial⟩) ?_
    refine mpi [] [f0, f1, f2, f3] rfl Z1g (KeyT.of Z0L Z0P) rfl rfl rfl rfl (by simp) ?_
    refine bgT (Zp 1 rfl ?_)
    refine sto rfl rfl rfl ZcB rfl rfl rfl rfl ?_
    refine bgT ?_
    exact Za ⟨((b8, b9, m48, b47), [f0, f1, f2, f3]), huf⟩ (fun w h => (((((h.pull b1).pull b47).pull m48).pull b9).pull b8 |>.del b7))
    exact ZN
    refine Zs ?_ ?_
    refine alc rfl ZcV rfl (fun b9 => ?_)
    refine bg (fun w hs => ⟨(ZP hsi.len hkv.len hkg (fun w hs => hs.now (MemF.mem (f := KpF m kv)))) w hs, (lhI b.state ZV rfl rfl (hsi.len)) w hs, (lfB (sz := 18) Z1s (ZU hl4 hm4)) w hs, (lfB (sz := 1) Z0U rfl) w hs, (lhI [f0, f1, f2, f3] ZV rfl rfl (rfl)) w hs, (lh Z2U rfl rfl) w hs, trivial⟩) ?_
    refine mkm rfl rfl true (fun m48 => ?_)
    refine bg (fun w hs => ⟨(ZP hsi.len hkv.len hkg (fun w hs => hs.now (MemF.mem (f := KpF m kv)))) w hs, (lhI b.state ZV rfl rfl (hsi.len)) w hs, (lfB (sz := 18) Z1s (ZU hl4 hm4)) w hs, (lfB (sz := 1) Z0U rfl) w hs, (lhI [f0, f1, f2, f3] ZV rfl rfl (rfl)) w hs, (lh Z2U rfl rfl) w hs, trivial⟩) ?_
    refine mpi [] [f0, f1, f2, f3] rfl Z1g (KeyT.of Z0L Z0P) rfl rfl rfl rfl (by simp) ?_
    refine bgT (Zp 1 rfl ?_)
    refine sto rfl rfl rfl ZcB rfl rfl rfl rfl ?_
    refine bgT ?_
    exact Za ⟨((b8, b9, m48, b47), [f0, f1, f2, f3]), huf⟩ (fun w h => (((((h.pull b1).pull b47).pull m48).pull b9).pull b8 |>.del b7))
    exact ZN
    ·
     rintro ⟨⟨⟨b8, b9, m48, b47⟩, uf⟩, huf⟩
     dsimp only at huf ⊢
     obtain ⟨f0, f1, f2, f3, rfl⟩ := Z1P huf.inS.len
     have hfl : b.dsk.lvl n [f0, f1, f2, f3] = b.dsk.lvl n b.state := by
       have h1 := Z6u hdk hn hfx hsi huf.inS huf.le
       have h2 := (Bq.start huf).lv [f0, f1, f2, f3] (by simp)
       omega
     refine sqt 1 rfl (pur 1 rfl (Z0 (Z3 ?_)))
     obtain ⟨q0, hq0, hqG⟩ := OQ.one (e := 54) (sz := 4) b47 (row := ZI [f0, f1, f2, f3]) rfl
     obtain ⟨q1, hq1, hqG1⟩ : ∃ q1 : OQ 54 4 (Zx (([[f0, f1, f2, f3]] : List HSt).drop 0)), q1.fs = .slice (some ⟨b47, 0, none⟩) 1 1 ∧ q1.G = [(b47, cel 54 (ZI [f0, f1, f2, f3]))] := ⟨q0, hq0, hqG⟩
     refine Sy.heap (H' := (b8, cel 60 [q1.fs]) :: (b9, cel 55 [.map (some m48)]) :: (m48, Z0g true (kvL b.dsk n [[f0, f1, f2, f3]])) :: (q1.G ++ ((OSl.nil 37 2).G ++ (wob [] ++ (b1, cel 27 (btl b (b.sl ab cb))) :: (mkh [] ++ H))))) (R' := Z5 (some ⟨b6, 0, none⟩) 1 [[.func (.func 15) #[] #[.pointer (some ⟨b4, 0, none⟩), .pointer (some ⟨b6, 0, none⟩)]]] :: Z5 (some ⟨b4, 0, none⟩) 1 [[.pointer (some ⟨bd, 0, none⟩)]] :: KpF m kv :: Z5 (some ⟨bd, 0, none⟩) 18 [dcs b (b.sl ab cb) b.lasts b.most m] :: R) (fun w h => by
       rw [hq1, hqG1, show kvL b.dsk n [[f0, f1, f2, f3]] = [([f0, f1, f2, f3], .int .i64 (b.dsk.lvl n b.state))] by unfold kvL; simp [hfl]]
       exact (show St ((b8, cel 60 [.slice (some ⟨b47, 0, none⟩) 1 1]) :: (b9, cel 55 [.map (some m48)]) :: (m48, Z0g true [([f0, f1, f2, f3], .int .i64 (b.dsk.lvl n b.state))]) :: (b47, cel 54 (ZI [f0, f1, f2, f3])) :: (b1, cel 27 (btl b (b.sl ab cb))) :: H) _ w from h)) ?_
     refine Z3j (ι := (y : {y : List HSt × Nat × List WO × List Nat // Bq b.dsk n b.state y.1 y.2.1 ∧ y.2.1 ≤ y.1.length ∧ wls (wos y.2.2.1) = wlV b.dsk n (y.1.take y.2.1)}) × (OSl 37 2 (ZC (wos y.1.2.2.1)) × OQ 54 4 (Zx (y.1.1.drop y.1.2.1)))) (fun y => ⟨[(1, .pointer (some ⟨b1, 0, none⟩)), (4, .pointer (some ⟨b4, 0, none⟩)), (6, .pointer (some ⟨b6, 0, none⟩)), (8, .pointer (some ⟨b8, 0, none⟩)), (9, .pointer (some ⟨b9, 0, none⟩)), (10, y.2.1.fs)], mks y.1.1.2.2.2, (b8, cel 60 [y.2.2.fs]) :: (b9, cel 55 [.map (some m48)]) :: (m48, Z0g true (kvL b.dsk n y.1.1.1)) :: (y.2.2.G ++ (y.2.1.G ++ (wob y.1.1.2.2.1 ++ (b1, cel 27 (btl b (b.sl ab cb))) :: (mkh y.1.1.2.2.2 ++ H)))), Z5 (some ⟨b6, 0, none⟩) 1 [[.func (.func 15) #[] #[.pointer (some ⟨b4, 0, none⟩), .pointer (some ⟨b6, 0, none⟩)]]] :: Z5 (some ⟨b4, 0, none⟩) 1 [[.pointer (some ⟨bd, 0, none⟩)]] :: KpF m kv :: Z5 (some ⟨bd, 0, none⟩) 18 [dcs b (b.sl ab cb) b.lasts b.most m] :: R⟩) (fun y => b.dsk.nst - y.1.1.2.1) ⟨⟨([[f0, f1, f2, f3]], 0, [], []), Bq.start huf, Nat.zero_le _, rfl⟩, OSl.nil _ _, q1⟩ ?_ (fun y => ?_)
     exact Z7t (by repeat' first | exact Sub.nil | apply Sub.cons | rfl | (simp [lk]; omega)) rfl idH
     ·
      obtain ⟨⟨⟨V, j, W, mk⟩, hbq, hjv, hwv⟩, o, q⟩ := y
      dsimp only at hbq hjv hwv o q ⊢
      have hfew := hbq.few hdk
      have hWl : W.length = j := by have := congrArg List.length hwv; unfold wlV at this; rw [Z0F, Z2u, List.length_map, List.length_take] at this; omega
      have hqs : q.fs = .slice (some ⟨q.b, q.off, none⟩) (V.length - j) q.cap := by unfold OQ.fs; rw [ZT, List.length_drop]
      rw [hqs]
      refine Z0 (sqt 3 rfl (spL rfl rfl (lh Z2U rfl rfl) rfl (sp rfl (PE.lenSl Z78 rfl) rfl (pur 1 rfl ?_))))
      refine Z2 rfl ?_ ?_ <;> intro hc2 <;> try simp only [cS] at hc2
      ·
       obtain ⟨p, hp⟩ : ∃ p, V[j]? = some p := ⟨_, List.getElem?_eq_getElem (by omega)⟩
       have hpV := List.mem_of_getElem? hp
       have hps := hbq.sts p hpV
       have hpl := hps.len
       have hpm := b.dsk.inS_sml hdk hps
       have hplv := hbq.lv p hpV
       have hpk := Z1r ((b.dsk.mem_sts hdk p).2 hps) hn hfx
       have hpr := Z2i hpk
       have hpe : (ZI p).length = 4 := by rw [Z8]; exact hpl
       have hV4 : ∀ s ∈ V, s.length = 4 := fun s hs => (hbq.sts s hs).len
       refine Sy.heap (H' := (b8, cel 60 [.slice (some ⟨q.b, q.off, none⟩) (V.length - j) q.cap]) :: (b9, cel 55 [.map (some m48)]) :: (m48, Z0g true (kvL b.dsk n V)) :: (q.b, cel 54 (q.pre ++ ((Zx (V.drop j)).flatten ++ q.junk))) :: (o.G ++ (wob W ++ (b1, cel 27 (btl b (b.sl ab cb))) :: (mkh mk ++ H)))) idH ?_
       have hdr : (q.pre ++ ((Zx (V.drop j)).flatten ++ q.junk)).drop (q.off + (0 : Int).toNat * 4) = ZI p ++ ((Zx (V.drop (j + 1))).flatten ++ q.junk) := by
         have hfl : (Zx (V.drop j)).flatten = ZI p ++ (Zx (V.drop (j + 1))).flatten := by rw [ZS hp, List.flatten_cons]
         rw [hfl, show q.off + (0 : Int).toNat * 4 = q.pre.length by rw [q.pl]; simp, List.drop_left, List.append_assoc]
       obtain ⟨q2, hq2, hqG2⟩ := (q.cast (ZS hp)).pop
       have hqc : (q.cast (ZS hp)).b = q.b ∧ (q.cast (ZS hp)).off = q.off ∧ (q.cast (ZS hp)).cap = q.cap := by
         generalize ZS hp = e
         generalize ZI p :: Zx (V.drop (j + 1)) = r at e
         subst e; exact ⟨rfl, rfl, rfl⟩
       rw [hqc.1, hqc.2.1, hqc.2.2, ZT, List.length_drop] at hq2
       rw [OQ.cast_G] at hqG2
       refine Z1 (Z3 (sqt 5 rfl (spL rfl rfl (lh Z2U rfl rfl) rfl (sp rfl (PE.indexAddr ZaZ rfl rfl (by omega) (by omega)) rfl (spL rfl rfl (lhA (ZI p) ZV rfl hdr hpe) rfl (alc rfl Z1G rfl (fun b11 => ?_)))))))
       refine Z1I rfl rfl rfl Z1e rfl (by rw [Z8]; exact hpl) rfl (Zu _) ?_
       refine sqt 3 rfl (spL rfl rfl (lh Z2U rfl rfl) rfl (sp rfl (PE.slLoA (l := 1) Za6 rfl rfl (by omega)) rfl ?_))
       have hq2e : Value.slice (if q.cap = 1 then some ⟨q.b, q.off, none⟩ else (some (⟨q.b, q.off, none⟩ : Addr)).map (·.add (1 * 4))) (V.length - j - 1) (q.cap - 1) = q2.fs := by
         rw [hq2, Option.map_some, Z0p, show V.length - (j + 1) = V.length - j - 1 by omega]
       rw [hq2e]
       refine Z1b (l' := [q2.fs]) rfl rfl rfl Za9 rfl rfl rfl rfl (Nat.le_refl _) ?_
       refine Sy.heap (H' := (b11, cel 54 (ZI p)) :: (b8, cel 60 [q2.fs]) :: (b9, cel 55 [.map (some m48)]) :: (m48, Z0g true (kvL b.dsk n V)) :: (q2.G ++ (o.G ++ (wob W ++ (b1, cel 27 (btl b (b.sl ab cb))) :: (mkh mk ++ H))))) (fun w h => by rw [hqG2]; exact h) ?_
       refine Z0 ?_
       refine Zi [0, 0, 2, 6, 14, 30, 0, 0, 192, 510, 1022, 2047, 4095] (.tk 0 (.tk 1 (.ld 2 (.tk 3 (.tk 4 (.ld 6 (.ld 7 (.ld 8 (.big 5 (.tk 9 (.big 10 (.big 11 (.tk 12 .done))))))))))))) ZH (by kernel_rfl) ?_
       refine Zp 1 rfl (tk rfl (PE.fA ZE rfl) rfl (ld rfl rfl (lh Z0C rfl rfl) rfl (tk rfl (PE.lenSl Z0M rfl) rfl (tk rfl (PE.slArrHi (h := b.bins.length) Z2G rfl rfl (by omega)) rfl (ld rfl rfl (lh Z1s rfl rfl) rfl (ld rfl rfl (lhI p ZV rfl rfl (hpl)) rfl ?_))))))
       refine ldK rfl rfl rfl (ZP hpl (Z12 hV4) (Z0T hpV) (Z4Q (x := m48))) rfl ?_
       refine cl rfl ZdV rfl rfl (Z7U b11 54 b.bins.length 4 p (by omega) (by omega) _ _) ?_
       rintro _ _ _ ⟨ol, rfl, rfl, rfl⟩
       obtain ⟨xn, hnl, hnd, hnf, hnG⟩ := OSl.wo (p.take b.bins.length) (b.dsk.lvl n p) ol (by
         obtain ⟨ay, cy, jk, h1, _⟩ := ol.is.resolve_left (fun h => by have := congrArg List.length h.1; rw [Zd, List.length_take, hpl] at this; simp only [List.length_nil] at this; omega)
         exact ⟨ay, cy, h1.trans (by first | rfl | simp)⟩)
       rw [hnf]
       refine Sy.heap (fun w h => by rw [hnG] at h; exact h) ?_
       refine bg (fun w hs => ⟨(ZP hpl (Z12 hV4) (Z0T hpV) (Z4Q (x := m48))) w hs, (lhI p ZV rfl rfl (hpl)) w hs, (lh Z1s rfl rfl) w hs, trivial, trivial⟩) ?_
       refine tk rfl (PE.build (out := [_, _]) Zfs Z7c rfl rfl) rfl ?_
       refine bsl (out := [_, _]) rfl Zeg Z7c rfl rfl rfl rfl rfl rfl (fun b77 => ?_)
       refine bgT ?_
       refine apO (o) rfl Zgv rfl rfl (Z0W (row := [.slice (some ⟨xn.b, 0, none⟩) xn.l.length xn.cap, .int .i64 (b.dsk.lvl n p)]) rfl) rfl rfl ((by rw [ZM, Z2u]; simp only [List.length_singleton]; omega)) rfl (fun o78 => ?_)
       refine bgT (Zp 1 rfl (sqt 2 rfl ?_))
       obtain ⟨o78, e78, g78⟩ : ∃ o' : OSl 37 2 (ZC (wos (W ++ [xn]))), o'.fs = o78.fs ∧ o'.G = o78.G := ⟨o78.cast (by rw [Z3G, Z1T, ← hnd]; rfl), rfl, rfl⟩
       rw [← e78]
       refine Sy.heap (H' := (b11, cel 54 (ZI p)) :: (b8, cel 60 [q2.fs]) :: (b9, cel 55 [.map (some m48)]) :: (m48, Z0g true (kvL b.dsk n V)) :: (q2.G ++ (o78.G ++ (wob (W ++ [xn]) ++ (b1, cel 27 (btl b (b.sl ab cb))) :: (mkh mk ++ H))))) (R' := Z5 (some ⟨b6, 0, none⟩) 1 [[.func (.func 15) #[] #[.pointer (some ⟨b4, 0, none⟩), .pointer (some ⟨b6, 0, none⟩)]]] :: Z5 (some ⟨b4, 0, none⟩) 1 [[.pointer (some ⟨bd, 0, none⟩)]] :: KpF m kv :: Z5 (some ⟨bd, 0, none⟩) 18 [dcs b (b.sl ab cb) b.lasts b.most m] :: R) (fun w h => by rw [← g78] at h; exact St.sub ((h.del b77).perm Z3V)) ?_
       clear e78 g78
       refine spL rfl rfl (lfB (sz := 1) Z0U rfl) rfl ?_
       refine cl rfl Z8o rfl rfl (Z1j bd false _ _) ?_
       rintro _ _ _ ⟨xb, xf, rfl, rfl, rfl⟩
       refine Z3 ?_
       refine Z1x rfl Z8s (fun c0 bl0 bd0 hcp0 hca0 hcb0 hck0 => ?_)
       refine ⟨fun st pend T R' => st = .ready ∧ pend = none ∧ ∃ (V' : List HSt) (q' : OQ 54 4 (Zx (V'.drop (j + 1)))), Bq b.dsk n b.state V' j ∧ V'.take (j + 1) = V.take (j + 1) ∧ V'[j]? = some p ∧ CvK b.dsk n V' p ((b.dsk.trs false).length) ∧ T = (bd0, .deferred (some [])) :: (b11, cel 54 (ZI p)) :: (b8, cel 60 [q'.fs]) :: (b9, cel 55 [.map (some m48)]) :: (m48, Z0g true (kvL b.dsk n V')) :: (q'.G ++ (o78.G ++ (wob (W ++ [xn]) ++ (b1, cel 27 (btl b (b.sl ab cb))) :: (mkh mk ++ H)))) ∧ R' = Z5 (some ⟨xf, 0, none⟩) 1 [[.bool false]] :: Z5 (some ⟨xb, 0, none⟩) 1 [[.pointer (some ⟨bd, 0, none⟩)]] :: Z5 (some ⟨b6, 0, none⟩) 1 [[.func (.func 15) #[] #[.pointer (some ⟨b4, 0, none⟩), .pointer (some ⟨b6, 0, none⟩)]]] :: Z5 (some ⟨b4, 0, none⟩) 1 [[.pointer (some ⟨bd, 0, none⟩)]] :: KpF m kv :: Z5 (some ⟨bd, 0, none⟩) 18 [dcs b (b.sl ab cb) b.lasts b.most m] :: R,
         Fn.mono (Z10 b hok ab cb bd m false xb xf bl0 (fun k H' R' => ∃ (V' : List HSt) (q' : OQ 54 4 (Zx (V'.drop (j + 1)))), Bq b.dsk n b.state V' j ∧ V'.take (j + 1) = V.take (j + 1) ∧ V'[j]? = some p ∧ CvK b.dsk n V' p (k) ∧ H' = (bl0, lob c0 .ready none) :: (bd0, .deferred (some [])) :: (b11, cel 54 (ZI p)) :: (b8, cel 60 [q'.fs]) :: (b9, cel 55 [.map (some m48)]) :: (m48, Z0g true (kvL b.dsk n V')) :: (q'.G ++ (o78.G ++ (wob (W ++ [xn]) ++ (b1, cel 27 (btl b (b.sl ab cb))) :: (mkh mk ++ H)))) ∧ R' = Z5 (some ⟨xf, 0, none⟩) 1 [[.bool false]] :: Z5 (some ⟨xb, 0, none⟩) 1 [[.pointer (some ⟨bd, 0, none⟩)]] :: Z5 (some ⟨b6, 0, none⟩) 1 [[.func (.func 15) #[] #[.pointer (some ⟨b4, 0, none⟩), .pointer (some ⟨b6, 0, none⟩)]]] :: Z5 (some ⟨b4, 0, none⟩) 1 [[.pointer (some ⟨bd, 0, none⟩)]] :: KpF m kv :: Z5 (some ⟨bd, 0, none⟩) 18 [dcs b (b.sl ab cb) b.lasts b.most m] :: R)
           (fun _ _ => False)
           (fun k H' R' h => by obtain ⟨_, _, _, _, _, _, _, rfl⟩ := h; exact ⟨by simp, by simp, by simp⟩) (fun k l a c H' R' hk hI => ?_) _ _ ⟨V, q2, hbq, rfl, hp, fun i l hi => absurd hi (Nat.not_lt_zero _), rfl, rfl⟩) (fun v H' R' h => ?_), ?_⟩
       rotate_left
       · rcases h with ⟨V', q', h1, h2, h3, h4, rfl, rfl⟩ | h
         · exact ⟨.ready, none, _, by simp, .refl _, rfl, rfl, V', q', h1, h2, h3, h4, rfl, rfl⟩
         · exact h.elim
       rotate_left
       have hlm := List.mem_of_getElem? hk
       have hlt := b.dsk.trs_lt hlm
       have hll : l.length ≤ 1000000 := by
         obtain ⟨i, _, rfl⟩ := List.mem_map.1 (List.mem_filter.1 hlm).1
         have := Z18 b.dsk.n i
         have := hdk.n
         omega
       obtain ⟨V1, q3, hb1, ht1, hp1, hcv, rfl, rfl⟩ := hI
       have hj1 := (List.getElem?_eq_some_iff.1 hp1).1
       have hf1 := hb1.few hdk
       have hp1V := List.mem_of_getElem? hp1
       have hV14 : ∀ s ∈ V1, s.length = 4 := fun s hs => (hb1.sts s hs).len
       refine Z5h hcp0 hca0 hcb0 hck0 rfl ?_
       refine sqr 1 rfl (pur 1 rfl ?_)
       refine Z05 ?_
       refine Z3 (sqt 10 rfl (spL rfl rfl (lfB (sz := 1) Z0U rfl) rfl (spL rfl rfl (lhI p ZV rfl rfl (hpl)) rfl (pur 1 rfl ?_))))
       refine cl rfl Z8k rfl rfl (Z4O b hok ab cb bd m p hpm l hlt hll a c _ _) ?_
       rintro _ _ _ ⟨rfl, rfl, rfl⟩
       rcases hnx : b.dsk.next p l with _ | t
       refine pur 3 rfl (alc rfl Z1G rfl (fun b13 => ?_))
       first | (refine Z1I rfl rfl rfl Z1e rfl rfl rfl (Zu _) ?_) | (refine Z1I rfl rfl rfl Z1e rfl (by rw [Z8]; exact htl) rfl (Zu _) ?_)
       refine pur 1 rfl (Z0 (sqt 2 rfl (pur 2 rfl ?_)))
       refine Zq rfl ?_
       refine Zb (Zf (ZB ?_))
       exact ZF (.inl ⟨rfl, V1, q3, hb1, ht1, hp1, hcv.more hk (fun t ht => by rw [hnx] at ht; cases ht), rfl, rfl⟩) (fun _ h => (h.del b13).ftail)
       refine pur 1 rfl ?_
       have hts := b.dsk.next_inS hdk hps hlt hnx
       have htl := hts.len
       have htlv : b.dsk.lvl n t < b.dsk.lvl n p := Z5U hdk hps hlm hnx hpk (Z1r ((b.dsk.mem_sts hdk t).2 hts) hn hfx) (by omega)
       refine pur 2 rfl (alc rfl Z1G rfl (fun b13 => ?_))
       first | (refine Z1I rfl rfl rfl Z1e rfl rfl rfl (Zu _) ?_) | (refine Z1I rfl rfl rfl Z1e rfl (by rw [Z8]; exact htl) rfl (Zu _) ?_)
       refine pur 1 rfl (Z0 (sqt 2 rfl (pur 2 rfl ?_)))
       refine ZG rfl ?_
       refine Z1 (Z0 ?_)
       refine Zi [0, 0, 0, 0, 12, 28, 63, 127] (.ld 0 (.ld 1 (.ld 2 (.ld 3 (.ld 4 (.tk 5 (.big 6 (.big 7 .done)))))))) ZH (by kernel_rfl) ?_
       refine ld rfl rfl (lfB (sz := 1) Zdo rfl) rfl (ld rfl rfl (lhI t ZV rfl rfl (htl)) rfl (ld rfl rfl (lh Z1s rfl rfl) rfl (ld rfl rfl (lhI p ZV rfl rfl (hpl)) rfl ?_)))
       refine ldK rfl rfl rfl (ZP hpl (Z12 hV14) (Z0T hp1V) (Z4Q (x := m48))) rfl ?_
       refine tk rfl (PE.sub rfl rfl (by omega)) rfl ?_
       refine clF rfl rfl (Z7j) rfl rfl (Z56 b hok ab cb bd m n hn kv hkv b4 b6 (b.dsk.lvl n p - 1) t hts _ _) ?_
       rintro _ _ _ ⟨uf, hu, rfl, rfl, rfl⟩
       obtain ⟨u0, u1, u2, u3, rfl⟩ := Z1P hu.inS.len
       have hulv : b.dsk.lvl n [u0, u1, u2, u3] < b.dsk.lvl n p := by
         rcases hu.lv with h1 | h1
         · rw [h1]; exact htlv
         · omega
       have hum := (b.dsk.mem_sts hdk _).2 hu.inS
       have hukv := hkv.get _ hum
       have hcvu : ∀ V2 : List HSt, [u0, u1, u2, u3] ∈ V2 → ∀ t2, b.dsk.next p l = some t2 → ∃ u ∈ V2, Z1A b.dsk.n t2 u = true ∧ b.dsk.lvl n u < b.dsk.lvl n p := fun V2 hm t2 ht2 => by rw [hnx] at ht2; cases ht2; exact ⟨_, hm, hu.le, hulv⟩
       obtain ⟨go, hgo⟩ : ∃ go, (kvL b.dsk n V1).get [u0, u1, u2, u3] = go := ⟨_, rfl⟩
       refine bgT ?_
       refine Z1I rfl rfl rfl Z1e rfl (by rw [Z8]; rfl) (by rw [Z8]; exact htl) (Zu _) ?_
       refine bgT (sqt 8 rfl (spL rfl rfl (lh Z1s rfl rfl) rfl (spL rfl rfl (lhI [u0, u1, u2, u3] ZV rfl rfl (rfl)) rfl ?_)))
       refine spK rfl rfl rfl (Z23 (b := true) (kvL b.dsk n V1) [u0, u1, u2, u3] Z1g (KeyT.of Z0L Z0P) (Z1O zv3) rfl (Z12 hV14) true) rfl ?_
       rw [hgo]
       refine pur 5 rfl (Z0 ?_)
       refine Zi [0, 1, 3, 7, 7, 23, 55, 119, 7, 503, 1023, 2047] (tks 0 4 (.ld 4 (.tk 5 (.tk 6 (.ld 7 (.ld 8 (.ld 9 (.tk 10 (.tk 11 .done))))))))) ZH (by kernel_rfl) ?_
       refine Zp 3 rfl ?_
       refine Zh 106 rfl ?_ ?_ <;> intro g106
       obtain rfl : go = none := by cases go with
         | none => rfl
         | some g => exact absurd g106 (by simp)
       have hun : [u0, u1, u2, u3] ∉ V1 := fun hm => by rw [Z0T hm] at hgo; cases hgo
       refine Zp 1 rfl ?_
       refine ldN rfl rfl rfl rfl rfl rfl rfl rfl ?_
       refine Zp 2 rfl ?_
       repeat refine ldN rfl rfl rfl rfl rfl rfl rfl rfl ?_
       refine Zp 2 rfl ?_
       refine Zq rfl ?_
       refine Z0 ?_
       refine Zi [0, 0, 0, 4, 12, 28, 0, 124, 255] (.ld 0 (.ld 1 (.ld 2 (.tk 3 (.tk 4 (.ld 5 (.ld 6 (.ld 7 (.big 8 .done))))))))) ZH (by kernel_rfl) ?_
       refine ld rfl rfl (lh Z1s rfl rfl) rfl (ld rfl rfl (lhI [u0, u1, u2, u3] ZV rfl rfl (rfl)) rfl (ld rfl rfl (lfB (sz := 1) Z0U rfl) rfl (tk rfl (PE.nilCheck rfl) rfl (tk rfl (PE.fA Z16 rfl) rfl (ld rfl rfl (lfB (sz := 18) Z1s (ZU hl4 hm4)) rfl (ld rfl rfl (lhI [u0, u1, u2, u3] ZV rfl rfl (rfl)) rfl ?_))))))
       refine ldK rfl rfl rfl (ZP rfl hkv.len hukv (fun w hs => hs.now (MemF.mem (f := KpF m kv)))) rfl ?_
       refine mpu (kvL b.dsk n V1) [u0, u1, u2, u3] (v := .int .i64 (b.dsk.lvl n [u0, u1, u2, u3])) rfl Z1g (KeyT.of Z0L Z0P) rfl rfl rfl rfl (Z12 hV14) ?_
       rw [Z60 hun]
       refine bgT (sqr 5 rfl (spL rfl rfl (lh Z2U rfl rfl) rfl (spL rfl rfl (lhI [u0, u1, u2, u3] ZV rfl rfl (rfl)) rfl ?_)))
       refine bsl (out := [_, _, _, _]) rfl Za6 Z1G rfl rfl rfl rfl rfl rfl (fun b126 => ?_)
       refine apQ q3 rfl ZeT rfl rfl (Z0W (row := ZI [u0, u1, u2, u3]) rfl) rfl (by simp) rfl (by rw [ZT, List.length_drop]; simp only [List.length_singleton]; omega) rfl (fun q4 => ?_)
       refine Z1b (l' := [q4.fs]) rfl rfl rfl Za9 rfl rfl rfl rfl (Nat.le_refl _) ?_
       obtain ⟨q5, e5, g5⟩ : ∃ q5 : OQ 54 4 (Zx ((V1 ++ [[u0, u1, u2, u3]]).drop (j + 1))), q5.fs = q4.fs ∧ q5.G = q4.G := ⟨q4.cast (Z3K (by omega) _), OQ.cast_fs _ _, OQ.cast_G _ _⟩
       exact ZF (.inl ⟨rfl, V1 ++ [[u0, u1, u2, u3]], q5, hb1.add (by omega) hu.inS hun (by have := hulv; omega), by rw [List.take_append_of_le_length (by omega)]; exact ht1, by rw [List.getElem?_append_left hj1]; exact hp1, (hcv.add _).more hk (hcvu _ (by simp)), rfl, rfl⟩) (fun _ h => by rw [e5, g5]; exact ((h.del b126).del b13).ftail)
       obtain ⟨g, rfl⟩ : ∃ g, go = some g := by cases go with
         | none => exact absurd g106 (by simp)
         | some g => exact ⟨g, rfl⟩
       have hui : [u0, u1, u2, u3] ∈ V1 := Classical.byContradiction fun hm => by rw [Z9k hm] at hgo; cases hgo
       obtain rfl : g = .int .i64 (b.dsk.lvl n [u0, u1, u2, u3]) := by rw [Z0T hui] at hgo; cases hgo; rfl
       refine Zp 1 rfl (ldG rfl rfl rfl rfl rfl (lfB (sz := 1) Z0U rfl) rfl ?_)
       refine tkG rfl rfl rfl rfl (PE.nilCheck rfl) rfl ?_
       refine tkG rfl rfl rfl rfl (PE.fA Z16 rfl) rfl ?_
       refine ldG rfl rfl rfl rfl rfl (lfB (sz := 18) Z1s (ZU hl4 hm4)) rfl (ldG rfl rfl rfl rfl rfl (lhI [u0, u1, u2, u3] ZV rfl rfl (rfl)) rfl ?_)
       refine Zgy rfl rfl rfl rfl rfl rfl (ZP rfl hkv.len hukv (fun w hs => hs.now (MemF.mem (f := KpF m kv)))) rfl ?_
       refine Zp 2 rfl ?_
       refine Z2 rfl ?_ ?_ <;> intro hc4
       exact absurd hc4 (by simp)
       refine Z1 ?_
       exact ZF (.inl ⟨rfl, V1, q3, hb1, ht1, hp1, hcv.more hk (hcvu V1 hui), rfl, rfl⟩) (fun _ h => (h.del b13).ftail)
       ·
        rintro _ _ _ _ ⟨rfl, rfl, V1, q3, hb1, ht1, hp1, hcv, rfl, rfl⟩
        refine Z5k ?_
        have hj1 := (List.getElem?_eq_some_iff.1 hp1).1
        have hf1 := hb1.few hdk
        exact Z3k ⟨⟨(V1, j + 1, W ++ [xn], bd0 :: mk), hb1.next hp1 hcv, hj1, by dsimp only; rw [Z3G, Z3U, hwv, ht1, Z6B hp]; show _ ++ [(xn.l, xn.d)] = _; rw [hnl, hnd]; rfl⟩, o78, q3⟩ (by dsimp only; omega) (by repeat' first | exact Sub.nil | apply Sub.cons | rfl | (simp [lk]; omega)) rfl (fun w h => St.sub ((h.del b11).perm ((ZO [_] [_, _, _] _).trans (List.Perm.append_left [_, _, _] ((List.perm_middle (l₁ := q3.G)).symm.trans (List.Perm.append_left q3.G ((List.perm_middle (l₁ := o78.G)).symm.trans (List.Perm.append_left o78.G ((List.perm_middle (l₁ := wob (W ++ [xn]))).symm.trans (List.Perm.append_left _ (List.Perm.swap _ _ _)))))))))))
      obtain rfl : j = V.length := by omega
      rw [List.take_of_length_le (Nat.le_refl _)] at hwv
      have hw := hbq.wall hok hn hfx hc1
      rw [← hwv] at hw
      have hdm : ∀ x ∈ wos W, x.d ≤ b.dsk.lvl n b.state := fun x hx => by
        have h1 := Z1q hx
        rw [hwv] at h1
        obtain ⟨v, hv, e⟩ := List.mem_map.1 h1
        have h2 := hbq.lv v hv
        have h3 : b.dsk.lvl n v = x.d := congrArg Prod.snd e
        omega
      refine Zb (Zf (Zf (ZB (sqt 3 rfl (pur 3 rfl (Z4 ?_))))))
      refine Sy.heap (H' := mkh mk ++ (o.G ++ (wob W ++ H))) (R' := R) (fun w h => St.sub (((St.drop (G := q.G) (((h.del m48).del b9).del b8)).del b1).perm ((List.Perm.append_left o.G (ZO (wob W) (mkh mk) H)).trans (ZO o.G (mkh mk) _)))) ?_
      exact ZY mk idH rfl (.cons (RV.tmp rfl) (.cons (RV.tmp rfl) .nil)) rfl (.inr (.inr ⟨hck, _, W, o, hc1, hks, hw, by omega, hdm, rfl, rfl, rfl⟩)) idH
   exact ZN
theorem Zdx (b : Barn) (ab : Option Addr) (cb : Nat) (hl : b.bins.length ≤ 9223372036854775807) (hr : b.rise.length = 6) (H : Zg) (R : Z6) [hB : MemRows ab 4 (Z7 b.bins) R] : Fn Tryz.prog 5 [b.v (b.sl ab cb)] H R (ZgM b H R) :=
  Fn.weakH (Zbq b ab cb hl hr H R) fun v H' R' hq => by
    rcases hq with ⟨h1, rfl, rfl, rfl⟩ | ⟨h1, h2, rfl, rfl, rfl⟩ | ⟨h1, m, W, o, h2, h3, h4, h5, h6, rfl, rfl, rfl⟩
    · exact ⟨_, _, ⟨rfl, .inl ⟨h1, rfl, rfl⟩⟩, fun w h => h⟩
    · exact ⟨_, _, ⟨rfl, .inr (.inl ⟨h1, h2, rfl, rfl⟩)⟩, fun w h => h⟩
    · obtain ⟨aw, cw, he, hcw, hf⟩ := o.freezeC
      rw [he, ZM]
      rw [ZM] at hcw
      exact ⟨_, _, ⟨rfl, .inr (.inr ⟨h1, m, wos W, aw, cw, h2, h3, h4, by rw [Z2u]; exact h5, hcw, h6, rfl, rfl⟩)⟩, fun w h => (St.wobs (l := W) (hf h)).facts (fun g hg => by simp only [List.mem_cons] at hg ⊢; rcases hg with hg | hg | hg <;> simp [hg])⟩
theorem ZgV : cal Tryz.prog 5 = true := by kernel_rfl
theorem ZfH : cal Tryz.prog 73 = true := by kernel_rfl
theorem Zfc : cal Tryz.prog 74 = true := by kernel_rfl
theorem Zhv : cal Tryz.prog 75 = true := by kernel_rfl
theorem Zek : cal Tryz.prog 76 = true := by kernel_rfl
structure WWant (b : Barn) (w lo : Int) : Prop where
  is : (b.check ≠ 0 ∧ w = b.check) ∨ (b.check = 0 ∧ Kpt b.dsk b.state lo ∧ ((lo = 1000000 ∧ w = 6) ∨ (lo ≠ 1000000 ∧ w = 0)))
theorem WWant.zero {b : Barn} {w lo : Int} (h : WWant b w lo) (hw : w = 0) : b.check = 0 ∧ Kpt b.dsk b.state lo ∧ lo ≠ 1000000 := by
  rcases h.is with ⟨h1, h2⟩ | ⟨h1, h2, h3⟩
  · omega
  · exact ⟨h1, h2, by omega⟩
theorem Zbn {b : Barn} {W : WL} (h : b.check = 0) : Z7E b W = Z3E b W := by unfold Z7E; rw [decide_eq_true h]; rfl
theorem Zda {b : Barn} {W : WL} (h : b.check ≠ 0) : Z7E b W = (0, b.check) := by unfold Z7E; rw [decide_eq_false h]; rfl
theorem Z6j (xs ys : List Int) (a a2 : Option Addr) (c c2 : Nat) (hl : xs.length ≤ 9223372036854775807) (hl2 : ys.length ≤ 9223372036854775807) (H : Zg) (R : Z6) [hR : MemRows a 1 (Zm xs) R] [hR2 : MemRows a2 1 (Zm ys) R] :
    FnV Tryz.prog 76 [.slice a xs.length c, .slice a2 ys.length c2] H R (.bool (decide (xs = ys))) := by
 refine Zy Tryz.func76 rfl Tryz.ntmps76 rfl ?_
 refine sqt 1 rfl (pur 1 rfl (sqt 4 rfl (pur 2 rfl ?_)))
 refine clV rfl ZfR rfl rfl (Z8N xs ys a a2 c c2 hl hl2 _ _) ?_
 refine pur 1 rfl (Z4 ?_)
 exact rtA rfl rfl rfl ⟨rfl, rfl, rfl⟩ drp
theorem Zcg (b : Barn) (ab : Option Addr) (cb : Nat) (hl : b.bins.length ≤ 9223372036854775807) (hr : b.rise.length = 6) (W : List WE) (aw : Option Addr) (cw : Nat) {n : Nat} {V : WL} (hn : W.length = n) (hV : wls W = V) (hwl : W.length ≤ 1000000) (hwx : ∀ x ∈ W, x.l.length ≤ 1000000) (H : Zg) (R : Z6) [hB : MemRows ab 4 (Z7 b.bins) R] [hW : MemRows aw 2 (ZC W) R] [hN : MemF (InW W) R] : FnV Tryz.prog 75 [b.v (b.sl ab cb), .slice aw n cw] H R (.tuple #[.int .i64 (Z7E b V).1, .int .i64 (Z7E b V).2]) := by
  subst hn hV; exact Zed b ab cb hl hr W aw cw hwl hwx H R
theorem ZaX (b : Barn) (ab : Option Addr) (cb : Nat) (hok : b.ok) (W : List WE) (aw : Option Addr) (cw : Nat) {p : Int × Int} (hp : Z3E b (wls W) = p) (hwl : W.length ≤ 1000000) (hwx : ∀ x ∈ W, x.l.length ≤ 1000000) (H : Zg) (R : Z6) [hB : MemRows ab 4 (Z7 b.bins) R] [hW : MemRows aw 2 (ZC W) R] [hN : MemF (InW W) R] : FnV Tryz.prog 73 [b.v (b.sl ab cb), .slice aw W.length cw] H R (.tuple #[.int .i64 p.1, .int .i64 p.2]) := by
  subst hp; exact Z90 b ab cb hok W aw cw hwl hwx H R
theorem Zer (b : Barn) (ab : Option Addr) (cb : Nat) (hl : b.bins.length ≤ 9223372036854775807) (hr : b.rise.length = 6) {w lo : Int} (hw : WWant b w lo) (H : Zg) (R : Z6) [hB : MemRows ab 4 (Z7 b.bins) R] : Fn Tryz.prog 5 [b.v (b.sl ab cb)] H R (fun v H' R' => ∃ (L : List WE) (al : Option Addr) (cl : Nat), (w ≠ 0 → L = []) ∧ (w = 0 → Z3E b (wls L) = (lo, 0) ∧ L.length ≤ b.dsk.nst ∧ L.length ≤ cl ∧ ∀ x ∈ L, x.d ≤ lo) ∧ v = .tuple #[.slice al L.length cl, .int .i64 w] ∧ H' = H ∧ R' = Z5 al 2 (ZC L) :: InW L :: R) := fun w0 hw0 => by
  refine CallsIn.mono (Zdx b ab cb hl hr H R w0 hw0) ?_
  rintro e' w' ⟨u, H', R', ⟨rfl, hq⟩, he, hs'⟩
  rcases hq with ⟨h1, rfl, rfl⟩ | ⟨h1, h2, rfl, rfl⟩ | ⟨h1, m, W, aw, cw, h2, h3, h4, h5, h6, h7, rfl, rfl⟩
  · have e : w = b.check := by rcases hw.is with ⟨_, h⟩ | ⟨h, _⟩; exact h; exact absurd h h1
    subst e
    exact ⟨_, _, _, ⟨[], none, 0, fun _ => rfl, fun h => absurd h h1, rfl, rfl, rfl⟩, he, St.noRows (St.inw0 hs')⟩
  · have e : w = 6 := by
      rcases hw.is with ⟨h, _⟩ | ⟨_, h, h3⟩
      · exact absurd h1 h
      · have := Z08 h h2; omega
    subst e
    exact ⟨_, _, _, ⟨[], none, 0, fun _ => rfl, fun h => (by cases h), rfl, rfl, rfl⟩, he, St.noRows (St.inw0 hs')⟩
  · have e : w = 0 ∧ lo = m := by
      rcases hw.is with ⟨h, _⟩ | ⟨_, h, h8⟩
      · exact absurd h1 h
      · have := Z08 h h3; omega
    obtain ⟨rfl, rfl⟩ := e
    exact ⟨_, _, _, ⟨W, aw, cw, fun h => absurd rfl h, fun _ => ⟨h4, h5, h6, h7⟩, rfl, rfl, rfl⟩, he, hs'⟩
theorem Z8u (b : Barn) (ab : Option Addr) (cb : Nat) (W : List WE) (aw : Option Addr) (cw : Nat) (hwl : W.length ≤ 9223372036854775807) (hwx : ∀ x ∈ W, x.l.length ≤ 9223372036854775807) (hl9 : b.bins.length ≤ 4398046511104) (hr : b.rise.length = 6) (H : Zg) (R : Z6) [hB : MemRows ab 4 (Z7 b.bins) R] [hW : MemRows aw 2 (ZC W) R] [hN : MemF (InW W) R] :
    Fn Tryz.prog 23 [b.v (b.sl ab cb), .slice aw W.length cw] H R (fun v H' R' => v = .bool true ∧ H' = H ∧ R' = R) := by
 have hl : b.bins.length ≤ 9223372036854775807 := by omega
 refine Zy Tryz.func23 rfl Tryz.ntmps23 rfl ?_
 refine sqt 2 rfl (bx rfl rfl rfl (fun b2 => pur 1 rfl (Z0 (sqt 7 rfl (spL rfl rfl (lhA (btl b (b.sl ab cb)) ZD rfl rfl rfl) rfl ?_)))))
 refine clV rfl Zcu rfl rfl (Z98 b ab cb 80 hl9 hr _ _) ?_
 refine pur 1 rfl ?_
 refine Zh 24 rfl ?_ ?_ <;> intro g24
 refine pur 4 rfl ?_
 refine Zq rfl ?_
 refine sqt 2 rfl ?_
 refine clV rfl Z1d rfl rfl (Z02 _ _) ?_
 refine pur 1 rfl (Z4 ?_)
 exact rtA rfl rfl rfl ⟨rfl, rfl, rfl⟩ (fun w h => h.del b2)
 have h8 : ¬ 8 < b.bins.length := by unfold Z5W at g24; rw [Bool.or_eq_false_iff] at g24; simpa using g24.1
 refine pur 1 rfl ?_
 refine spG rfl rfl rfl rfl (PE.lenSl Z2f rfl) rfl ?_
 refine pur 2 rfl ?_
 refine Z2 rfl ?_ ?_ <;> intro hc0
 refine sqt 2 rfl ?_
 refine clV rfl Z1d rfl rfl (Z02 _ _) ?_
 refine pur 1 rfl (Z4 ?_)
 exact rtA rfl rfl rfl ⟨rfl, rfl, rfl⟩ (fun w h => h.del b2)
 try simp only [cS] at hc0
 refine Z1 (sqt 1 rfl (pur 1 rfl (Z0 (sqt 3 rfl (pur 1 rfl (sp rfl (PE.lenSl Z2f rfl) rfl (pur 1 rfl (Z3 ?_))))))))
 refine Zj (ι := (y : {y : Nat × List WE // y.1 ≤ W.length ∧ wls y.2 = (wls W).take y.1 ∧ ∀ x ∈ W.take y.1, x.l.length ≤ 8}) × OSl 37 2 (ZC y.1.2)) (fun y => ⟨[(1, .slice aw W.length cw), (2, .pointer (some ⟨b2, 0, none⟩)), (5, y.2.fs), (30, .slice aw W.length cw), (31, .int .i64 W.length), (32, .int .i64 y.1.1.1)], y.2.G ++ (b2, cel 27 (btl b (b.sl ab cb))) :: H, InW y.1.1.2 :: R⟩) (fun y => W.length - y.1.1.1) ⟨⟨(0, []), Nat.zero_le _, rfl, by simp⟩, OSl.nil _ _⟩ ?_ (fun y => ?_)
 exact Zr (fun w h => St.inw0 h)
 obtain ⟨⟨⟨i, M⟩, hi, hM, hx8⟩, o⟩ := y
 dsimp only at hi hM hx8 o ⊢
 have hMl : M.length = i := by have := congrArg List.length hM; rw [Z0F, List.length_take, Z0F] at this; omega
 refine sqt 1 rfl (pur 1 rfl (Z0 ?_))
 refine Z2 rfl ?_ ?_ <;> intro hc1 <;> try simp only [cS] at hc1
 obtain ⟨x, hx⟩ : ∃ x, W[i]? = some x := ⟨_, List.getElem?_eq_getElem (by omega)⟩
 have hxm := List.mem_of_getElem? hx
 refine Zl (a := aw) (sz := 2) (rows := ZC W) (ne0 (by rw [ZM]; omega)) (fun bw ow he => ?_)
 subst he
 refine Sy.heap (fun w h => St.inwAt (x := x) h hxm) ?_
 refine Z1 (Z0 (Z3 (sqt 4 rfl (sp rfl (PE.indexAddr Z68 rfl rfl (by omega) (by omega)) rfl (spL rfl rfl (lfA Zdc (row := Z0y x) (Z0r hx) rfl) rfl (alc rfl Z7c rfl (fun b7 => ?_)))))))
 refine Z1b (l' := Z0y x) rfl rfl rfl Zef rfl rfl rfl rfl (nl rfl) ?_
 refine Z0 (sqt 4 rfl (sp rfl (PE.fA Z1R rfl) rfl (spL rfl rfl (lh Z2g rfl rfl) rfl (sp rfl (PE.lenSl Z0n rfl) rfl (pur 1 rfl ?_)))))
 refine Z2 rfl ?_ ?_ <;> intro hc2 <;> try simp only [cS] at hc2
 refine sqt 2 rfl ?_
 refine clV rfl Z1d rfl rfl (Z02 _ _) ?_
 refine pur 1 rfl (Z4 ?_)
 exact rtA rfl rfl rfl ⟨rfl, rfl, rfl⟩ (fun w h => ((St.drop (G := o.G) (h.del b7)).del b2).facts (fun g hg => by simp [hg]))
 refine Z1 ?_
 refine Zi [0, 0, 2, 6, 0, 16, 62, 126, 255, 511] (.tk 0 (.tk 1 (.ld 2 (.tk 4 (.ld 5 (.big 3 (.tk 6 (.big 7 (.big 8 (.tk 9 .done)))))))))) ZH (by kernel_rfl) ?_
 refine Zp 1 rfl (tk rfl (PE.fA Z1R rfl) rfl (ld rfl rfl (lh Z2g rfl rfl) rfl (tk rfl (PE.fA Z2j rfl) rfl (ld rfl rfl (lh sc3 rfl rfl) rfl ?_))))
 refine cl rfl ZfW rfl rfl (Z7m x.l x.a x.c (by omega) _ _) ?_
 rintro _ _ _ ⟨od, rfl, _, rfl, rfl⟩
 obtain ⟨ax, cx, he, hf⟩ := od.freeze
 rw [he, Zd]
 refine Sy.heap (fun w h => hf h) ?_
 clear he hf
 refine bg (fun w hs => ⟨(lh sc3 rfl rfl) w hs, trivial, trivial⟩) ?_
 refine tk rfl (PE.build (out := [_, _]) Zfs Z7c rfl rfl) rfl ?_
 refine bsl (out := [_, _]) rfl Zeg Z7c rfl rfl rfl rfl rfl rfl (fun b48 => ?_)
 refine bgT ?_
 refine apO (o) rfl Zgv rfl rfl (Z0W (row := Z0y ⟨ax, cx, x.l, x.d⟩) rfl) rfl rfl ((by rw [ZM]; simp only [List.length_singleton]; omega)) rfl (fun o49 => ?_)
 refine bgT (Zp 1 rfl (sqr 2 rfl (sp rfl (PE.add rfl rfl (by omega)) rfl (pur 1 rfl ?_))))
 exact Zn ⟨⟨(i + 1, M ++ [⟨ax, cx, x.l, x.d⟩]), by dsimp only; omega, by dsimp only; rw [Z3U, hM, ZK (Z1f hx)]; rfl, Z3w hx hx8 (by omega)⟩, o49.cast (by rw [Z1T]; rfl)⟩ (fun w h => (St.inwSnoc (l := M) ⟨ax, cx, x.l, x.d⟩ ((h.del b48).del b7)).facts (fun g hg => by rcases List.mem_cons.1 hg with hg | hg <;> simp [hg]))
 obtain rfl : i = W.length := by omega
 rw [List.take_of_length_le (by rw [Z0F]; exact Nat.le_refl _)] at hM
 rw [List.take_length] at hx8
 obtain ⟨am, cm, he, hf⟩ := o.freeze
 rw [he, ZM, hMl]
 refine Sy.heap (fun w h => hf h) ?_
 clear he hf
 refine Zb (Zf (Zf (ZB (Z0 ?_))))
 refine Z3F [0, 1, 0, 7, 0, 0, 63, 127] [0, 1, 2, 3, 4, 5, 6, 7] ZH (by kernel_rfl) rfl (fun s L H1 R1 => ∃ (a1 : Option Addr) (c1 : Nat) (a2 : Option Addr) (c2 : Nat) (b8 : Nat) (x8 : List Value) (b9 : Nat) (x9 : List Value), Sub [(1, .slice aw W.length cw), (2, .pointer (some ⟨b2, 0, none⟩)), (5, .slice am W.length cm)] L ∧ (∀ f ∈ (Z5 am 2 (ZC M) :: InW M :: R : Z6), f ∈ R1) ∧ (s 0 = true → lk L 51 = some (b.v (b.sl ab cb))) ∧ (s 1 = true → lk L 52 = some (b.v (b.sl a1 c1)) ∧ (Z5 a1 4 (Z7 b.bins)) ∈ R1) ∧ (s 2 = true → lk L 53 = some (b.v (b.sl ab cb))) ∧ (s 3 = true → lk L 54 = some (b.v (b.sl a2 c2)) ∧ (Z5 a2 4 (Z7 b.bins)) ∈ R1) ∧ (s 4 = true → lk L 8 = some (.pointer (some ⟨b8, 0, none⟩)) ∧ (s 6 = false → x8 = [.int .i64 0, .int .i64 0, .int .i64 0, .int .i64 0, .int .i64 0, .int .i64 0, .int .i64 0, .int .i64 0, .slice none 0 0])) ∧ (s 5 = true → lk L 9 = some (.pointer (some ⟨b9, 0, none⟩)) ∧ (s 7 = false → x9 = [.int .i64 0, .int .i64 0, .int .i64 0, .int .i64 0, .int .i64 0, .int .i64 0, .int .i64 0, .int .i64 0, .slice none 0 0])) ∧ (s 6 = true → x8 = btl b (b.sl a1 c1)) ∧ (s 7 = true → x9 = btl b (b.sl a2 c2)) ∧ ∀ w, St H1 R1 w → St ((bif s 5 then [(b9, cel 84 x9)] else []) ++ ((bif s 4 then [(b8, cel 27 x8)] else []) ++ ((b2, cel 27 (btl b (b.sl ab cb))) :: H))) R1 w) ?_ ?_ ?_
 exact ⟨none, 0, none, 0, 0, [], 0, [], (by repeat' first | exact Sub.nil | apply Sub.cons | rfl | (simp [lk]; omega)), fun _ hf => hf, ff, ff, ff, ff, ff, ff, ff, ff, fun w h => h⟩
 refine ⟨?_, ?_, ?_, ?_, ?_, ?_, ?_, ?_, trivial⟩
 intro s Lz Hz Rz hdn hs hpre hI K hK
 obtain ⟨a1, c1, a2, c2, b8, x8, b9, x9, hL0, hR0, q0, q1, q2, q3, q4, q5, q6, q7, hH⟩ := hI
 refine Sy.heap hH ?_
 refine spL rfl (Sub.lk hL0 _ _ rfl) ((lhA (btl b (b.sl ab cb)) ZD rfl rfl rfl)) rfl ?_
 exact hK _ _ _ ⟨a1, c1, a2, c2, b8, x8, b9, x9, Zw rfl hL0, hR0, fun _ => ZJ, lm2 q1, lm1 q2, lm2 q3, lm2 q4, lm2 q5, q6, q7, fun w h => h⟩
 intro s Lz Hz Rz hdn hs hpre hI K hK
 obtain ⟨a1, c1, a2, c2, b8, x8, b9, x9, hL0, hR0, q0, q1, q2, q3, q4, q5, q6, q7, hH⟩ := hI
 have h0 : s 0 = true := hpre 0 rfl
 refine Sy.heap hH ?_
 haveI m0 : MemRows ab 4 (Z7 b.bins) Rz := ⟨hR0 _ (inferInstance : MemRows ab 4 (Z7 b.bins) (Z5 am 2 (ZC M) :: InW M :: R)).mem⟩
 refine cl rfl Z6T rfl (by simp only [evs, show ev Lz (.tmp 51) = _ from (q0 h0)]) (Z5H b ab cb (by omega) _ _) ?_
 rintro _ _ R1 ⟨a1, c1, rfl, rfl, hR1⟩
 obtain rfl := hR1.symm
 clear hR1
 exact hK _ _ _ ⟨a1, c1, a2, c2, b8, x8, b9, x9, Zw rfl hL0, Z0j (hR0), fun h => Zc rfl (q0 h), fun _ => ⟨ZJ, (by simp)⟩, fun h => Zc rfl (q2 h), fun h => ⟨Zc rfl (q3 h).1, List.mem_cons_of_mem _ ((q3 h).2)⟩, fun h => ⟨Zc rfl (q4 h).1, (q4 h).2⟩, fun h => ⟨Zc rfl (q5 h).1, (q5 h).2⟩, nof hdn hs 6, q7, fun w h => h⟩
 intro s Lz Hz Rz hdn hs hpre hI K hK
 obtain ⟨a1, c1, a2, c2, b8, x8, b9, x9, hL0, hR0, q0, q1, q2, q3, q4, q5, q6, q7, hH⟩ := hI
 refine Sy.heap hH ?_
 refine spL rfl (Sub.lk hL0 _ _ rfl) ((lhA (btl b (b.sl ab cb)) ZD rfl rfl rfl)) rfl ?_
 exact hK _ _ _ ⟨a1, c1, a2, c2, b8, x8, b9, x9, Zw rfl hL0, hR0, lm1 q0, lm2 q1, fun _ => ZJ, lm2 q3, lm2 q4, lm2 q5, q6, q7, fun w h => h⟩
 intro s Lz Hz Rz hdn hs hpre hI K hK
 obtain ⟨a1, c1, a2, c2, b8, x8, b9, x9, hL0, hR0, q0, q1, q2, q3, q4, q5, q6, q7, hH⟩ := hI
 obtain ⟨h0, h1, h2⟩ : s 0 = true ∧ s 1 = true ∧ s 2 = true := ⟨hpre 0 rfl, hpre 1 rfl, hpre 2 rfl⟩
 refine Sy.heap hH ?_
 haveI m0 : MemRows ab 4 (Z7 b.bins) Rz := ⟨hR0 _ (inferInstance : MemRows ab 4 (Z7 b.bins) (Z5 am 2 (ZC M) :: InW M :: R)).mem⟩
 refine cl rfl Z8h rfl (by simp only [evs, show ev Lz (.tmp 53) = _ from (q2 h2)]) (Z2c b ab cb (by omega) _ _) ?_
 rintro _ _ R1 ⟨a2, c2, rfl, rfl, hR1⟩
 obtain rfl := hR1.symm
 clear hR1
 exact hK _ _ _ ⟨a1, c1, a2, c2, b8, x8, b9, x9, Zw rfl hL0, Z0j (hR0), fun h => Zc rfl (q0 h), fun h => ⟨Zc rfl (q1 h).1, List.mem_cons_of_mem _ ((q1 h).2)⟩, fun h => Zc rfl (q2 h), fun _ => ⟨ZJ, (by simp)⟩, fun h => ⟨Zc rfl (q4 h).1, (q4 h).2⟩, fun h => ⟨Zc rfl (q5 h).1, (q5 h).2⟩, q6, nof hdn hs 7, fun w h => h⟩
 intro s Lz Hz Rz hdn hs hpre hI K hK
 obtain ⟨a1, c1, a2, c2, b8, x8, b9, x9, hL0, hR0, q0, q1, q2, q3, q4, q5, q6, q7, hH⟩ := hI
 refine Sy.heap hH ?_
 refine alc rfl Z0w rfl (fun b8 => ?_)
 exact hK _ _ _ ⟨a1, c1, a2, c2, b8, [.int .i64 0, .int .i64 0, .int .i64 0, .int .i64 0, .int .i64 0, .int .i64 0, .int .i64 0, .int .i64 0, .slice none 0 0], b9, x9, Zw rfl hL0, hR0, lm1 q0, lm2 q1, lm1 q2, lm2 q3, fun _ => ⟨ZJ, fun _ => rfl⟩, lm2 q5, nof hdn hs 6, q7, fun w h => by rw [hs] at h; exact h.perm (List.perm_middle.symm.trans (List.Perm.append_left _ (.refl _)))⟩
 intro s Lz Hz Rz hdn hs hpre hI K hK
 obtain ⟨a1, c1, a2, c2, b8, x8, b9, x9, hL0, hR0, q0, q1, q2, q3, q4, q5, q6, q7, hH⟩ := hI
 refine Sy.heap hH ?_
 refine alc rfl ZbL rfl (fun b9 => ?_)
 exact hK _ _ _ ⟨a1, c1, a2, c2, b8, x8, b9, [.int .i64 0, .int .i64 0, .int .i64 0, .int .i64 0, .int .i64 0, .int .i64 0, .int .i64 0, .int .i64 0, .slice none 0 0], Zw rfl hL0, hR0, lm1 q0, lm2 q1, lm1 q2, lm2 q3, lm2 q4, fun _ => ⟨ZJ, fun _ => rfl⟩, q6, nof hdn hs 7, fun w h => by rw [hs] at h; exact h.perm (.refl _)⟩
 intro s Lz Hz Rz hdn hs hpre hI K hK
 obtain ⟨a1, c1, a2, c2, b8, x8, b9, x9, hL0, hR0, q0, q1, q2, q3, q4, q5, q6, q7, hH⟩ := hI
 obtain ⟨h0, h1, h2, h3, h4, h5⟩ : s 0 = true ∧ s 1 = true ∧ s 2 = true ∧ s 3 = true ∧ s 4 = true ∧ s 5 = true := ⟨hpre 0 rfl, hpre 1 rfl, hpre 2 rfl, hpre 3 rfl, hpre 4 rfl, hpre 5 rfl⟩
 refine Sy.heap hH ?_
 obtain rfl := (q4 h4).2 hs
 refine Sy.heap (H' := (bif s 5 then [(b9, cel 84 x9)] else []) ++ ((b8, cel 27 [.int .i64 0, .int .i64 0, .int .i64 0, .int .i64 0, .int .i64 0, .int .i64 0, .int .i64 0, .int .i64 0, .slice none 0 0]) :: ((b2, cel 27 (btl b (b.sl ab cb))) :: H))) (fun w h => by rw [h4] at h; exact h) ?_
 refine Z1b (l' := btl b (b.sl a1 c1)) rfl (q4 h4).1 (q1 h1).1 Z03 rfl rfl rfl rfl (Nat.le_refl _) ?_
 exact hK _ _ _ ⟨a1, c1, a2, c2, b8, btl b (b.sl a1 c1), b9, x9, hL0, hR0, q0, q1, q2, q3, fun h => ⟨(q4 h).1, fun h => by cases (show true = false from h)⟩, q5, fun _ => rfl, q7, fun w h => by show St ((bif s 5 then [(b9, cel 84 x9)] else []) ++ ((bif s 4 then [(b8, cel 27 (btl b (b.sl a1 c1)))] else []) ++ ((b2, cel 27 (btl b (b.sl ab cb))) :: H))) Rz w; rw [h4]; exact h⟩
 intro s Lz Hz Rz hdn hs hpre hI K hK
 obtain ⟨a1, c1, a2, c2, b8, x8, b9, x9, hL0, hR0, q0, q1, q2, q3, q4, q5, q6, q7, hH⟩ := hI
 obtain ⟨h0, h1, h2, h3, h4, h5, h6⟩ : s 0 = true ∧ s 1 = true ∧ s 2 = true ∧ s 3 = true ∧ s 4 = true ∧ s 5 = true ∧ s 6 = true := ⟨hpre 0 rfl, hpre 1 rfl, hpre 2 rfl, hpre 3 rfl, hpre 4 rfl, hpre 5 rfl, hpre 6 rfl⟩
 refine Sy.heap hH ?_
 obtain rfl := (q5 h5).2 hs
 refine Sy.heap (H' := (b9, cel 84 [.int .i64 0, .int .i64 0, .int .i64 0, .int .i64 0, .int .i64 0, .int .i64 0, .int .i64 0, .int .i64 0, .slice none 0 0]) :: ((bif s 4 then [(b8, cel 27 x8)] else []) ++ ((b2, cel 27 (btl b (b.sl ab cb))) :: H))) (fun w h => by rw [h5] at h; exact h) ?_
 refine Z1b (l' := btl b (b.sl a2 c2)) rfl (q5 h5).1 (q3 h3).1 Zd1 rfl rfl rfl rfl (Nat.le_refl _) ?_
 exact hK _ _ _ ⟨a1, c1, a2, c2, b8, x8, b9, btl b (b.sl a2 c2), hL0, hR0, q0, q1, q2, q3, q4, fun h => ⟨(q5 h).1, fun h => by cases (show true = false from h)⟩, q6, fun _ => rfl, fun w h => by show St ((bif s 5 then [(b9, cel 84 (btl b (b.sl a2 c2)))] else []) ++ ((bif s 4 then [(b8, cel 27 x8)] else []) ++ ((b2, cel 27 (btl b (b.sl ab cb))) :: H))) Rz w; rw [h5]; exact h⟩
 intro Lz Hz Rz hI
 obtain ⟨a1, c1, a2, c2, b8, x8, b9, x9, hL0, hR0, q0, q1, q2, q3, q4, q5, q6, q7, hH⟩ := hI
 obtain rfl := q7 rfl
 obtain rfl := q6 rfl
 refine Sy.weak (L' := [(9, .pointer (some ⟨b9, 0, none⟩)), (8, .pointer (some ⟨b8, 0, none⟩)), (1, .slice aw W.length cw), (2, .pointer (some ⟨b2, 0, none⟩)), (5, .slice am W.length cm)]) (H' := (b9, cel 84 (btl b (b.sl a2 c2))) :: (b8, cel 27 (btl b (b.sl a1 c1))) :: (b2, cel 27 (btl b (b.sl ab cb))) :: H) (R' := Z5 a2 4 (Z7 b.bins) :: Z5 a1 4 (Z7 b.bins) :: Z5 am 2 (ZC M) :: InW M :: R) ?_ (Sub.cons (q5 rfl).1 (Sub.cons (q4 rfl).1 hL0)).lk (fun w h => St.facts (hH w h) (Z0h (q3 rfl).2 (Z0h (q1 rfl).2 hR0)))
 refine sqt 3 rfl (spL rfl rfl (lhA (btl b (b.sl a2 c2)) Z1n rfl rfl rfl) rfl ?_)
 refine clV rfl Z80 rfl rfl (Z27 b a2 c2 hl hr _ _) ?_
 refine pur 1 rfl (sqt 4 rfl (pur 4 rfl (Z0 (sqt 2 rfl (pur 2 rfl ?_)))))
 refine Z15 (ι := {y : Int × Int // WWant b y.1 y.2}) (fun y => ⟨[(1, .slice aw W.length cw), (2, .pointer (some ⟨b2, 0, none⟩)), (5, .slice am W.length cm), (8, .pointer (some ⟨b8, 0, none⟩)), (9, .pointer (some ⟨b9, 0, none⟩)), (10, .int .i64 y.1.1), (11, .int .i64 (Z7E b (wls W)).2), (12, .int .i64 (Z7E b (wls W)).1), (13, .int .i64 y.1.2)], (b9, cel 84 (btl b (b.sl a2 c2))) :: (b8, cel 27 (btl b (b.sl a1 c1))) :: (b2, cel 27 (btl b (b.sl ab cb))) :: H, Z5 a2 4 (Z7 b.bins) :: Z5 a1 4 (Z7 b.bins) :: Z5 am 2 (ZC M) :: InW M :: R⟩) ?_ ?_
 refine Z2 rfl ?_ ?_ <;> intro hc3 <;> try simp only [cS] at hc3
 have hck : b.check = 0 := hc3
 have hok := Barn.ok_of hr hck
 have hmn := hok.many
 rw [hck]
 refine Z0 ?_
 refine Zi [0, 0, 2, 7, 15, 31, 31, 63, 255] (.ld 0 (.tk 1 (.big 2 (.big 3 (tks 4 5 .done))))) ZH (by kernel_rfl) ?_
 refine ld rfl rfl (lhA (btl b (b.sl a2 c2)) Z1n rfl rfl rfl) rfl (Zp 1 rfl ?_)
 refine cl rfl Zfc rfl rfl (Z96 W aw cw (by omega) _ _) ?_
 rintro _ _ R1 ⟨a3, c3, rfl, rfl, hR1⟩
 obtain rfl := hR1.symm
 clear hR1
 refine bg (fun w hs => ⟨(lhA (btl b (b.sl a2 c2)) Z1n rfl rfl rfl) w hs, trivial⟩) ?_
 refine clV rfl ZfH rfl rfl (Z90 b a2 c2 hok W a3 c3 (by omega) (fun x hx => by have := hx8 x hx; omega) _ _) ?_
 refine bgT (Zp 5 rfl (sqt 3 rfl (spL rfl rfl (lhA (btl b (b.sl a2 c2)) Z1n rfl rfl rfl) rfl ?_)))
 refine cl rfl Zcl rfl rfl (Z2J b a2 c2 hok _ _) ?_
 rintro _ _ _ ⟨⟨m, hm, rfl⟩, rfl, rfl⟩
 refine pur 1 rfl (sqt 2 rfl (pur 2 rfl ?_))
 refine Z2 rfl ?_ ?_ <;> intro hc4 <;> try simp only [cS] at hc4
 refine sqr 1 rfl (pur 1 rfl ?_)
 exact ZR ⟨(6, m), ⟨.inr ⟨hck, hm, .inl ⟨hc4, rfl⟩⟩⟩⟩ (by dsimp only; rw [Zbn hck]; exact (by repeat' first | exact Sub.nil | apply Sub.cons | rfl | (simp [lk]; omega))) (fun w h => h.facts SubF.sub)
 refine Z1 ?_
 exact ZR ⟨(0, m), ⟨.inr ⟨hck, hm, .inr ⟨hc4, rfl⟩⟩⟩⟩ (by dsimp only; rw [Zbn hck]; exact (by repeat' first | exact Sub.nil | apply Sub.cons | rfl | (simp [lk]; omega))) (fun w h => h.facts SubF.sub)
 have hck : b.check ≠ 0 := hc3
 refine Z1 ?_
 exact ZR ⟨(b.check, 0), ⟨.inl ⟨hck, rfl⟩⟩⟩ (by dsimp only; rw [Zda hck]; exact (by repeat' first | exact Sub.nil | apply Sub.cons | rfl | (simp [lk]; omega))) idH
 rintro ⟨⟨w, lo⟩, hw⟩
 dsimp only at hw ⊢
 refine sqt 7 rfl (spL rfl rfl (lhA (btl b (b.sl a1 c1)) ZD rfl rfl rfl) rfl ?_)
 refine cl rfl ZgV rfl rfl (Zer b a1 c1 hl hr hw _ _) ?_
 rintro _ _ R1 ⟨L, al, cz, hL1, hL2, rfl, rfl, hR1⟩
 obtain rfl := hR1.symm
 clear hR1
 refine pur 5 rfl (sqt 8 rfl (spL rfl rfl (lhA (btl b (b.sl a1 c1)) ZD rfl rfl rfl) rfl (pur 1 rfl ?_)))
 refine clV rfl Zhv rfl rfl (Zcg b a1 c1 hl hr M am cm hMl hM (by omega) (fun x hx => by have h1 := Z1q hx; rw [hM] at h1; obtain ⟨y, hy, e⟩ := List.mem_map.1 h1; have h2 := hx8 y hy; have h3 : y.l = x.l := congrArg Prod.fst e; rw [← h3]; omega) _ _) ?_
 refine pur 5 rfl (Z0 (sqt 22 rfl (pur 4 rfl ?_)))
 refine Zh 85 rfl ?_ ?_ <;> intro g85
 exact absurd g85 (by simp)
 refine pur 5 rfl ?_
 refine Zh 90 rfl ?_ ?_ <;> intro g90
 exact absurd g90 (by simp)
 refine pur 5 rfl ?_
 refine Zh 95 rfl ?_ ?_ <;> intro g95
 exact absurd g95 (by simp)
 refine pur 3 rfl ?_
 refine Zh 98 rfl ?_ ?_ <;> intro g98
 rw [hL1 (of_decide_eq_true g98)]
 refine pur 1 rfl ?_
 refine spG rfl rfl rfl rfl (PE.lenSl Z2f rfl) rfl ?_
 refine pur 3 rfl ?_
 refine Z2 rfl ?_ ?_ <;> intro hc5
 exact absurd hc5 (by simp)
 refine Z1 (Z0 (sqt 2 rfl (pur 2 rfl ?_)))
 refine Z2 rfl ?_ ?_ <;> intro hc6
 exact absurd (of_decide_eq_true hc6) (of_decide_eq_true g98)
 try simp only [cS] at hc6
 refine Z1 (Z0 (sqt 3 rfl (pur 1 rfl (sp rfl (PE.lenSl Z2f rfl) rfl (pur 1 rfl (Z3 ?_))))))
 refine Zj (ι := {i : Nat // i ≤ W.length}) (fun i => ⟨[(1, .slice aw W.length cw), (2, .pointer (some ⟨b2, 0, none⟩)), (5, .slice am W.length cm), (8, .pointer (some ⟨b8, 0, none⟩)), (9, .pointer (some ⟨b9, 0, none⟩)), (137, .slice aw W.length cw), (138, .int .i64 W.length), (139, .int .i64 i.1)], (b9, cel 84 (btl b (b.sl a2 c2))) :: (b8, cel 27 (btl b (b.sl a1 c1))) :: (b2, cel 27 (btl b (b.sl ab cb))) :: H, Z5 a2 4 (Z7 b.bins) :: Z5 a1 4 (Z7 b.bins) :: Z5 am 2 (ZC M) :: InW M :: R⟩) (fun i => W.length - i.1) ⟨0, Nat.zero_le _⟩ ?_ (fun i => ?_)
 exact Zr (fun w h => h.facts SubF.sub)
 obtain ⟨i, hi⟩ := i
 dsimp only at hi ⊢
 refine sqt 1 rfl (pur 1 rfl (Z0 ?_))
 refine Z2 rfl ?_ ?_ <;> intro hc9 <;> try simp only [cS] at hc9
 obtain ⟨x, hx⟩ : ∃ x, W[i]? = some x := ⟨_, List.getElem?_eq_getElem (by omega)⟩
 have hxm := List.mem_of_getElem? hx
 obtain ⟨y, hy⟩ : ∃ y, M[i]? = some y := ⟨_, List.getElem?_eq_getElem (by omega)⟩
 have hym := List.mem_of_getElem? hy
 have hxy : (x.l, x.d) = (y.l, y.d) := by have h1 := Z1f hx; have h2 := Z1f hy; rw [hM, h1] at h2; exact Option.some.inj h2
 have hxyl : x.l = y.l := congrArg Prod.fst hxy
 have hxyd : x.d = y.d := congrArg Prod.snd hxy
 have hxl8 := hx8 x hxm
 refine Zl (a := aw) (sz := 2) (rows := ZC W) (ne0 (by rw [ZM]; omega)) (fun bw ow he => ?_)
 subst he
 refine Zl (a := am) (sz := 2) (rows := ZC M) (ne0 (by rw [ZM]; omega)) (fun bm om he => ?_)
 subst he
 refine Sy.heap (fun w h => St.inwAt (x := x) h hxm) ?_
 refine Sy.heap (fun w h => St.inwAt (x := y) h hym) ?_
 refine Z1 (Z0 (Z3 (sqt 6 rfl (pur 1 rfl (sp rfl (PE.indexAddr Z68 rfl rfl (by omega) (by omega)) rfl (spL rfl rfl (lfA Zdc (row := Z0y x) (Z0r hx) rfl) rfl (alc rfl Z7c rfl (fun b21 => pur 1 rfl ?_))))))))
 refine Z1b (l' := Z0y x) rfl rfl rfl Zef rfl rfl rfl rfl (nl rfl) ?_
 refine Z0 ?_
 refine Zi [0, 0, 3, 7, 15, 0, 32, 127, 255, 511, 511, 2047, 4095, 8191, 511, 16895, 65535, 131071, 262143] (tks 0 4 (.ld 4 (.tk 5 (.ld 6 (tks 7 6 (.ld 13 (.tk 14 (.ld 15 (.big 16 (.tk 17 (.tk 18 .done))))))))))) ZH (by kernel_rfl) ?_
 refine Zp 2 rfl (tk rfl (PE.indexAddr Z68 rfl rfl (by omega) (by omega)) rfl (tk rfl (PE.fA Z2j rfl) rfl (ld rfl rfl (lf (j := 1) (row := Z0y y) sc3 (Z0r hy) rfl) rfl (tk rfl (PE.fA Z2j rfl) rfl (ld rfl rfl (lh sc3 rfl rfl) rfl (Zp 2 rfl ?_))))))
 refine Zh 152 rfl ?_ ?_ <;> intro g152
 exact absurd g152 (by rw [hxyd]; simp)
 refine Zp 2 rfl ?_
 refine tkG rfl rfl rfl rfl (PE.indexAddr Z68 rfl rfl (by omega) (by omega)) rfl ?_
 refine tkG rfl rfl rfl rfl (PE.fA Z1R rfl) rfl ?_
 refine ldG rfl rfl rfl rfl rfl (lf (j := 0) (row := Z0y y) Z2g (Z0r hy) rfl) rfl ?_
 refine tkG rfl rfl rfl rfl (PE.fA Z1R rfl) rfl ?_
 refine ldG rfl rfl rfl rfl rfl (lh Z2g rfl rfl) rfl ?_
 refine Z0K rfl rfl rfl rfl Zek rfl rfl (Z6j y.l x.l y.a x.a y.c x.c (by rw [← hxyl]; omega) (by omega) _ _) ?_
 refine bgT (Zp 2 rfl ?_)
 refine Z2 rfl ?_ ?_ <;> intro hc10
 exact absurd hc10 (by rw [hxyl]; simp)
 refine Z1 (sqr 2 rfl (sp rfl (PE.add rfl rfl (by omega)) rfl (pur 1 rfl ?_)))
 exact Zn ⟨i + 1, by omega⟩ (fun w h => (h.del b21).ftail.ftail)
 refine Zb (Zf (Zf (ZB (sqt 7 rfl (spL rfl rfl (lhA (btl b (b.sl a1 c1)) ZD rfl rfl rfl) rfl (spL rfl rfl (lhA (btl b (b.sl ab cb)) ZD rfl rfl rfl) rfl ?_))))))
 refine clV rfl Z1J rfl rfl (Z0S b a1 c1 b ab cb hl hl hr hr _ _) ?_
 refine pur 1 rfl ?_
 refine Zh 167 rfl ?_ ?_ <;> intro g167
 refine Z0K rfl rfl rfl rfl Z1d rfl rfl (Z02 _ _) ?_
 refine pur 2 rfl (Z4 ?_)
 exact rtA rfl rfl rfl ⟨rfl, rfl, rfl⟩ (fun w h => (((h.del b9).del b8).del b2).facts (fun g hg => by simp [hg]))
 rw [sameB_iff.2 rfl] at g167; exact absurd g167 (by decide)
 refine pur 5 rfl ?_
 refine ZG rfl ?_
 refine Z1 (Z0 (sqt 2 rfl (pur 2 rfl ?_)))
 refine Z2 rfl ?_ ?_ <;> intro hc6 <;> try simp only [cS] at hc6
 obtain ⟨hck, hlo, hlo2⟩ := hw.zero hc6
 obtain ⟨hsv, hLn, hLc, _⟩ := hL2 hc6
 have hok := Barn.ok_of hr hck
 have hmn := hok.many
 have hLz := (Z0O (Z3a (W := wls L) (by rw [hsv])).1).1
 rw [Z0F] at hLz
 have hL4 : ∀ x ∈ L, x.l.length ≤ 1000000 := fun x hx => by have := (Z0D ((Z0O (Z3a (W := wls L) (by rw [hsv])).1).2 _ (Z1q hx))).1; dsimp only at this; omega
 have hn80 : b.dsk.nst ≤ 80 := by unfold Z5W at g24; rw [Bool.or_eq_false_iff, dT hck, Bool.true_and] at g24; have := of_decide_eq_false g24.2; omega
 refine Z0 (sqt 8 rfl (pur 1 rfl (sp rfl (PE.lenSl Z2f rfl) rfl (pur 2 rfl ?_))))
 refine Zh 109 rfl ?_ ?_ <;> intro g109
 simp only [decide_eq_true_eq] at g109; omega
 refine pur 1 rfl ?_
 refine spG rfl rfl rfl rfl (PE.lenSl Z2f rfl) rfl ?_
 refine pur 2 rfl ?_
 refine Z2 rfl ?_ ?_ <;> intro hc7
 simp only [decide_eq_true_eq] at hc7; omega
 refine Z1 (Z0 ?_)
 refine Zi [0, 0, 0, 4, 12, 30, 62, 127, 255, 511, 511, 1023, 4095] (.ld 0 (tks 1 5 (.big 6 (.big 7 (tks 8 5 .done))))) ZH (by kernel_rfl) ?_
 refine ld rfl rfl (lhA (btl b (b.sl a2 c2)) Z1n rfl rfl rfl) rfl (Zp 2 rfl (tk rfl (PE.lenSl Z2f rfl) rfl (tk rfl (PE.min rfl rfl) rfl ?_)))
 rw [show min ((L.length : Nat) : Int) 1000 = ((L.length : Nat) : Int) by omega]
 refine tk rfl (PE.slHi (h := L.length) Zeg rfl rfl (by omega)) rfl ?_
 refine cl rfl Zfc rfl rfl (Z96 L al cz (by omega) _ _) ?_
 rintro _ _ R1 ⟨a5, c5, rfl, rfl, hR1⟩
 obtain rfl := hR1.symm
 clear hR1
 refine bg (fun w hs => ⟨(lhA (btl b (b.sl a2 c2)) Z1n rfl rfl rfl) w hs, trivial⟩) ?_
 refine clV rfl ZfH rfl rfl (ZaX b a2 c2 hok L a5 c5 hsv (by omega) hL4 _ _) ?_
 refine bgT (Zp 5 rfl (sqt 12 rfl (pur 1 rfl (sp rfl (PE.lenSl Z2f rfl) rfl (pur 2 rfl ?_)))))
 refine Zh 128 rfl ?_ ?_ <;> intro g128
 refine pur 3 rfl ?_
 refine Zh 131 rfl ?_ ?_ <;> intro g131
 exact absurd g131 (by simp)
 refine pur 5 rfl ?_
 refine Z2 rfl ?_ ?_ <;> intro hc8
 exact absurd hc8 (by simp)
 refine Z1 (Z0 (sqt 3 rfl (pur 1 rfl (sp rfl (PE.lenSl Z2f rfl) rfl (pur 1 rfl (Z3 ?_))))))
 refine Zj (ι := {i : Nat // i ≤ W.length}) (fun i => ⟨[(1, .slice aw W.length cw), (2, .pointer (some ⟨b2, 0, none⟩)), (5, .slice am W.length cm), (8, .pointer (some ⟨b8, 0, none⟩)), (9, .pointer (some ⟨b9, 0, none⟩)), (137, .slice aw W.length cw), (138, .int .i64 W.length), (139, .int .i64 i.1)], (b9, cel 84 (btl b (b.sl a2 c2))) :: (b8, cel 27 (btl b (b.sl a1 c1))) :: (b2, cel 27 (btl b (b.sl ab cb))) :: H, Z5 a2 4 (Z7 b.bins) :: Z5 a1 4 (Z7 b.bins) :: Z5 am 2 (ZC M) :: InW M :: R⟩) (fun i => W.length - i.1) ⟨0, Nat.zero_le _⟩ ?_ (fun i => ?_)
 exact Zr (fun w h => h.facts SubF.sub)
 obtain ⟨i, hi⟩ := i
 dsimp only at hi ⊢
 refine sqt 1 rfl (pur 1 rfl (Z0 ?_))
 refine Z2 rfl ?_ ?_ <;> intro hc9 <;> try simp only [cS] at hc9
 obtain ⟨x, hx⟩ : ∃ x, W[i]? = some x := ⟨_, List.getElem?_eq_getElem (by omega)⟩
 have hxm := List.mem_of_getElem? hx
 obtain ⟨y, hy⟩ : ∃ y, M[i]? = some y := ⟨_, List.getElem?_eq_getElem (by omega)⟩
 have hym := List.mem_of_getElem? hy
 have hxy : (x.l, x.d) = (y.l, y.d) := by have h1 := Z1f hx; have h2 := Z1f hy; rw [hM, h1] at h2; exact Option.some.inj h2
 have hxyl : x.l = y.l := congrArg Prod.fst hxy
 have hxyd : x.d = y.d := congrArg Prod.snd hxy
 have hxl8 := hx8 x hxm
 refine Zl (a := aw) (sz := 2) (rows := ZC W) (ne0 (by rw [ZM]; omega)) (fun bw ow he => ?_)
 subst he
 refine Zl (a := am) (sz := 2) (rows := ZC M) (ne0 (by rw [ZM]; omega)) (fun bm om he => ?_)
 subst he
 refine Sy.heap (fun w h => St.inwAt (x := x) h hxm) ?_
 refine Sy.heap (fun w h => St.inwAt (x := y) h hym) ?_
 refine Z1 (Z0 (Z3 (sqt 6 rfl (pur 1 rfl (sp rfl (PE.indexAddr Z68 rfl rfl (by omega) (by omega)) rfl (spL rfl rfl (lfA Zdc (row := Z0y x) (Z0r hx) rfl) rfl (alc rfl Z7c rfl (fun b21 => pur 1 rfl ?_))))))))
 refine Z1b (l' := Z0y x) rfl rfl rfl Zef rfl rfl rfl rfl (nl rfl) ?_
 refine Z0 ?_
 refine Zi [0, 0, 3, 7, 15, 0, 32, 127, 255, 511, 511, 2047, 4095, 8191, 511, 16895, 65535, 131071, 262143] (tks 0 4 (.ld 4 (.tk 5 (.ld 6 (tks 7 6 (.ld 13 (.tk 14 (.ld 15 (.big 16 (.tk 17 (.tk 18 .done))))))))))) ZH (by kernel_rfl) ?_
 refine Zp 2 rfl (tk rfl (PE.indexAddr Z68 rfl rfl (by omega) (by omega)) rfl (tk rfl (PE.fA Z2j rfl) rfl (ld rfl rfl (lf (j := 1) (row := Z0y y) sc3 (Z0r hy) rfl) rfl (tk rfl (PE.fA Z2j rfl) rfl (ld rfl rfl (lh sc3 rfl rfl) rfl (Zp 2 rfl ?_))))))
 refine Zh 152 rfl ?_ ?_ <;> intro g152
 exact absurd g152 (by rw [hxyd]; simp)
 refine Zp 2 rfl ?_
 refine tkG rfl rfl rfl rfl (PE.indexAddr Z68 rfl rfl (by omega) (by omega)) rfl ?_
 refine tkG rfl rfl rfl rfl (PE.fA Z1R rfl) rfl ?_
 refine ldG rfl rfl rfl rfl rfl (lf (j := 0) (row := Z0y y) Z2g (Z0r hy) rfl) rfl ?_
 refine tkG rfl rfl rfl rfl (PE.fA Z1R rfl) rfl ?_
 refine ldG rfl rfl rfl rfl rfl (lh Z2g rfl rfl) rfl ?_
 refine Z0K rfl rfl rfl rfl Zek rfl rfl (Z6j y.l x.l y.a x.a y.c x.c (by rw [← hxyl]; omega) (by omega) _ _) ?_
 refine bgT (Zp 2 rfl ?_)
 refine Z2 rfl ?_ ?_ <;> intro hc10
 exact absurd hc10 (by rw [hxyl]; simp)
 refine Z1 (sqr 2 rfl (sp rfl (PE.add rfl rfl (by omega)) rfl (pur 1 rfl ?_)))
 exact Zn ⟨i + 1, by omega⟩ (fun w h => (h.del b21).ftail.ftail)
 refine Zb (Zf (Zf (ZB (sqt 7 rfl (spL rfl rfl (lhA (btl b (b.sl a1 c1)) ZD rfl rfl rfl) rfl (spL rfl rfl (lhA (btl b (b.sl ab cb)) ZD rfl rfl rfl) rfl ?_))))))
 refine clV rfl Z1J rfl rfl (Z0S b a1 c1 b ab cb hl hl hr hr _ _) ?_
 refine pur 1 rfl ?_
 refine Zh 167 rfl ?_ ?_ <;> intro g167
 refine Z0K rfl rfl rfl rfl Z1d rfl rfl (Z02 _ _) ?_
 refine pur 2 rfl (Z4 ?_)
 exact rtA rfl rfl rfl ⟨rfl, rfl, rfl⟩ (fun w h => (((h.del b9).del b8).del b2).facts (fun g hg => by simp [hg]))
 rw [sameB_iff.2 rfl] at g167; exact absurd g167 (by decide)
 simp only [decide_eq_false_iff_not] at g128; omega
 refine Z1 (Z0 (sqt 3 rfl (pur 1 rfl (sp rfl (PE.lenSl Z2f rfl) rfl (pur 1 rfl (Z3 ?_))))))
 refine Zj (ι := {i : Nat // i ≤ W.length}) (fun i => ⟨[(1, .slice aw W.length cw), (2, .pointer (some ⟨b2, 0, none⟩)), (5, .slice am W.length cm), (8, .pointer (some ⟨b8, 0, none⟩)), (9, .pointer (some ⟨b9, 0, none⟩)), (137, .slice aw W.length cw), (138, .int .i64 W.length), (139, .int .i64 i.1)], (b9, cel 84 (btl b (b.sl a2 c2))) :: (b8, cel 27 (btl b (b.sl a1 c1))) :: (b2, cel 27 (btl b (b.sl ab cb))) :: H, Z5 a2 4 (Z7 b.bins) :: Z5 a1 4 (Z7 b.bins) :: Z5 am 2 (ZC M) :: InW M :: R⟩) (fun i => W.length - i.1) ⟨0, Nat.zero_le _⟩ ?_ (fun i => ?_)
 exact Zr (fun w h => h.facts SubF.sub)
 obtain ⟨i, hi⟩ := i
 dsimp only at hi ⊢
 refine sqt 1 rfl (pur 1 rfl (Z0 ?_))
 refine Z2 rfl ?_ ?_ <;> intro hc9 <;> try simp only [cS] at hc9
 obtain ⟨x, hx⟩ : ∃ x, W[i]? = some x := ⟨_, List.getElem?_eq_getElem (by omega)⟩
 have hxm := List.mem_of_getElem? hx
 obtain ⟨y, hy⟩ : ∃ y, M[i]? = some y := ⟨_, List.getElem?_eq_getElem (by omega)⟩
 have hym := List.mem_of_getElem? hy
 have hxy : (x.l, x.d) = (y.l, y.d) := by have h1 := Z1f hx; have h2 := Z1f hy; rw [hM, h1] at h2; exact Option.some.inj h2
 have hxyl : x.l = y.l := congrArg Prod.fst hxy
 have hxyd : x.d = y.d := congrArg Prod.snd hxy
 have hxl8 := hx8 x hxm
 refine Zl (a := aw) (sz := 2) (rows := ZC W) (ne0 (by rw [ZM]; omega)) (fun bw ow he => ?_)
 subst he
 refine Zl (a := am) (sz := 2) (rows := ZC M) (ne0 (by rw [ZM]; omega)) (fun bm om he => ?_)
 subst he
 refine Sy.heap (fun w h => St.inwAt (x := x) h hxm) ?_
 refine Sy.heap (fun w h => St.inwAt (x := y) h hym) ?_
 refine Z1 (Z0 (Z3 (sqt 6 rfl (pur 1 rfl (sp rfl (PE.indexAddr Z68 rfl rfl (by omega) (by omega)) rfl (spL rfl rfl (lfA Zdc (row := Z0y x) (Z0r hx) rfl) rfl (alc rfl Z7c rfl (fun b21 => pur 1 rfl ?_))))))))
 refine Z1b (l' := Z0y x) rfl rfl rfl Zef rfl rfl rfl rfl (nl rfl) ?_
 refine Z0 ?_
 refine Zi [0, 0, 3, 7, 15, 0, 32, 127, 255, 511, 511, 2047, 4095, 8191, 511, 16895, 65535, 131071, 262143] (tks 0 4 (.ld 4 (.tk 5 (.ld 6 (tks 7 6 (.ld 13 (.tk 14 (.ld 15 (.big 16 (.tk 17 (.tk 18 .done))))))))))) ZH (by kernel_rfl) ?_
 refine Zp 2 rfl (tk rfl (PE.indexAddr Z68 rfl rfl (by omega) (by omega)) rfl (tk rfl (PE.fA Z2j rfl) rfl (ld rfl rfl (lf (j := 1) (row := Z0y y) sc3 (Z0r hy) rfl) rfl (tk rfl (PE.fA Z2j rfl) rfl (ld rfl rfl (lh sc3 rfl rfl) rfl (Zp 2 rfl ?_))))))
 refine Zh 152 rfl ?_ ?_ <;> intro g152
 exact absurd g152 (by rw [hxyd]; simp)
 refine Zp 2 rfl ?_
 refine tkG rfl rfl rfl rfl (PE.indexAddr Z68 rfl rfl (by omega) (by omega)) rfl ?_
 refine tkG rfl rfl rfl rfl (PE.fA Z1R rfl) rfl ?_
 refine ldG rfl rfl rfl rfl rfl (lf (j := 0) (row := Z0y y) Z2g (Z0r hy) rfl) rfl ?_
 refine tkG rfl rfl rfl rfl (PE.fA Z1R rfl) rfl ?_
 refine ldG rfl rfl rfl rfl rfl (lh Z2g rfl rfl) rfl ?_
 refine Z0K rfl rfl rfl rfl Zek rfl rfl (Z6j y.l x.l y.a x.a y.c x.c (by rw [← hxyl]; omega) (by omega) _ _) ?_
 refine bgT (Zp 2 rfl ?_)
 refine Z2 rfl ?_ ?_ <;> intro hc10
 exact absurd hc10 (by rw [hxyl]; simp)
 refine Z1 (sqr 2 rfl (sp rfl (PE.add rfl rfl (by omega)) rfl (pur 1 rfl ?_)))
 exact Zn ⟨i + 1, by omega⟩ (fun w h => (h.del b21).ftail.ftail)
 refine Zb (Zf (Zf (ZB (sqt 7 rfl (spL rfl rfl (lhA (btl b (b.sl a1 c1)) ZD rfl rfl rfl) rfl (spL rfl rfl (lhA (btl b (b.sl ab cb)) ZD rfl rfl rfl) rfl ?_))))))
 refine clV rfl Z1J rfl rfl (Z0S b a1 c1 b ab cb hl hl hr hr _ _) ?_
 refine pur 1 rfl ?_
 refine Zh 167 rfl ?_ ?_ <;> intro g167
 refine Z0K rfl rfl rfl rfl Z1d rfl rfl (Z02 _ _) ?_
 refine pur 2 rfl (Z4 ?_)
 exact rtA rfl rfl rfl ⟨rfl, rfl, rfl⟩ (fun w h => (((h.del b9).del b8).del b2).facts (fun g hg => by simp [hg]))
 rw [sameB_iff.2 rfl] at g167; exact absurd g167 (by decide)
theorem Zc7 : arN Tryz.prog 29 = some (2, 1) := by kernel_rfl
theorem Zhu : cal Tryz.prog 19 = true := by kernel_rfl
theorem Zhn : cal Tryz.prog 20 = true := by kernel_rfl
theorem Zhp : cal Tryz.prog 21 = true := by kernel_rfl
theorem Zhk : cal Tryz.prog 22 = true := by kernel_rfl
theorem ZgS : cal Tryz.prog 23 = true := by kernel_rfl
theorem ZhH : cal Tryz.prog 9 = true := by kernel_rfl
theorem Z4m (b : Barn) (ab : Option Addr) (cb : Nat) (n0 n1 lo hi : Int) (hn : -9223372036854775808 ≤ n0 ∧ n0 ≤ 9223372036854775807) (hlo : -9223372036854775808 ≤ lo ∧ lo ≤ 9223372036854775807) (hhi : -9223372036854775808 ≤ hi ∧ hi ≤ 9223372036854775807) (pl : List PL) (ap : Option Addr) (cp : Nat) (hpl : pl.length ≤ 9223372036854775807) (hpi : ∀ x ∈ pl, x.l.length ≤ 9223372036854775807) (ql : List PL) (aq : Option Addr) (cq : Nat) (hql : ql.length ≤ 9223372036854775807) (hqi : ∀ x ∈ ql, x.l.length ≤ 9223372036854775807) (W : List WE) (aw : Option Addr) (cw : Nat) (hwl : W.length ≤ 9223372036854775807) (hwx : ∀ x ∈ W, x.l.length ≤ 9223372036854775807) (hl9 : b.bins.length ≤ 4398046511104) (hr : b.rise.length = 6) (H : Zg) (R : Z6) [hB : MemRows ab 4 (Z7 b.bins) R] [hP : MemRows ap 1 (Z9 pl) R] [hI : MemF (Inn pl) R] [hQ : MemRows aq 1 (Z9 ql) R] [hJ : MemF (Inn ql) R] [hW : MemRows aw 2 (ZC W) R] [hN : MemF (InW W) R] :
    Fn Tryz.prog 6 [b.v (b.sl ab cb), .agg #[.int .i64 n0, .int .i64 n1], .agg #[.int .i64 lo, .int .i64 hi], .slice ap pl.length cp, .slice aq ql.length cq, .slice aw W.length cw] H R (fun v H' R' => v = .bool true ∧ H' = H ∧ R' = R) := by
 refine Zy Tryz.func6 rfl Tryz.ntmps6 rfl ?_
 refine sqt 4 rfl (bx rfl rfl rfl (fun b6 => bx rfl rfl rfl (fun b7 => bx rfl rfl rfl (fun b8 => pur 1 rfl (sqt 34 rfl (spL rfl rfl (lhA (btl b (b.sl ab cb)) ZD rfl rfl rfl) rfl (sp rfl (PE.indexArr Zc7 rfl rfl (by decide) (by decide)) rfl (spL rfl rfl (lh sc3 rfl rfl) rfl (spL rfl rfl (lhA [.int .i64 lo, .int .i64 hi] Z7O rfl rfl rfl) rfl ?_)))))))))
 refine cl rfl Zhu rfl rfl (Z7r b ab cb n0 lo hi hn hlo hhi (by omega) hr _ _) ?_
 rintro _ _ _ ⟨rfl, rfl, rfl⟩
 refine pur 1 rfl ?_
 refine Zh 18 rfl ?_ ?_ <;> intro g18
 refine Z0o rfl rfl rfl rfl rfl (lhA (btl b (b.sl ab cb)) ZD rfl rfl rfl) rfl (pur 1 rfl ?_)
 refine spG rfl rfl rfl rfl (PE.indexArr Zc7 rfl rfl (by decide) (by decide)) rfl ?_
 refine Z0o rfl rfl rfl rfl rfl (lh sc3 rfl rfl) rfl ?_
 refine clG rfl rfl rfl rfl Zhn rfl rfl (Z8f b ab cb pl ap cp hpl hpi n0 hn (by omega) hr _ _) ?_
 rintro _ _ _ ⟨rfl, rfl, rfl⟩
 refine pur 2 rfl ?_
 refine Zh 25 rfl ?_ ?_ <;> intro g25
 refine Z0o rfl rfl rfl rfl rfl (lhA (btl b (b.sl ab cb)) ZD rfl rfl rfl) rfl ?_
 refine clG rfl rfl rfl rfl Zhp rfl rfl (Z6k b ab cb hl9 hr _ _) ?_
 rintro _ _ _ ⟨rfl, rfl, rfl⟩
 refine pur 2 rfl ?_
 refine Zh 29 rfl ?_ ?_ <;> intro g29
 refine Z0o rfl rfl rfl rfl rfl (lhA (btl b (b.sl ab cb)) ZD rfl rfl rfl) rfl ?_
 refine spG rfl rfl rfl rfl (PE.indexArr Zc7 rfl rfl (by decide) (by decide)) rfl ?_
 refine Z0o rfl rfl rfl rfl rfl (lh sc3 rfl rfl) rfl ?_
 refine clG rfl rfl rfl rfl Zhk rfl rfl (Z7e b ab cb n1 hl9 hr _ _) ?_
 rintro _ _ _ ⟨rfl, rfl, rfl⟩
 refine pur 2 rfl ?_
 refine Zh 35 rfl ?_ ?_ <;> intro g35
 refine Z0o rfl rfl rfl rfl rfl (lhA (btl b (b.sl ab cb)) ZD rfl rfl rfl) rfl (pur 2 rfl ?_)
 refine clG rfl rfl rfl rfl ZhH rfl rfl (Z46 b ab cb pl ap cp hpl hpi ql aq cq hql hqi hl9 hr _ _) ?_
 rintro _ _ _ ⟨rfl, rfl, rfl⟩
 refine pur 2 rfl ?_
 refine Zh 41 rfl ?_ ?_ <;> intro g41
 refine Z0o rfl rfl rfl rfl rfl (lhA (btl b (b.sl ab cb)) ZD rfl rfl rfl) rfl (pur 1 rfl ?_)
 refine clG rfl rfl rfl rfl ZgS rfl rfl (Z8u b ab cb W aw cw hwl hwx hl9 hr _ _) ?_
 rintro _ _ _ ⟨rfl, rfl, rfl⟩
 refine pur 2 rfl (Z4 ?_)
 exact rtA rfl rfl rfl ⟨rfl, rfl, rfl⟩ (fun w h => ((h.del b8).del b7).del b6)
 exact absurd g41 (by simp)
 exact absurd g35 (by simp)
 exact absurd g29 (by simp)
 exact absurd g25 (by simp)
 exact absurd g18 (by simp)
theorem ZaM (o : Obj) : ∃ o2 : Obj, o2 ≠ o := by
  by_cases h : o = cel 0 []
  · refine ⟨cel 0 [.bool true], fun e => ?_⟩
    rw [h] at e
    simp [cel] at e
  · exact ⟨cel 0 [], fun e => h e.symm⟩
theorem St.backNot {b : Nat} {o : Obj} {T : Zg} {R R' : Z6} {w : World} (h : St T (Za8 b o R :: R') w) : b ∉ ids T := fun hb => by
  obtain ⟨o2, ho⟩ := ZaM o
  have h0 := (h.now (f := Za8 b o R) (by simp)).1
  have hlt : b < w.heap.size := (Array.getElem?_eq_some_iff.1 h0).1
  have k1 : Keep (ids T) w { w with heap := w.heap.setIfInBounds b o2 } := ⟨rfl, rfl, rfl, by simp, fun i hi hn => by
    show (w.heap.setIfInBounds b o2)[i]? = _
    rw [Array.getElem?_setIfInBounds_ne (fun (e : b = i) => hn (e ▸ hb))]⟩
  have h2 := (h.fact (Za8 b o R) (by simp) _ k1).1
  have h3 : (w.heap.setIfInBounds b o2)[b]? = some o := h2
  rw [Array.getElem?_setIfInBounds_self_of_lt hlt] at h3
  exact ho (Option.some.inj h3)
theorem Fn.lendG {P : Program} {f : FuncId} {args : List Value} {b e sz : Nat} {rows : List (List Value)} {junk : List Value} {H T : Zg} {R : Z6} {Q : Value → Zg → Prop} [pl : Pull b (cel e (rows.flatten ++ junk)) H T] (hs : ∀ r ∈ rows, r.length = sz)
    (h : ∀ B : World → Prop, Fn P f args T (Z5 (some ⟨b, 0, none⟩) sz rows :: B :: R) (fun v H' R' => Q v H' ∧ R' = Z5 (some ⟨b, 0, none⟩) sz rows :: B :: R)) :
    Fn P f args H R (fun v H' R' => ∃ H1, Q v H1 ∧ H' = (b, cel e (rows.flatten ++ junk)) :: H1 ∧ R' = R) := fun w hw => by
  have h1 := hw.perm pl.perm
  have h3 : St T (Z5 (some ⟨b, 0, none⟩) sz rows :: Za8 b (cel e (rows.flatten ++ junk)) R :: R) w :=
    St.also h1.lend (fun w' hg => Z1W (hg (Za8 b (cel e (rows.flatten ++ junk)) R) (by simp)).1 hs)
  refine CallsIn.mono (h _ w h3) ?_
  rintro e' w' ⟨u, H', R', ⟨hq, rfl⟩, he, hs'⟩
  exact ⟨_, _, R, ⟨H', hq, rfl, rfl⟩, he, St.unlend hs'.ftail hs'.ftail.backNot⟩
theorem ZeC (b : Barn) (ba cb : Nat) (junk : List Value) (hl : b.bins.length ≤ 9223372036854775807) (hr : b.rise.length = 6) (H : Zg) (R : Z6) {T : Zg} [pl : Pull ba (cel 40 ((Z7 b.bins).flatten ++ junk)) H T] : Fn Tryz.prog 5 [b.v (b.sl (some ⟨ba, 0, none⟩) cb)] H R (fun v H' R' => ∃ H1, (∃ (W : List WO) (o : OSl 37 2 (ZC (wos W))) (er : Int), W.length ≤ 14641 ∧ (∀ x ∈ wos W, x.l.length ≤ 4) ∧ v = .tuple #[o.fs, .int .i64 er] ∧ H1 = o.G ++ (wob W ++ T)) ∧ H' = (ba, cel 40 ((Z7 b.bins).flatten ++ junk)) :: H1 ∧ R' = R) :=
  Fn.lendG (sz := 4) (Z38 b.bins) fun B => Fn.mono (Zbq b (some ⟨ba, 0, none⟩) cb hl hr _ _) fun v H' R' hq => by
    rcases hq with ⟨h1, rfl, rfl, rfl⟩ | ⟨h1, h2, rfl, rfl, rfl⟩ | ⟨h1, m, W, o, h2, h3, h4, h5, h6, rfl, rfl, rfl⟩
    · exact ⟨⟨[], OSl.nil _ _, b.check, by decide, by intro x hx; simp [wos] at hx, rfl, rfl⟩, rfl⟩
    · exact ⟨⟨[], OSl.nil _ _, 6, by decide, by intro x hx; simp [wos] at hx, rfl, rfl⟩, rfl⟩
    · have hok := Barn.ok_of hr h1
      have hmn := hok.many
      have hLz := (Z0O (Z3a (W := wls (wos W)) (by rw [h4])).1).2
      exact ⟨⟨W, o, 0, by have := (b.dsk.nst_le (b.dsk_ok hok)).2; omega, fun x hx => by have := (Z0D (hLz _ (Z1q hx))).1; dsimp only at this; omega, rfl, rfl⟩, rfl⟩
end Go.Proofs.YtnifcjgnageniaaGreat
