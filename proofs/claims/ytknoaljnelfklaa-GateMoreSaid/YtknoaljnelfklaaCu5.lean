/- Walks of the functions of the program, and the laws that join them: what the last theorem of this claim needs, in order. -/
import Derived.Test.YtknoaljnelfklaaCu4
namespace Go.Proofs.Ytknoaljnelfklaa
set_option linter.unusedSimpArgs false
set_option linter.unusedVariables false
open Go
theorem cal42 : cal Try.prog 42 = true := by kernel_rfl
theorem cal53 : cal Try.prog 53 = true := by kernel_rfl
theorem cal55 : cal Try.prog 55 = true := by kernel_rfl
theorem bx_lo {b : Box} (hb : b.length = 8) {k : Nat} (hk : k < 4) : (ints b)[0 + ((k : Nat) : Int).toNat * 2 + 0]? = some (.int .i64 (bl b k)) := by
  obtain ⟨a0, a1, a2, a3, a4, a5, a6, a7, rfl⟩ := list8 hb
  rcases lt4 hk with rfl | rfl | rfl | rfl <;> rfl
theorem bx_hi {b : Box} (hb : b.length = 8) {k : Nat} (hk : k < 4) : (ints b)[0 + ((k : Nat) : Int).toNat * 2 + 1]? = some (.int .i64 (bh b k)) := by
  obtain ⟨a0, a1, a2, a3, a4, a5, a6, a7, rfl⟩ := list8 hb
  rcases lt4 hk with rfl | rfl | rfl | rfl <;> rfl
structure BndP (g : Gat) (c : Crt) (m : Mix) (b : Box) : Prop where
  told : toldE g c false = 0
  bnd : bndB g c = b
  tight : Tight b
  can : canR g c = canG g.grs b
  mx : ∀ m', Mx b m' ↔ (Mxt m' ∧ ∀ x ∈ c.hs, fitB g.miss x m' = true)
  at_ : ∀ k < 4, 0 ≤ bl b k ∧ bl b k ≤ nn m k ∧ nn m k ≤ bh b k ∧ bh b k ≤ 40
  wgt : ∀ k < 4, wgtR g c (k : Nat) = .tuple #[spv ((netP g c).1 * bl b k / 40) ((netP g c).2 * bh b k / 40), .int .i64 0]
theorem md_bnd {ng nh : Int} {g : Gat} {c : Crt} {m : Mix} (h : MdOk ng nh g c m) : ∃ b, BndP g c m b := by
  obtain ⟨h0, h1, b, hb, hbt, hmx⟩ := md_told h
  have hm := (hmx m).2 ⟨h.mix, h.fit⟩
  refine ⟨b, h1, bnd_of h1 hb, hbt, canR_of h1 hb, hmx, fun k hk => ?_, fun k hk => ?_⟩
  · have h2 := hm.at_ k hk
    have h3 := hbt.ok.at_ k hk
    omega
  · have hi : (!(inb (k : Nat) 0 3)) = false := by simp [inb]; omega
    unfold wgtR
    rw [hi, decide_eq_false (show ¬ toldE g c false ≠ 0 by omega), bnd_of h1 hb]; rfl
theorem tak_md {nh : Int} {g : Gat} {c : Crt} {m : Mix} (hm : MdOk 4 nh g c m) (hn : nh ≤ 5) {h : Hnd} (hh : h.ok) (hf : fitB g.miss h m = true) : ∃ d : Crt, takR c h = (d, 0) ∧ MdOk 4 6 g d m ∧ d.hs = c.hs ++ [h] ∧ d.full = c.full ∧ d.empty = c.empty := by
  have hd := md_take hm hn hh hf
  have h1 := crt_ok.2 hm.cok
  have h2 := crt_ok.2 hd.cok
  have h3 := hm.more
  exact ⟨_, by unfold takR; rw [decide_eq_false (show ¬ c.check ≠ 0 by omega), decide_eq_false (show ¬ c.hs.length = 6 by omega), decide_eq_false (show ¬ Crt.check { c with hs := c.hs ++ [h] } ≠ 0 by omega)]; rfl, hd, rfl, rfl, rfl⟩
structure MoreP (g : Gat) (c d : Crt) (b b' : Box) (l l' : List Int) : Prop where
  at_ : ∀ k < 4, bl b k ≤ bl b' k ∧ bh b' k ≤ bh b k
  can : canR g c = l
  can' : canR g d = l'
  sub : ∀ x ∈ l', x ∈ l
  few : l.length ≤ g.grs.length + 1
  few' : l'.length ≤ g.grs.length + 1
  net : netP g d = netP g c
theorem md_more {nh nh' : Int} {g : Gat} {c d : Crt} {m : Mix} {b b' : Box} {h : Hnd} (hb : BndP g c m b) (hb' : BndP g d m b') (hd : d.hs = c.hs ++ [h]) (hf : d.full = c.full) (he : d.empty = c.empty) : ∃ l l', MoreP g c d b b' l l' := by
  have hsub : ∀ m', Mx b' m' → Mx b m' := fun m' h1 => by
    obtain ⟨h2, h3⟩ := (hb'.mx m').1 h1
    exact (hb.mx m').2 ⟨h2, fun x hx => h3 x (by rw [hd]; simp [hx])⟩
  refine ⟨_, _, fun k hk => mx_less hb'.tight hsub hk, hb.can, hb'.can, fun x hx => ?_, can_len _ _, can_len _ _, by unfold netP; rw [hf, he]⟩
  obtain ⟨m', h1, h2⟩ := (can_iff hb'.tight.ok).1 hx
  exact (can_iff hb.tight.ok).2 ⟨m', hsub m' h1, h2⟩
theorem c_more1 (xs : List Int) (a : Option Addr) (c b : Nat) (hl : xs.length ≤ 9223372036854775807) (i : Int) (H : Heap) (R : Facts) [hR : MemRows a 1 (irows xs) R] [hM : Mem1 b (cel 34 [.slice a xs.length c]) H] :
    FnV Try.prog 55 [.int .i64 i, .pointer (some ⟨b, 0, none⟩)] H R (.bool !(decide (i ∈ xs))) := by
 refine fn_of Try.func55 rfl Try.ntmps55 rfl ?_
 refine sy_seq ?_
 refine sy_tx' [0] rfl ?_
 refine sp rfl (PE.assign rfl) rfl ?_
 refine sy_seq ?_
 refine sy_tx' [0, 1, 2, 3, 4] rfl ?_
 refine spL rfl rfl (lh sc34 rfl rfl) rfl ?_
 refine sp rfl (PE.move rfl) rfl ?_
 refine clV rfl cal33 rfl rfl (c_contains_int xs a c i hl _ _) ?_
 refine sp rfl (PE.not rfl) rfl ?_
 refine sp rfl (PE.assign rfl) rfl ?_
 refine sy_ret ?_
 exact sy_return (vs := [_]) rfl (.cons (RV.tmp rfl) .nil) rfl ⟨by simp only [retV]; rw [show (xs.any fun x => decide (i = x)) = decide (i ∈ xs) from by rw [Bool.eq_iff_iff]; simp], rfl, rfl⟩ drp
theorem c_GateMore (l0 : List Int) (a0 : Option Addr) (c0 : Nat) (hl0 : l0.length ≤ 9223372036854775807) (l1 : List Int) (a1 : Option Addr) (c1 : Nat) (hl1 : l1.length ≤ 9223372036854775807) (H : Heap) (R : Facts) [hG : MemRows a0 1 (urows l0) R] [hG2 : MemRows a1 1 (urows l1) R] :
    Fn Try.prog 8 [.slice a0 l0.length c0, .slice a1 l1.length c1] H R (fun v H' R' => v = .bool true ∧ H' = H ∧ R' = R) := by
 refine fn_of Try.func8 rfl Try.ntmps8 rfl ?_
 refine sy_seq ?_
 refine sy_tx' [0] rfl ?_
 refine sp rfl (PE.assign rfl) rfl ?_
 refine sy_seq ?_
 refine sy_tx' [0, 1, 2, 3, 4, 5, 6, 7, 8, 9, 10, 11, 12] rfl ?_
 refine sp rfl (PE.move rfl) rfl ?_
 refine cl rfl cal14 rfl rfl (c_Fill l0 a0 c0 hl0 _ _) ?_
 rintro _ _ R1 ⟨bk, mk, hmk, rfl, rfl, hR1⟩
 obtain rfl := hR1.symm
 clear hR1
 refine cl rfl cal13 rfl rfl (c_Made l0 a0 c0 bk hl0 0 mk (by omega) hmk 4 5 (by omega) (by omega) _ _) ?_
 rintro _ _ R1 ⟨g, c, m, ag, cg, ah, ch, tq1, mx1, hmd, hcg, rfl, _, _, rfl, hR1⟩
 obtain rfl := hR1.symm
 clear hR1
 refine Sy.heap (fun w h => h.del bk) ?_
 have hgm := hmd.gok.many
 have hcm := hmd.cok.many
 refine sp rfl (PE.move rfl) rfl ?_
 refine sp rfl (PE.extract rfl rfl) rfl ?_
 refine sp rfl (PE.extract rfl rfl) rfl ?_
 refine sp rfl (PE.extract rfl rfl) rfl ?_
 refine alc rfl zl25 rfl (fun b5 => ?_)
 refine alc rfl zl28 rfl (fun b6 => ?_)
 refine alc rfl zl29 rfl (fun b7 => ?_)
 refine sto rfl rfl rfl cn25 rfl rfl rfl rfl ?_
 refine sto rfl rfl rfl cn28 rfl rfl rfl rfl ?_
 refine stoA rfl rfl rfl cn29 rfl (by rw [ints_length]; exact hmd.mix.len) rfl (ints_one _) ?_
 refine sy_seq ?_
 refine sy_draw [0, 0, 2, 0, 0, 30, 63, 127, 255, 255, 0, 1535, 4095] (.ld 0 (.tk 1 (.ld 3 (.ld 4 (.any (.alt 2 (.any (.alt 5 (.any (.alt 6 (.tk 7 (.tk 8 (.tk 9 (.big 10 (.big 11 (.tk 12 .done)))))) (.alt 10 (.big 6 (.tk 7 (.tk 8 (.tk 9 (.big 11 (.tk 12 .done)))))) .stop))) (.alt 10 (.big 5 (.big 6 (.tk 7 (.tk 8 (.tk 9 (.big 11 (.tk 12 .done))))))) .stop))) (.alt 10 (.big 2 (.big 5 (.big 6 (.tk 7 (.tk 8 (.tk 9 (.big 11 (.tk 12 .done)))))))) .stop))))))) mixed (by kernel_rfl) ?_
 refine ld rfl rfl (lhA [_, _, _] ag28 rfl rfl rfl) rfl ?_
 refine tk rfl (PE.move rfl) rfl ?_
 refine ld rfl rfl (lhA [_, _, _] ag25 rfl rfl rfl) rfl ?_
 refine ld rfl rfl (lhA (ints (m)) ag29 rfl (rest := []) (by rw [List.append_nil]; rfl) (by rw [ints_length]; exact hmd.mix.len)) rfl ?_
 refine sy_alt ?_ ?_
 refine cl rfl cal14 rfl rfl (c_Fill l1 a1 c1 hl1 _ _) ?_
 rintro _ _ R1 ⟨bj, mj, hmj, rfl, rfl, hR1⟩
 obtain rfl := hR1.symm
 clear hR1
 refine bg (fun w hs => ⟨(lhA (ints (m)) ag29 rfl (rest := []) (by rw [List.append_nil]; rfl) (by rw [ints_length]; exact hmd.mix.len)) w hs, (lhA [_, _, _] ag25 rfl rfl rfl) w hs, (lhA [_, _, _] ag28 rfl rfl rfl) w hs, trivial⟩) ?_
 refine sy_alt ?_ ?_
 refine sy_pull bj ?_
 refine cl rfl cal52 rfl rfl (c_Taken l1 a1 c1 bj hl1 0 mj (by omega) hmj g hmd.gok.miss (g.sl ag cg) m hmd.mix _ _) ?_
 rintro _ _ R1 ⟨h, tq4, mx4, hho, hhf, rfl, _, _, rfl, hR1⟩
 obtain rfl := hR1.symm
 clear hR1
 refine Sy.heap (fun w h => h.del bj) ?_
 obtain ⟨d, htk, hdd, hdh, hdf, hde⟩ := tak_md hmd (by omega) hho hhf
 refine bg (fun w hs => ⟨trivial, trivial, (lhA [_, _, _] ag28 rfl rfl rfl) w hs, trivial⟩) ?_
 refine sy_alt ?_ ?_
 refine cl rfl cal42 rfl rfl (c_Take c ah ch (by omega) h _ _) ?_
 rintro v _ R1 ⟨a2, cd, hcd, hv, rfl, hR1⟩
 rw [htk] at hcd hv hR1
 dsimp only at hcd hv hR1
 obtain rfl := hv
 obtain rfl := hR1.symm
 clear hR1
 have hdm := hdd.cok.many
 have hdl : d.hs.length = c.hs.length + 1 := by rw [hdh]; simp
 obtain ⟨b, hb⟩ := md_bnd hmd
 obtain ⟨b', hb'⟩ := md_bnd hdd
 obtain ⟨l, l', hmo⟩ := md_more (nh := 0) (nh' := 0) hb hb' hdh hdf hde
 have hfw := hmo.few
 have hfw' := hmo.few'
 have hbl := hb.tight.ok.len
 have hbl' := hb'.tight.ok.len
 obtain ⟨hne, hn1, hn2⟩ := md_net hmd
 refine bg (fun w hs => ⟨trivial, trivial⟩) ?_
 refine tk rfl (PE.move rfl) rfl ?_
 refine tk rfl (PE.extract rfl rfl) rfl ?_
 refine tk rfl (PE.extract rfl rfl) rfl ?_
 refine alc rfl zl28 rfl (fun b8 => ?_)
 refine bg (fun w hs => trivial) ?_
 refine sto rfl rfl rfl cn28 rfl rfl rfl rfl ?_
 refine bg (fun w hs => trivial) ?_
 refine tk rfl (PE.assign rfl) rfl ?_
 refine sy_seq ?_
 refine sy_seq ?_
 refine sy_cut (ι := Unit) (fun _ => ⟨[(5, .pointer (some ⟨b5, 0, none⟩)), (6, .pointer (some ⟨b6, 0, none⟩)), (7, .pointer (some ⟨b7, 0, none⟩)), (8, .pointer (some ⟨b8, 0, none⟩)), (78, .bool false)], (b8, cel 28 (ctl d (d.sl a2 cd))) :: (b7, cel 29 (ints m)) :: (b6, cel 28 (ctl c (c.sl ah ch))) :: (b5, cel 25 (gtl g (g.sl ag cg))) :: H, RowsA a2 5 (hrows d.hs) :: RowsA ah 5 (hrows c.hs) :: RowsA ag 5 (grows g.grs) :: R⟩) ?_ ?_
 refine sy_draw [0, 1, 3, 7, 15, 7, 39, 127, 255, 511, 1023, 2047, 1023, 5119, 16383, 32767, 65535, 131071, 262143, 524287, 131071, 1179647, 3276799, 7471103, 16777215, 33554431, 67108863, 134217727, 268435455, 134217727, 671088639, 1744830463, 4294967295, 134217727, 8724152319, 34359738367, 68719476735, 137438953471] (.tk 0 (.tk 1 (.tk 2 (.tk 3 (.ld 4 (.tk 5 (.ld 6 (.tk 7 (.tk 8 (.tk 9 (.tk 10 (.ld 11 (.tk 12 (.ld 13 (.tk 14 (.tk 15 (.tk 16 (.tk 17 (.ld 18 (.tk 19 (.tk 20 (.ld 21 (.tk 22 (.tk 23 (.tk 24 (.tk 25 (.tk 26 (.tk 27 (.ld 28 (.tk 29 (.ld 30 (.tk 31 (.tk 32 (.tk 33 (.ld 34 (.big 35 (.tk 36 (.tk 37 .done)))))))))))))))))))))))))))))))))))))) mixed (by kernel_rfl) ?_
 refine tk rfl (PE.move rfl) rfl ?_
 refine tk rfl (PE.neq rfl rfl) rfl ?_
 refine tk rfl (PE.move rfl) rfl ?_
 refine sy_case (t := 43) rfl (fun g43 => ?_) (fun g43 => ?_)
 exact absurd g43 (by first | (simp; done) | (rw [decide_eq_false (by omega)]; simp))
 refine tkG rfl rfl rfl rfl (PE.fieldAddr fo28_0 rfl) rfl ?_
 refine ldG rfl rfl rfl rfl rfl (lh sc3 rfl rfl) rfl ?_
 refine tkG rfl rfl rfl rfl (PE.fieldAddr fo28_0 rfl) rfl ?_
 refine ldG rfl rfl rfl rfl rfl (lh sc3 rfl rfl) rfl ?_
 refine tkG rfl rfl rfl rfl (PE.neq rfl rfl) rfl ?_
 refine tk rfl (PE.pick rfl rfl rfl) rfl ?_
 refine tk rfl (PE.move rfl) rfl ?_
 refine sy_case (t := 50) rfl (fun g50 => ?_) (fun g50 => ?_)
 exact absurd g50 (by simp [hdf])
 refine tkG rfl rfl rfl rfl (PE.fieldAddr fo28_1 rfl) rfl ?_
 refine ldG rfl rfl rfl rfl rfl (lh sc3 rfl rfl) rfl ?_
 refine tkG rfl rfl rfl rfl (PE.fieldAddr fo28_1 rfl) rfl ?_
 refine ldG rfl rfl rfl rfl rfl (lh sc3 rfl rfl) rfl ?_
 refine tkG rfl rfl rfl rfl (PE.neq rfl rfl) rfl ?_
 refine tk rfl (PE.pick rfl rfl rfl) rfl ?_
 refine tk rfl (PE.move rfl) rfl ?_
 refine sy_case (t := 57) rfl (fun g57 => ?_) (fun g57 => ?_)
 exact absurd g57 (by simp [hde])
 refine tkG rfl rfl rfl rfl (PE.fieldAddr fo28_2 rfl) rfl ?_
 refine ldG rfl rfl rfl rfl rfl (lh sc26 rfl rfl) rfl ?_
 refine tkG rfl rfl rfl rfl (PE.lenSl isl26 rfl) rfl ?_
 refine tkG rfl rfl rfl rfl (PE.fieldAddr fo28_2 rfl) rfl ?_
 refine ldG rfl rfl rfl rfl rfl (lh sc26 rfl rfl) rfl ?_
 refine tkG rfl rfl rfl rfl (PE.lenSl isl26 rfl) rfl ?_
 refine tkG rfl rfl rfl rfl (PE.add rfl rfl (by omega)) rfl ?_
 refine tkG rfl rfl rfl rfl (PE.neq rfl rfl) rfl ?_
 refine tk rfl (PE.pick rfl rfl rfl) rfl ?_
 refine tk rfl (PE.move rfl) rfl ?_
 refine sy_case (t := 67) rfl (fun g67 => ?_) (fun g67 => ?_)
 exact absurd g67 (by simp [hdl])
 refine tkG rfl rfl rfl rfl (PE.fieldAddr fo28_2 rfl) rfl ?_
 refine ldG rfl rfl rfl rfl rfl (lh sc26 rfl rfl) rfl ?_
 refine tkG rfl rfl rfl rfl (PE.fieldAddr fo28_2 rfl) rfl ?_
 refine ldG rfl rfl rfl rfl rfl (lh sc26 rfl rfl) rfl ?_
 refine tkG rfl rfl rfl rfl (PE.lenSl isl26 rfl) rfl ?_
 refine tkG rfl rfl rfl rfl (PE.slHi sl26 rfl rfl (by omega)) rfl ?_
 refine Sy.heap (fun w h9 => St.rowsTake (a := a2) (sz := 5) (rows := hrows d.hs) h9 c.hs.length) ?_
 rw [show (hrows d.hs).take c.hs.length = hrows c.hs from by rw [hdh]; simp only [hrows, ← List.map_take]; rw [List.take_left]]
 refine tkG rfl rfl rfl rfl (PE.fieldAddr fo28_2 rfl) rfl ?_
 refine ldG rfl rfl rfl rfl rfl (lh sc26 rfl rfl) rfl ?_
 refine clG rfl rfl rfl rfl cal53 rfl rfl (c_eq_hnd c.hs c.hs a2 ah cd ch (by omega) (by omega) _ _) ?_
 rintro _ _ _ ⟨rfl, rfl, rfl⟩
 refine Sy.heap (fun w h => h.ftail) ?_
 rw [decide_eq_true (rfl : c.hs = c.hs)]
 refine bg (fun w hs => ⟨trivial, trivial, trivial, trivial, trivial, trivial, trivial, trivial, trivial, trivial⟩) ?_
 refine tkG rfl rfl rfl rfl (PE.not rfl) rfl ?_
 refine tk rfl (PE.pick rfl rfl rfl) rfl ?_
 exact sy_cutEnd () (by repeat' first | exact Sub.nil | apply Sub.cons | rfl | (simp [lk]; omega)) (fun _ h => h)
 rintro ⟨⟩
 dsimp only
 refine sy_cond rfl (fun hc0 => ?_) (fun hc0 => ?_)
 exact absurd hc0 (by first | (simp; done) | (rw [decide_eq_false (by omega)]; simp))
 refine sy_skip ?_
 refine sy_seq ?_
 refine sy_tx' [0, 1, 2, 3, 4, 5, 6, 7, 8] rfl ?_
 refine spL rfl rfl (lhA [_, _, _] ag25 rfl rfl rfl) rfl ?_
 refine spL rfl rfl (lhA [_, _, _] ag28 rfl rfl rfl) rfl ?_
 refine cl rfl cal50 rfl rfl (c_Bounds g ag cg (by omega) c ah ch (by omega) _ _) ?_
 rintro _ _ _ ⟨rfl, rfl, rfl⟩
 rw [hb.bnd, hb.told]
 refine sp rfl (PE.move rfl) rfl ?_
 refine sp rfl (PE.extract rfl rfl) rfl ?_
 refine sp rfl (PE.extract rfl rfl) rfl ?_
 refine alc rfl zl94 rfl (fun b10 => ?_)
 refine stoA rfl rfl rfl cn94 rfl (by rw [ints_length]; exact hbl) rfl (ints_one _) ?_
 refine sp rfl (PE.assign rfl) rfl ?_
 refine sy_seq ?_
 refine sy_tx' [0, 1, 2, 3, 4, 5, 6, 7, 8] rfl ?_
 refine spL rfl rfl (lhA [_, _, _] ag25 rfl rfl rfl) rfl ?_
 refine spL rfl rfl (lhA [_, _, _] ag28 rfl rfl rfl) rfl ?_
 refine cl rfl cal50 rfl rfl (c_Bounds g ag cg (by omega) d a2 cd (by omega) _ _) ?_
 rintro _ _ _ ⟨rfl, rfl, rfl⟩
 rw [hb'.bnd, hb'.told]
 refine sp rfl (PE.move rfl) rfl ?_
 refine sp rfl (PE.extract rfl rfl) rfl ?_
 refine sp rfl (PE.extract rfl rfl) rfl ?_
 refine alc rfl zl94 rfl (fun b11 => ?_)
 refine stoA rfl rfl rfl cn94 rfl (by rw [ints_length]; exact hbl') rfl (ints_one _) ?_
 refine sp rfl (PE.assign rfl) rfl ?_
 refine sy_seq ?_
 refine sy_tx' [0, 1, 2, 3, 4, 5, 6, 7, 8] rfl ?_
 refine spL rfl rfl (lhA [_, _, _] ag25 rfl rfl rfl) rfl ?_
 refine spL rfl rfl (lhA [_, _, _] ag28 rfl rfl rfl) rfl ?_
 refine cl rfl cal15 rfl rfl (c_Can g ag cg (by omega) hcg c ah ch (by omega) _ _) ?_
 rintro _ _ R1 ⟨o, rfl, rfl, hR1⟩
 obtain rfl := hR1.symm
 clear hR1
 obtain ⟨al, cl1, he, hf⟩ := o.freeze
 rw [he]
 refine Sy.heap (fun w h => hf h) ?_
 rw [show ∀ l : List Int, (irows l).length = l.length from fun l => List.length_map _, hmo.can, hb.told]
 clear he hf o
 refine sp rfl (PE.move rfl) rfl ?_
 refine sp rfl (PE.extract rfl rfl) rfl ?_
 refine sp rfl (PE.extract rfl rfl) rfl ?_
 refine alc rfl zl34 rfl (fun b13 => ?_)
 refine sto rfl rfl rfl cn34 rfl rfl rfl rfl ?_
 refine sp rfl (PE.assign rfl) rfl ?_
 refine sy_seq ?_
 refine sy_tx' [0, 1, 2, 3, 4, 5, 6, 7] rfl ?_
 refine spL rfl rfl (lhA [_, _, _] ag25 rfl rfl rfl) rfl ?_
 refine spL rfl rfl (lhA [_, _, _] ag28 rfl rfl rfl) rfl ?_
 refine cl rfl cal15 rfl rfl (c_Can g ag cg (by omega) hcg d a2 cd (by omega) _ _) ?_
 rintro _ _ R1 ⟨o, rfl, rfl, hR1⟩
 obtain rfl := hR1.symm
 clear hR1
 obtain ⟨al', cl2, he, hf⟩ := o.freeze
 rw [he]
 refine Sy.heap (fun w h => hf h) ?_
 rw [show ∀ l : List Int, (irows l).length = l.length from fun l => List.length_map _, hmo.can', hb'.told]
 clear he hf o
 refine sp rfl (PE.move rfl) rfl ?_
 refine sp rfl (PE.extract rfl rfl) rfl ?_
 refine sp rfl (PE.extract rfl rfl) rfl ?_
 refine sp rfl (PE.assign rfl) rfl ?_
 refine sp rfl (PE.assign rfl) rfl ?_
 refine sy_seq ?_
 refine sy_seq ?_
 refine sy_cut (ι := Unit) (fun _ => ⟨[(5, .pointer (some ⟨b5, 0, none⟩)), (6, .pointer (some ⟨b6, 0, none⟩)), (7, .pointer (some ⟨b7, 0, none⟩)), (8, .pointer (some ⟨b8, 0, none⟩)), (10, .pointer (some ⟨b10, 0, none⟩)), (11, .pointer (some ⟨b11, 0, none⟩)), (13, .pointer (some ⟨b13, 0, none⟩)), (121, .bool false)], (b13, cel 34 [.slice al l.length cl1]) :: (b11, cel 94 (ints b')) :: (b10, cel 94 (ints b)) :: (b8, cel 28 (ctl d (d.sl a2 cd))) :: (b7, cel 29 (ints m)) :: (b6, cel 28 (ctl c (c.sl ah ch))) :: (b5, cel 25 (gtl g (g.sl ag cg))) :: H, RowsA al' 1 (irows l') :: RowsA al 1 (irows l) :: RowsA a2 5 (hrows d.hs) :: RowsA ah 5 (hrows c.hs) :: RowsA ag 5 (grows g.grs) :: R⟩) ?_ ?_
 refine sy_tx' [0, 1, 2, 3, 4, 5, 6, 7, 8, 9, 10, 11, 12, 13, 14, 15, 16, 17, 18] rfl ?_
 refine sp rfl (PE.move rfl) rfl ?_
 refine sp rfl (PE.neq rfl rfl) rfl ?_
 refine sp rfl (PE.move rfl) rfl ?_
 refine sy_case (t := 105) rfl (fun g105 => ?_) (fun g105 => ?_)
 exact absurd g105 (by first | (simp; done) | (rw [decide_eq_false (by omega)]; simp))
 refine spG rfl rfl rfl rfl (PE.move rfl) rfl ?_
 refine spG rfl rfl rfl rfl (PE.neq rfl rfl) rfl ?_
 refine sp rfl (PE.pick rfl rfl rfl) rfl ?_
 refine sp rfl (PE.move rfl) rfl ?_
 refine sy_case (t := 109) rfl (fun g109 => ?_) (fun g109 => ?_)
 exact absurd g109 (by first | (simp; done) | (rw [decide_eq_false (by omega)]; simp))
 refine spG rfl rfl rfl rfl (PE.move rfl) rfl ?_
 refine spG rfl rfl rfl rfl (PE.neq rfl rfl) rfl ?_
 refine sp rfl (PE.pick rfl rfl rfl) rfl ?_
 refine sp rfl (PE.move rfl) rfl ?_
 refine sy_case (t := 113) rfl (fun g113 => ?_) (fun g113 => ?_)
 exact absurd g113 (by first | (simp; done) | (rw [decide_eq_false (by omega)]; simp))
 refine spG rfl rfl rfl rfl (PE.move rfl) rfl ?_
 refine spG rfl rfl rfl rfl (PE.neq rfl rfl) rfl ?_
 refine sp rfl (PE.pick rfl rfl rfl) rfl ?_
 refine sp rfl (PE.move rfl) rfl ?_
 refine sy_case (t := 117) rfl (fun g117 => ?_) (fun g117 => ?_)
 exact absurd g117 (by first | (simp; done) | (rw [decide_eq_false (by omega)]; simp))
 refine spG rfl rfl rfl rfl (PE.move rfl) rfl ?_
 refine spG rfl rfl rfl rfl (PE.makeFunc rfl rfl) rfl ?_
 refine clG rfl rfl rfl rfl cal54 rfl rfl (c_has_int l' al' cl2 55 [] [_] (fun n => !(decide (n ∈ l))) cal55 (by omega) _ _ (hp := fun x _ => c_more1 l al cl1 b13 (by omega) x _ _)) ?_
 rintro _ _ _ ⟨rfl, rfl, rfl⟩
 rw [show (l'.any fun n => !(decide (n ∈ l))) = false from by rw [List.any_eq_false]; intro x hx; simp [hmo.sub x hx]]
 refine sp rfl (PE.pick rfl rfl rfl) rfl ?_
 exact sy_cutEnd () (by repeat' first | exact Sub.nil | apply Sub.cons | rfl | (simp [lk]; omega)) (fun _ h => h)
 rintro ⟨⟩
 dsimp only
 refine sy_cond rfl (fun hc1 => ?_) (fun hc1 => ?_)
 exact absurd hc1 (by first | (simp; done) | (rw [decide_eq_false (by omega)]; simp))
 refine sy_skip ?_
 refine sy_seq ?_
 refine sy_seq ?_
 refine sy_tx' [0] rfl ?_
 refine sp rfl (PE.move rfl) rfl ?_
 refine sy_block ?_
 refine sy_loop (ι := {k : Nat // k ≤ 4}) (fun k => ⟨[(5, .pointer (some ⟨b5, 0, none⟩)), (6, .pointer (some ⟨b6, 0, none⟩)), (7, .pointer (some ⟨b7, 0, none⟩)), (8, .pointer (some ⟨b8, 0, none⟩)), (10, .pointer (some ⟨b10, 0, none⟩)), (11, .pointer (some ⟨b11, 0, none⟩)), (13, .pointer (some ⟨b13, 0, none⟩)), (122, .int .i64 k.1)], (b13, cel 34 [.slice al l.length cl1]) :: (b11, cel 94 (ints b')) :: (b10, cel 94 (ints b)) :: (b8, cel 28 (ctl d (d.sl a2 cd))) :: (b7, cel 29 (ints m)) :: (b6, cel 28 (ctl c (c.sl ah ch))) :: (b5, cel 25 (gtl g (g.sl ag cg))) :: H, RowsA al' 1 (irows l') :: RowsA al 1 (irows l) :: RowsA a2 5 (hrows d.hs) :: RowsA ah 5 (hrows c.hs) :: RowsA ag 5 (grows g.grs) :: R⟩) (fun k => 4 - k.1) ⟨0, by omega⟩ ?_ (fun k => ?_)
 exact sy_at (by repeat' first | exact Sub.nil | apply Sub.cons | rfl | (simp [lk]; omega)) (fun _ h => h)
 obtain ⟨k, hk⟩ := k
 dsimp only at hk ⊢
 refine sy_seq ?_
 refine sy_tx' [0] rfl ?_
 refine sp rfl (PE.lss rfl rfl) rfl ?_
 refine sy_seq ?_
 refine sy_cond rfl (fun hc2 => ?_) (fun hc2 => ?_)
 try simp only [decide_eq_true_eq, decide_eq_false_iff_not, Bool.and_eq_true, Bool.or_eq_true, Bool.not_eq_true', Int.not_le, Int.not_lt] at hc2
 have hk4 : k < 4 := by omega
 have hbk := hb.at_ k hk4
 have hbk' := hb'.at_ k hk4
 have hmk4 := hmo.at_ k hk4
 have hw1 := wgh_at (n := (netP g c).1) (w := (netP g c).1) (x := (netP g c).2) hn1.1 (by omega) hbk.1 (show bl b k ≤ bl b' k ∧ bl b' k ≤ bh b' k by omega)
 have hw2 := wgh_at (n := (netP g c).1) (w := (netP g c).2) (x := (netP g c).2) hn1.1 (by omega) hbk'.1 (show bl b' k ≤ bh b' k ∧ bh b' k ≤ bh b k by omega)
 refine sy_skip ?_
 refine sy_seq ?_
 refine sy_block ?_
 refine sy_seq ?_
 refine sy_tx' [0, 1] rfl ?_
 refine sp rfl (PE.move rfl) rfl ?_
 refine sp rfl (PE.assign rfl) rfl ?_
 refine sy_seq ?_
 refine sy_tx' [0, 1, 2, 3, 4, 5, 6, 7, 8, 9] rfl ?_
 refine spL rfl rfl (lhA [_, _, _] ag25 rfl rfl rfl) rfl ?_
 refine spL rfl rfl (lhA [_, _, _] ag28 rfl rfl rfl) rfl ?_
 refine sp rfl (PE.move rfl) rfl ?_
 refine cl rfl cal23 rfl rfl (c_Weight g ag cg (by omega) c ah ch (by omega) (k : Nat) _ _) ?_
 rintro _ _ _ ⟨rfl, rfl, rfl⟩
 rw [hb.wgt k hk4]
 refine sp rfl (PE.move rfl) rfl ?_
 refine sp rfl (PE.extract rfl rfl) rfl ?_
 refine sp rfl (PE.extract rfl rfl) rfl ?_
 refine alc rfl zl41 rfl (fun b18 => ?_)
 refine sto rfl rfl rfl cn41 rfl rfl rfl rfl ?_
 refine sp rfl (PE.assign rfl) rfl ?_
 refine sy_seq ?_
 refine sy_tx' [0, 1, 2, 3, 4, 5, 6, 7, 8, 9] rfl ?_
 refine spL rfl rfl (lhA [_, _, _] ag25 rfl rfl rfl) rfl ?_
 refine spL rfl rfl (lhA [_, _, _] ag28 rfl rfl rfl) rfl ?_
 refine sp rfl (PE.move rfl) rfl ?_
 refine cl rfl cal23 rfl rfl (c_Weight g ag cg (by omega) d a2 cd (by omega) (k : Nat) _ _) ?_
 rintro _ _ _ ⟨rfl, rfl, rfl⟩
 rw [hb'.wgt k hk4, hmo.net]
 refine sp rfl (PE.move rfl) rfl ?_
 refine sp rfl (PE.extract rfl rfl) rfl ?_
 refine sp rfl (PE.extract rfl rfl) rfl ?_
 refine alc rfl zl41 rfl (fun b20 => ?_)
 refine sto rfl rfl rfl cn41 rfl rfl rfl rfl ?_
 refine sp rfl (PE.assign rfl) rfl ?_
 refine sy_seq ?_
 refine sy_draw [0, 1, 3, 7, 15, 31, 63, 127, 255, 511, 1023, 127, 2175, 6271, 14463, 32767, 65535, 131071, 262143, 524287, 1048575, 2097151, 262143, 4456447, 12845055, 29622271, 67108863, 134217727, 268435455, 536870911, 1073741823, 536870911, 2684354559, 8589934591, 17179869183, 34359738367, 68719476735, 137438953471, 68719476735, 343597383679, 1099511627775, 2199023255551, 4398046511103, 8796093022207, 17592186044415, 8796093022207, 43980465111039, 140737488355327, 281474976710655, 562949953421311, 1125899906842623, 2251799813685247, 4503599627370495, 1125899906842623, 10133099161583615, 28147497671065599, 64176294690029567, 144115188075855871, 288230376151711743, 576460752303423487, 1152921504606846975, 2305843009213693951, 4611686018427387903, 1152921504606846975, 10376293541461622783, 28823037615171174399, 65716525762590277631, 147573952589676412927, 295147905179352825855] (.tk 0 (.tk 1 (.tk 2 (.tk 3 (.tk 4 (.tk 5 (.tk 6 (.tk 7 (.tk 8 (.tk 9 (.ld 10 (.tk 11 (.tk 12 (.tk 13 (.ld 14 (.tk 15 (.tk 16 (.tk 17 (.tk 18 (.tk 19 (.tk 20 (.ld 21 (.tk 22 (.tk 23 (.tk 24 (.ld 25 (.tk 26 (.tk 27 (.tk 28 (.tk 29 (.ld 30 (.tk 31 (.ld 32 (.tk 33 (.tk 34 (.tk 35 (.tk 36 (.ld 37 (.tk 38 (.ld 39 (.tk 40 (.tk 41 (.tk 42 (.tk 43 (.ld 44 (.tk 45 (.ld 46 (.tk 47 (.tk 48 (.tk 49 (.tk 50 (.tk 51 (.ld 52 (.tk 53 (.tk 54 (.tk 55 (.ld 56 (.tk 57 (.tk 58 (.tk 59 (.tk 60 (.tk 61 (.ld 62 (.tk 63 (.tk 64 (.tk 65 (.ld 66 (.tk 67 (.tk 68 .done))))))))))))))))))))))))))))))))))))))))))))))))))))))))))))))))))))) mixed (by kernel_rfl) ?_
 refine tk rfl (PE.move rfl) rfl ?_
 refine tk rfl (PE.neq rfl rfl) rfl ?_
 refine tk rfl (PE.move rfl) rfl ?_
 refine sy_case (t := 141) rfl (fun g141 => ?_) (fun g141 => ?_)
 exact absurd g141 (by first | (simp; done) | (rw [decide_eq_false (by omega)]; simp))
 refine tkG rfl rfl rfl rfl (PE.move rfl) rfl ?_
 refine tkG rfl rfl rfl rfl (PE.neq rfl rfl) rfl ?_
 refine tk rfl (PE.pick rfl rfl rfl) rfl ?_
 refine tk rfl (PE.move rfl) rfl ?_
 refine sy_case (t := 145) rfl (fun g145 => ?_) (fun g145 => ?_)
 exact absurd g145 (by first | (simp; done) | (rw [decide_eq_false (by omega)]; simp))
 refine tkG rfl rfl rfl rfl (PE.move rfl) rfl ?_
 refine tkG rfl rfl rfl rfl (PE.indexArr ar94 rfl rfl (by omega) (by omega)) rfl ?_
 refine tkG rfl rfl rfl rfl (PE.fieldAddr fo41_0 rfl) rfl ?_
 refine ldG rfl rfl rfl rfl rfl (lh sc3 rfl (bx_lo hbl' hk4)) rfl ?_
 refine tkG rfl rfl rfl rfl (PE.move rfl) rfl ?_
 refine tkG rfl rfl rfl rfl (PE.indexArr ar94 rfl rfl (by omega) (by omega)) rfl ?_
 refine tkG rfl rfl rfl rfl (PE.fieldAddr fo41_0 rfl) rfl ?_
 refine ldG rfl rfl rfl rfl rfl (lh sc3 rfl (bx_lo hbl hk4)) rfl ?_
 refine tkG rfl rfl rfl rfl (PE.lss rfl rfl) rfl ?_
 refine tk rfl (PE.pick rfl rfl rfl) rfl ?_
 refine tk rfl (PE.move rfl) rfl ?_
 refine sy_case (t := 156) rfl (fun g156 => ?_) (fun g156 => ?_)
 exact absurd g156 (by first | (simp; done) | (rw [decide_eq_false (by omega)]; simp))
 refine tkG rfl rfl rfl rfl (PE.move rfl) rfl ?_
 refine tkG rfl rfl rfl rfl (PE.indexArr ar94 rfl rfl (by omega) (by omega)) rfl ?_
 refine tkG rfl rfl rfl rfl (PE.fieldAddr fo41_1 rfl) rfl ?_
 refine ldG rfl rfl rfl rfl rfl (lh sc3 rfl (bx_hi hbl' hk4)) rfl ?_
 refine tkG rfl rfl rfl rfl (PE.move rfl) rfl ?_
 refine tkG rfl rfl rfl rfl (PE.indexArr ar94 rfl rfl (by omega) (by omega)) rfl ?_
 refine tkG rfl rfl rfl rfl (PE.fieldAddr fo41_1 rfl) rfl ?_
 refine ldG rfl rfl rfl rfl rfl (lh sc3 rfl (bx_hi hbl hk4)) rfl ?_
 refine tkG rfl rfl rfl rfl (PE.gtr rfl rfl) rfl ?_
 refine tk rfl (PE.pick rfl rfl rfl) rfl ?_
 refine tk rfl (PE.move rfl) rfl ?_
 refine sy_case (t := 167) rfl (fun g167 => ?_) (fun g167 => ?_)
 exact absurd g167 (by first | (simp; done) | (rw [decide_eq_false (by omega)]; simp))
 refine tkG rfl rfl rfl rfl (PE.fieldAddr fo41_0 rfl) rfl ?_
 refine ldG rfl rfl rfl rfl rfl (lh sc3 rfl rfl) rfl ?_
 refine tkG rfl rfl rfl rfl (PE.fieldAddr fo41_0 rfl) rfl ?_
 refine ldG rfl rfl rfl rfl rfl (lh sc3 rfl rfl) rfl ?_
 refine tkG rfl rfl rfl rfl (PE.lss rfl rfl) rfl ?_
 refine tk rfl (PE.pick rfl rfl rfl) rfl ?_
 refine tk rfl (PE.move rfl) rfl ?_
 refine sy_case (t := 174) rfl (fun g174 => ?_) (fun g174 => ?_)
 exact absurd g174 (by first | (simp; done) | (rw [decide_eq_false (by omega)]; simp))
 refine tkG rfl rfl rfl rfl (PE.fieldAddr fo41_1 rfl) rfl ?_
 refine ldG rfl rfl rfl rfl rfl (lh sc3 rfl rfl) rfl ?_
 refine tkG rfl rfl rfl rfl (PE.fieldAddr fo41_1 rfl) rfl ?_
 refine ldG rfl rfl rfl rfl rfl (lh sc3 rfl rfl) rfl ?_
 refine tkG rfl rfl rfl rfl (PE.gtr rfl rfl) rfl ?_
 refine tk rfl (PE.pick rfl rfl rfl) rfl ?_
 refine tk rfl (PE.move rfl) rfl ?_
 refine sy_case (t := 181) rfl (fun g181 => ?_) (fun g181 => ?_)
 exact absurd g181 (by first | (simp; done) | (rw [decide_eq_false (by omega)]; simp))
 refine tkG rfl rfl rfl rfl (PE.fieldAddr fo41_0 rfl) rfl ?_
 refine ldG rfl rfl rfl rfl rfl (lh sc3 rfl rfl) rfl ?_
 refine tkG rfl rfl rfl rfl (PE.fieldAddr fo41_1 rfl) rfl ?_
 refine ldG rfl rfl rfl rfl rfl (lh sc3 rfl rfl) rfl ?_
 refine tkG rfl rfl rfl rfl (PE.gtr rfl rfl) rfl ?_
 refine tk rfl (PE.pick rfl rfl rfl) rfl ?_
 refine tk rfl (PE.move rfl) rfl ?_
 refine sy_case (t := 188) rfl (fun g188 => ?_) (fun g188 => ?_)
 exact absurd g188 (by first | (simp; done) | (rw [decide_eq_false (by omega)]; simp))
 refine tkG rfl rfl rfl rfl (PE.move rfl) rfl ?_
 refine tkG rfl rfl rfl rfl (PE.indexArr ar29 rfl rfl (by omega) (by omega)) rfl ?_
 refine ldG rfl rfl rfl rfl rfl (lh sc3 rfl (mix_at hmd.mix.len hk4)) rfl ?_
 refine tkG rfl rfl rfl rfl (PE.move rfl) rfl ?_
 refine tkG rfl rfl rfl rfl (PE.indexArr ar94 rfl rfl (by omega) (by omega)) rfl ?_
 refine tkG rfl rfl rfl rfl (PE.fieldAddr fo41_0 rfl) rfl ?_
 refine ldG rfl rfl rfl rfl rfl (lh sc3 rfl (bx_lo hbl' hk4)) rfl ?_
 refine tkG rfl rfl rfl rfl (PE.lss rfl rfl) rfl ?_
 refine tk rfl (PE.pick rfl rfl rfl) rfl ?_
 refine tk rfl (PE.move rfl) rfl ?_
 refine sy_case (t := 198) rfl (fun g198 => ?_) (fun g198 => ?_)
 exact absurd g198 (by first | (simp; done) | (rw [decide_eq_false (by omega)]; simp))
 refine tkG rfl rfl rfl rfl (PE.move rfl) rfl ?_
 refine tkG rfl rfl rfl rfl (PE.indexArr ar29 rfl rfl (by omega) (by omega)) rfl ?_
 refine ldG rfl rfl rfl rfl rfl (lh sc3 rfl (mix_at hmd.mix.len hk4)) rfl ?_
 refine tkG rfl rfl rfl rfl (PE.move rfl) rfl ?_
 refine tkG rfl rfl rfl rfl (PE.indexArr ar94 rfl rfl (by omega) (by omega)) rfl ?_
 refine tkG rfl rfl rfl rfl (PE.fieldAddr fo41_1 rfl) rfl ?_
 refine ldG rfl rfl rfl rfl rfl (lh sc3 rfl (bx_hi hbl' hk4)) rfl ?_
 refine tkG rfl rfl rfl rfl (PE.gtr rfl rfl) rfl ?_
 refine tk rfl (PE.pick rfl rfl rfl) rfl ?_
 refine sy_cond rfl (fun hc3 => ?_) (fun hc3 => ?_)
 exact absurd hc3 (by first | (simp; done) | (rw [decide_eq_false (by omega)]; simp))
 refine sy_skip ?_
 refine sy_tx' [0, 1] rfl ?_
 refine sp rfl (PE.add rfl rfl (by omega)) rfl ?_
 refine sp rfl (PE.move rfl) rfl ?_
 exact sy_next ⟨k + 1, by omega⟩ (by dsimp only; omega) (by repeat' first | exact Sub.nil | apply Sub.cons | rfl | (simp [lk]; omega)) (fun w h => (h.del b20).del b18)
 try simp only [decide_eq_true_eq, decide_eq_false_iff_not, Bool.and_eq_true, Bool.or_eq_true, Bool.not_eq_true', Int.not_le, Int.not_lt] at hc2
 obtain rfl : k = 4 := by omega
 refine sy_exit ?_
 repeat refine sy_tx ?_
 refine sy_bx ?_
 refine sy_seq ?_
 refine sy_tx' [0, 1, 2, 3, 4, 5, 6, 7, 8] rfl ?_
 refine spL rfl rfl (lhA [_, _, _] ag25 rfl rfl rfl) rfl ?_
 refine spL rfl rfl (lhA [_, _, _] ag28 rfl rfl rfl) rfl ?_
 refine cl rfl cal17 rfl rfl (c_Pay g ag cg (by omega) hcg c ah ch (by omega) _ _) ?_
 rintro _ _ _ ⟨rfl, rfl, rfl⟩
 rw [md_pay hmd hmo.can]
 refine sp rfl (PE.move rfl) rfl ?_
 refine sp rfl (PE.extract rfl rfl) rfl ?_
 refine sp rfl (PE.extract rfl rfl) rfl ?_
 refine alc rfl zl41 rfl (fun b22 => ?_)
 refine sto rfl rfl rfl cn41 rfl rfl rfl rfl ?_
 refine sp rfl (PE.assign rfl) rfl ?_
 refine sy_seq ?_
 refine sy_tx' [0, 1, 2, 3, 4, 5, 6, 7, 8] rfl ?_
 refine spL rfl rfl (lhA [_, _, _] ag25 rfl rfl rfl) rfl ?_
 refine spL rfl rfl (lhA [_, _, _] ag28 rfl rfl rfl) rfl ?_
 refine cl rfl cal17 rfl rfl (c_Pay g ag cg (by omega) hcg d a2 cd (by omega) _ _) ?_
 rintro _ _ _ ⟨rfl, rfl, rfl⟩
 rw [md_pay hdd hmo.can', hmo.net]
 obtain ⟨hp1, hp2⟩ := least_sub (l := g.grs) hmo.sub
 have hq1 := Int.mul_le_mul_of_nonneg_left hp1 hn1.1
 have hq2 := Int.mul_le_mul_of_nonneg_left hp2 (show 0 ≤ (netP g c).2 by omega)
 refine sp rfl (PE.move rfl) rfl ?_
 refine sp rfl (PE.extract rfl rfl) rfl ?_
 refine sp rfl (PE.extract rfl rfl) rfl ?_
 refine alc rfl zl41 rfl (fun b23 => ?_)
 refine sto rfl rfl rfl cn41 rfl rfl rfl rfl ?_
 refine sp rfl (PE.assign rfl) rfl ?_
 refine sy_seq ?_
 refine sy_tx' [0, 1, 2, 3, 4, 5, 6, 7, 8, 9, 10, 11, 12, 13, 14, 15, 16, 17, 18, 19, 20, 21, 22, 23] rfl ?_
 refine sp rfl (PE.move rfl) rfl ?_
 refine sp rfl (PE.eql rfl rfl) rfl ?_
 refine sp rfl (PE.move rfl) rfl ?_
 refine sy_case (t := 223) rfl (fun g223 => ?_) (fun g223 => ?_)
 refine spG rfl rfl rfl rfl (PE.move rfl) rfl ?_
 refine spG rfl rfl rfl rfl (PE.eql rfl rfl) rfl ?_
 refine sp rfl (PE.pick rfl rfl rfl) rfl ?_
 refine sp rfl (PE.move rfl) rfl ?_
 refine sy_case (t := 227) rfl (fun g227 => ?_) (fun g227 => ?_)
 refine spG rfl rfl rfl rfl (PE.fieldAddr fo41_0 rfl) rfl ?_
 refine spLG rfl rfl rfl rfl rfl (lh sc3 rfl rfl) rfl ?_
 refine spG rfl rfl rfl rfl (PE.fieldAddr fo41_0 rfl) rfl ?_
 refine spLG rfl rfl rfl rfl rfl (lh sc3 rfl rfl) rfl ?_
 refine spG rfl rfl rfl rfl (PE.geq rfl rfl) rfl ?_
 refine sp rfl (PE.pick rfl rfl rfl) rfl ?_
 refine sp rfl (PE.move rfl) rfl ?_
 refine sy_case (t := 234) rfl (fun g234 => ?_) (fun g234 => ?_)
 refine spG rfl rfl rfl rfl (PE.fieldAddr fo41_1 rfl) rfl ?_
 refine spLG rfl rfl rfl rfl rfl (lh sc3 rfl rfl) rfl ?_
 refine spG rfl rfl rfl rfl (PE.fieldAddr fo41_1 rfl) rfl ?_
 refine spLG rfl rfl rfl rfl rfl (lh sc3 rfl rfl) rfl ?_
 refine spG rfl rfl rfl rfl (PE.leq rfl rfl) rfl ?_
 refine sp rfl (PE.pick rfl rfl rfl) rfl ?_
 refine sp rfl (PE.move rfl) rfl ?_
 refine sy_case (t := 241) rfl (fun g241 => ?_) (fun g241 => ?_)
 refine clVG rfl rfl rfl rfl cal22 rfl rfl (c_awake _ _) ?_
 refine sp rfl (PE.pick rfl rfl rfl) rfl ?_
 refine sp rfl (PE.assign rfl) rfl ?_
 refine sy_ret ?_
 exact sy_return (vs := [_]) rfl (.cons (RV.tmp rfl) .nil) rfl ⟨rfl, rfl, rfl⟩ (fun w h => St.sub ((((((((((h.del b23).del b22).del b13).del b11).del b10).del b8).del b7).del b6).del b5).ftail.ftail.ftail.ftail.ftail))
 exact absurd g241 (by first | (rw [decide_eq_true (by omega)]; simp; done) | (simp; omega))
 exact absurd g234 (by first | (rw [decide_eq_true (by omega)]; simp; done) | (simp; omega))
 exact absurd g227 (by first | (rw [decide_eq_true (by omega)]; simp; done) | (simp; omega))
 exact absurd g223 (by first | (rw [decide_eq_true (by omega)]; simp; done) | (simp; omega))
 refine sy_alt ?_ ?_
 refine alc rfl zl28 rfl (fun b8 => ?_)
 refine bg (fun w hs => ⟨(lhA [_, _, _] ag28 rfl rfl rfl) w hs, trivial⟩) ?_
 refine cl rfl cal42 rfl rfl (c_Take c ah ch (by omega) h _ _) ?_
 rintro v _ R1 ⟨a2, cd, hcd, hv, rfl, hR1⟩
 rw [htk] at hcd hv hR1
 dsimp only at hcd hv hR1
 obtain rfl := hv
 obtain rfl := hR1.symm
 clear hR1
 have hdm := hdd.cok.many
 have hdl : d.hs.length = c.hs.length + 1 := by rw [hdh]; simp
 obtain ⟨b, hb⟩ := md_bnd hmd
 obtain ⟨b', hb'⟩ := md_bnd hdd
 obtain ⟨l, l', hmo⟩ := md_more (nh := 0) (nh' := 0) hb hb' hdh hdf hde
 have hfw := hmo.few
 have hfw' := hmo.few'
 have hbl := hb.tight.ok.len
 have hbl' := hb'.tight.ok.len
 obtain ⟨hne, hn1, hn2⟩ := md_net hmd
 refine bg (fun w hs => ⟨trivial, trivial⟩) ?_
 refine tk rfl (PE.move rfl) rfl ?_
 refine tk rfl (PE.extract rfl rfl) rfl ?_
 refine tk rfl (PE.extract rfl rfl) rfl ?_
 refine sto rfl rfl rfl cn28 rfl rfl rfl rfl ?_
 refine bg (fun w hs => trivial) ?_
 refine tk rfl (PE.assign rfl) rfl ?_
 refine sy_seq ?_
 refine sy_seq ?_
 refine sy_cut (ι := Unit) (fun _ => ⟨[(5, .pointer (some ⟨b5, 0, none⟩)), (6, .pointer (some ⟨b6, 0, none⟩)), (7, .pointer (some ⟨b7, 0, none⟩)), (8, .pointer (some ⟨b8, 0, none⟩)), (78, .bool false)], (b8, cel 28 (ctl d (d.sl a2 cd))) :: (b7, cel 29 (ints m)) :: (b6, cel 28 (ctl c (c.sl ah ch))) :: (b5, cel 25 (gtl g (g.sl ag cg))) :: H, RowsA a2 5 (hrows d.hs) :: RowsA ah 5 (hrows c.hs) :: RowsA ag 5 (grows g.grs) :: R⟩) ?_ ?_
 refine sy_draw [0, 1, 3, 7, 15, 7, 39, 127, 255, 511, 1023, 2047, 1023, 5119, 16383, 32767, 65535, 131071, 262143, 524287, 131071, 1179647, 3276799, 7471103, 16777215, 33554431, 67108863, 134217727, 268435455, 134217727, 671088639, 1744830463, 4294967295, 134217727, 8724152319, 34359738367, 68719476735, 137438953471] (.tk 0 (.tk 1 (.tk 2 (.tk 3 (.ld 4 (.tk 5 (.ld 6 (.tk 7 (.tk 8 (.tk 9 (.tk 10 (.ld 11 (.tk 12 (.ld 13 (.tk 14 (.tk 15 (.tk 16 (.tk 17 (.ld 18 (.tk 19 (.tk 20 (.ld 21 (.tk 22 (.tk 23 (.tk 24 (.tk 25 (.tk 26 (.tk 27 (.ld 28 (.tk 29 (.ld 30 (.tk 31 (.tk 32 (.tk 33 (.ld 34 (.big 35 (.tk 36 (.tk 37 .done)))))))))))))))))))))))))))))))))))))) mixed (by kernel_rfl) ?_
 refine tk rfl (PE.move rfl) rfl ?_
 refine tk rfl (PE.neq rfl rfl) rfl ?_
 refine tk rfl (PE.move rfl) rfl ?_
 refine sy_case (t := 43) rfl (fun g43 => ?_) (fun g43 => ?_)
 exact absurd g43 (by first | (simp; done) | (rw [decide_eq_false (by omega)]; simp))
 refine tkG rfl rfl rfl rfl (PE.fieldAddr fo28_0 rfl) rfl ?_
 refine ldG rfl rfl rfl rfl rfl (lh sc3 rfl rfl) rfl ?_
 refine tkG rfl rfl rfl rfl (PE.fieldAddr fo28_0 rfl) rfl ?_
 refine ldG rfl rfl rfl rfl rfl (lh sc3 rfl rfl) rfl ?_
 refine tkG rfl rfl rfl rfl (PE.neq rfl rfl) rfl ?_
 refine tk rfl (PE.pick rfl rfl rfl) rfl ?_
 refine tk rfl (PE.move rfl) rfl ?_
 refine sy_case (t := 50) rfl (fun g50 => ?_) (fun g50 => ?_)
 exact absurd g50 (by simp [hdf])
 refine tkG rfl rfl rfl rfl (PE.fieldAddr fo28_1 rfl) rfl ?_
 refine ldG rfl rfl rfl rfl rfl (lh sc3 rfl rfl) rfl ?_
 refine tkG rfl rfl rfl rfl (PE.fieldAddr fo28_1 rfl) rfl ?_
 refine ldG rfl rfl rfl rfl rfl (lh sc3 rfl rfl) rfl ?_
 refine tkG rfl rfl rfl rfl (PE.neq rfl rfl) rfl ?_
 refine tk rfl (PE.pick rfl rfl rfl) rfl ?_
 refine tk rfl (PE.move rfl) rfl ?_
 refine sy_case (t := 57) rfl (fun g57 => ?_) (fun g57 => ?_)
 exact absurd g57 (by simp [hde])
 refine tkG rfl rfl rfl rfl (PE.fieldAddr fo28_2 rfl) rfl ?_
 refine ldG rfl rfl rfl rfl rfl (lh sc26 rfl rfl) rfl ?_
 refine tkG rfl rfl rfl rfl (PE.lenSl isl26 rfl) rfl ?_
 refine tkG rfl rfl rfl rfl (PE.fieldAddr fo28_2 rfl) rfl ?_
 refine ldG rfl rfl rfl rfl rfl (lh sc26 rfl rfl) rfl ?_
 refine tkG rfl rfl rfl rfl (PE.lenSl isl26 rfl) rfl ?_
 refine tkG rfl rfl rfl rfl (PE.add rfl rfl (by omega)) rfl ?_
 refine tkG rfl rfl rfl rfl (PE.neq rfl rfl) rfl ?_
 refine tk rfl (PE.pick rfl rfl rfl) rfl ?_
 refine tk rfl (PE.move rfl) rfl ?_
 refine sy_case (t := 67) rfl (fun g67 => ?_) (fun g67 => ?_)
 exact absurd g67 (by simp [hdl])
 refine tkG rfl rfl rfl rfl (PE.fieldAddr fo28_2 rfl) rfl ?_
 refine ldG rfl rfl rfl rfl rfl (lh sc26 rfl rfl) rfl ?_
 refine tkG rfl rfl rfl rfl (PE.fieldAddr fo28_2 rfl) rfl ?_
 refine ldG rfl rfl rfl rfl rfl (lh sc26 rfl rfl) rfl ?_
 refine tkG rfl rfl rfl rfl (PE.lenSl isl26 rfl) rfl ?_
 refine tkG rfl rfl rfl rfl (PE.slHi sl26 rfl rfl (by omega)) rfl ?_
 refine Sy.heap (fun w h9 => St.rowsTake (a := a2) (sz := 5) (rows := hrows d.hs) h9 c.hs.length) ?_
 rw [show (hrows d.hs).take c.hs.length = hrows c.hs from by rw [hdh]; simp only [hrows, ← List.map_take]; rw [List.take_left]]
 refine tkG rfl rfl rfl rfl (PE.fieldAddr fo28_2 rfl) rfl ?_
 refine ldG rfl rfl rfl rfl rfl (lh sc26 rfl rfl) rfl ?_
 refine clG rfl rfl rfl rfl cal53 rfl rfl (c_eq_hnd c.hs c.hs a2 ah cd ch (by omega) (by omega) _ _) ?_
 rintro _ _ _ ⟨rfl, rfl, rfl⟩
 refine Sy.heap (fun w h => h.ftail) ?_
 rw [decide_eq_true (rfl : c.hs = c.hs)]
 refine bg (fun w hs => ⟨trivial, trivial, trivial, trivial, trivial, trivial, trivial, trivial, trivial, trivial⟩) ?_
 refine tkG rfl rfl rfl rfl (PE.not rfl) rfl ?_
 refine tk rfl (PE.pick rfl rfl rfl) rfl ?_
 exact sy_cutEnd () (by repeat' first | exact Sub.nil | apply Sub.cons | rfl | (simp [lk]; omega)) (fun _ h => h)
 rintro ⟨⟩
 dsimp only
 refine sy_cond rfl (fun hc0 => ?_) (fun hc0 => ?_)
 exact absurd hc0 (by first | (simp; done) | (rw [decide_eq_false (by omega)]; simp))
 refine sy_skip ?_
 refine sy_seq ?_
 refine sy_tx' [0, 1, 2, 3, 4, 5, 6, 7, 8] rfl ?_
 refine spL rfl rfl (lhA [_, _, _] ag25 rfl rfl rfl) rfl ?_
 refine spL rfl rfl (lhA [_, _, _] ag28 rfl rfl rfl) rfl ?_
 refine cl rfl cal50 rfl rfl (c_Bounds g ag cg (by omega) c ah ch (by omega) _ _) ?_
 rintro _ _ _ ⟨rfl, rfl, rfl⟩
 rw [hb.bnd, hb.told]
 refine sp rfl (PE.move rfl) rfl ?_
 refine sp rfl (PE.extract rfl rfl) rfl ?_
 refine sp rfl (PE.extract rfl rfl) rfl ?_
 refine alc rfl zl94 rfl (fun b10 => ?_)
 refine stoA rfl rfl rfl cn94 rfl (by rw [ints_length]; exact hbl) rfl (ints_one _) ?_
 refine sp rfl (PE.assign rfl) rfl ?_
 refine sy_seq ?_
 refine sy_tx' [0, 1, 2, 3, 4, 5, 6, 7, 8] rfl ?_
 refine spL rfl rfl (lhA [_, _, _] ag25 rfl rfl rfl) rfl ?_
 refine spL rfl rfl (lhA [_, _, _] ag28 rfl rfl rfl) rfl ?_
 refine cl rfl cal50 rfl rfl (c_Bounds g ag cg (by omega) d a2 cd (by omega) _ _) ?_
 rintro _ _ _ ⟨rfl, rfl, rfl⟩
 rw [hb'.bnd, hb'.told]
 refine sp rfl (PE.move rfl) rfl ?_
 refine sp rfl (PE.extract rfl rfl) rfl ?_
 refine sp rfl (PE.extract rfl rfl) rfl ?_
 refine alc rfl zl94 rfl (fun b11 => ?_)
 refine stoA rfl rfl rfl cn94 rfl (by rw [ints_length]; exact hbl') rfl (ints_one _) ?_
 refine sp rfl (PE.assign rfl) rfl ?_
 refine sy_seq ?_
 refine sy_tx' [0, 1, 2, 3, 4, 5, 6, 7, 8] rfl ?_
 refine spL rfl rfl (lhA [_, _, _] ag25 rfl rfl rfl) rfl ?_
 refine spL rfl rfl (lhA [_, _, _] ag28 rfl rfl rfl) rfl ?_
 refine cl rfl cal15 rfl rfl (c_Can g ag cg (by omega) hcg c ah ch (by omega) _ _) ?_
 rintro _ _ R1 ⟨o, rfl, rfl, hR1⟩
 obtain rfl := hR1.symm
 clear hR1
 obtain ⟨al, cl1, he, hf⟩ := o.freeze
 rw [he]
 refine Sy.heap (fun w h => hf h) ?_
 rw [show ∀ l : List Int, (irows l).length = l.length from fun l => List.length_map _, hmo.can, hb.told]
 clear he hf o
 refine sp rfl (PE.move rfl) rfl ?_
 refine sp rfl (PE.extract rfl rfl) rfl ?_
 refine sp rfl (PE.extract rfl rfl) rfl ?_
 refine alc rfl zl34 rfl (fun b13 => ?_)
 refine sto rfl rfl rfl cn34 rfl rfl rfl rfl ?_
 refine sp rfl (PE.assign rfl) rfl ?_
 refine sy_seq ?_
 refine sy_tx' [0, 1, 2, 3, 4, 5, 6, 7] rfl ?_
 refine spL rfl rfl (lhA [_, _, _] ag25 rfl rfl rfl) rfl ?_
 refine spL rfl rfl (lhA [_, _, _] ag28 rfl rfl rfl) rfl ?_
 refine cl rfl cal15 rfl rfl (c_Can g ag cg (by omega) hcg d a2 cd (by omega) _ _) ?_
 rintro _ _ R1 ⟨o, rfl, rfl, hR1⟩
 obtain rfl := hR1.symm
 clear hR1
 obtain ⟨al', cl2, he, hf⟩ := o.freeze
 rw [he]
 refine Sy.heap (fun w h => hf h) ?_
 rw [show ∀ l : List Int, (irows l).length = l.length from fun l => List.length_map _, hmo.can', hb'.told]
 clear he hf o
 refine sp rfl (PE.move rfl) rfl ?_
 refine sp rfl (PE.extract rfl rfl) rfl ?_
 refine sp rfl (PE.extract rfl rfl) rfl ?_
 refine sp rfl (PE.assign rfl) rfl ?_
 refine sp rfl (PE.assign rfl) rfl ?_
 refine sy_seq ?_
 refine sy_seq ?_
 refine sy_cut (ι := Unit) (fun _ => ⟨[(5, .pointer (some ⟨b5, 0, none⟩)), (6, .pointer (some ⟨b6, 0, none⟩)), (7, .pointer (some ⟨b7, 0, none⟩)), (8, .pointer (some ⟨b8, 0, none⟩)), (10, .pointer (some ⟨b10, 0, none⟩)), (11, .pointer (some ⟨b11, 0, none⟩)), (13, .pointer (some ⟨b13, 0, none⟩)), (121, .bool false)], (b13, cel 34 [.slice al l.length cl1]) :: (b11, cel 94 (ints b')) :: (b10, cel 94 (ints b)) :: (b8, cel 28 (ctl d (d.sl a2 cd))) :: (b7, cel 29 (ints m)) :: (b6, cel 28 (ctl c (c.sl ah ch))) :: (b5, cel 25 (gtl g (g.sl ag cg))) :: H, RowsA al' 1 (irows l') :: RowsA al 1 (irows l) :: RowsA a2 5 (hrows d.hs) :: RowsA ah 5 (hrows c.hs) :: RowsA ag 5 (grows g.grs) :: R⟩) ?_ ?_
 refine sy_tx' [0, 1, 2, 3, 4, 5, 6, 7, 8, 9, 10, 11, 12, 13, 14, 15, 16, 17, 18] rfl ?_
 refine sp rfl (PE.move rfl) rfl ?_
 refine sp rfl (PE.neq rfl rfl) rfl ?_
 refine sp rfl (PE.move rfl) rfl ?_
 refine sy_case (t := 105) rfl (fun g105 => ?_) (fun g105 => ?_)
 exact absurd g105 (by first | (simp; done) | (rw [decide_eq_false (by omega)]; simp))
 refine spG rfl rfl rfl rfl (PE.move rfl) rfl ?_
 refine spG rfl rfl rfl rfl (PE.neq rfl rfl) rfl ?_
 refine sp rfl (PE.pick rfl rfl rfl) rfl ?_
 refine sp rfl (PE.move rfl) rfl ?_
 refine sy_case (t := 109) rfl (fun g109 => ?_) (fun g109 => ?_)
 exact absurd g109 (by first | (simp; done) | (rw [decide_eq_false (by omega)]; simp))
 refine spG rfl rfl rfl rfl (PE.move rfl) rfl ?_
 refine spG rfl rfl rfl rfl (PE.neq rfl rfl) rfl ?_
 refine sp rfl (PE.pick rfl rfl rfl) rfl ?_
 refine sp rfl (PE.move rfl) rfl ?_
 refine sy_case (t := 113) rfl (fun g113 => ?_) (fun g113 => ?_)
 exact absurd g113 (by first | (simp; done) | (rw [decide_eq_false (by omega)]; simp))
 refine spG rfl rfl rfl rfl (PE.move rfl) rfl ?_
 refine spG rfl rfl rfl rfl (PE.neq rfl rfl) rfl ?_
 refine sp rfl (PE.pick rfl rfl rfl) rfl ?_
 refine sp rfl (PE.move rfl) rfl ?_
 refine sy_case (t := 117) rfl (fun g117 => ?_) (fun g117 => ?_)
 exact absurd g117 (by first | (simp; done) | (rw [decide_eq_false (by omega)]; simp))
 refine spG rfl rfl rfl rfl (PE.move rfl) rfl ?_
 refine spG rfl rfl rfl rfl (PE.makeFunc rfl rfl) rfl ?_
 refine clG rfl rfl rfl rfl cal54 rfl rfl (c_has_int l' al' cl2 55 [] [_] (fun n => !(decide (n ∈ l))) cal55 (by omega) _ _ (hp := fun x _ => c_more1 l al cl1 b13 (by omega) x _ _)) ?_
 rintro _ _ _ ⟨rfl, rfl, rfl⟩
 rw [show (l'.any fun n => !(decide (n ∈ l))) = false from by rw [List.any_eq_false]; intro x hx; simp [hmo.sub x hx]]
 refine sp rfl (PE.pick rfl rfl rfl) rfl ?_
 exact sy_cutEnd () (by repeat' first | exact Sub.nil | apply Sub.cons | rfl | (simp [lk]; omega)) (fun _ h => h)
 rintro ⟨⟩
 dsimp only
 refine sy_cond rfl (fun hc1 => ?_) (fun hc1 => ?_)
 exact absurd hc1 (by first | (simp; done) | (rw [decide_eq_false (by omega)]; simp))
 refine sy_skip ?_
 refine sy_seq ?_
 refine sy_seq ?_
 refine sy_tx' [0] rfl ?_
 refine sp rfl (PE.move rfl) rfl ?_
 refine sy_block ?_
 refine sy_loop (ι := {k : Nat // k ≤ 4}) (fun k => ⟨[(5, .pointer (some ⟨b5, 0, none⟩)), (6, .pointer (some ⟨b6, 0, none⟩)), (7, .pointer (some ⟨b7, 0, none⟩)), (8, .pointer (some ⟨b8, 0, none⟩)), (10, .pointer (some ⟨b10, 0, none⟩)), (11, .pointer (some ⟨b11, 0, none⟩)), (13, .pointer (some ⟨b13, 0, none⟩)), (122, .int .i64 k.1)], (b13, cel 34 [.slice al l.length cl1]) :: (b11, cel 94 (ints b')) :: (b10, cel 94 (ints b)) :: (b8, cel 28 (ctl d (d.sl a2 cd))) :: (b7, cel 29 (ints m)) :: (b6, cel 28 (ctl c (c.sl ah ch))) :: (b5, cel 25 (gtl g (g.sl ag cg))) :: H, RowsA al' 1 (irows l') :: RowsA al 1 (irows l) :: RowsA a2 5 (hrows d.hs) :: RowsA ah 5 (hrows c.hs) :: RowsA ag 5 (grows g.grs) :: R⟩) (fun k => 4 - k.1) ⟨0, by omega⟩ ?_ (fun k => ?_)
 exact sy_at (by repeat' first | exact Sub.nil | apply Sub.cons | rfl | (simp [lk]; omega)) (fun _ h => h)
 obtain ⟨k, hk⟩ := k
 dsimp only at hk ⊢
 refine sy_seq ?_
 refine sy_tx' [0] rfl ?_
 refine sp rfl (PE.lss rfl rfl) rfl ?_
 refine sy_seq ?_
 refine sy_cond rfl (fun hc2 => ?_) (fun hc2 => ?_)
 try simp only [decide_eq_true_eq, decide_eq_false_iff_not, Bool.and_eq_true, Bool.or_eq_true, Bool.not_eq_true', Int.not_le, Int.not_lt] at hc2
 have hk4 : k < 4 := by omega
 have hbk := hb.at_ k hk4
 have hbk' := hb'.at_ k hk4
 have hmk4 := hmo.at_ k hk4
 have hw1 := wgh_at (n := (netP g c).1) (w := (netP g c).1) (x := (netP g c).2) hn1.1 (by omega) hbk.1 (show bl b k ≤ bl b' k ∧ bl b' k ≤ bh b' k by omega)
 have hw2 := wgh_at (n := (netP g c).1) (w := (netP g c).2) (x := (netP g c).2) hn1.1 (by omega) hbk'.1 (show bl b' k ≤ bh b' k ∧ bh b' k ≤ bh b k by omega)
 refine sy_skip ?_
 refine sy_seq ?_
 refine sy_block ?_
 refine sy_seq ?_
 refine sy_tx' [0, 1] rfl ?_
 refine sp rfl (PE.move rfl) rfl ?_
 refine sp rfl (PE.assign rfl) rfl ?_
 refine sy_seq ?_
 refine sy_tx' [0, 1, 2, 3, 4, 5, 6, 7, 8, 9] rfl ?_
 refine spL rfl rfl (lhA [_, _, _] ag25 rfl rfl rfl) rfl ?_
 refine spL rfl rfl (lhA [_, _, _] ag28 rfl rfl rfl) rfl ?_
 refine sp rfl (PE.move rfl) rfl ?_
 refine cl rfl cal23 rfl rfl (c_Weight g ag cg (by omega) c ah ch (by omega) (k : Nat) _ _) ?_
 rintro _ _ _ ⟨rfl, rfl, rfl⟩
 rw [hb.wgt k hk4]
 refine sp rfl (PE.move rfl) rfl ?_
 refine sp rfl (PE.extract rfl rfl) rfl ?_
 refine sp rfl (PE.extract rfl rfl) rfl ?_
 refine alc rfl zl41 rfl (fun b18 => ?_)
 refine sto rfl rfl rfl cn41 rfl rfl rfl rfl ?_
 refine sp rfl (PE.assign rfl) rfl ?_
 refine sy_seq ?_
 refine sy_tx' [0, 1, 2, 3, 4, 5, 6, 7, 8, 9] rfl ?_
 refine spL rfl rfl (lhA [_, _, _] ag25 rfl rfl rfl) rfl ?_
 refine spL rfl rfl (lhA [_, _, _] ag28 rfl rfl rfl) rfl ?_
 refine sp rfl (PE.move rfl) rfl ?_
 refine cl rfl cal23 rfl rfl (c_Weight g ag cg (by omega) d a2 cd (by omega) (k : Nat) _ _) ?_
 rintro _ _ _ ⟨rfl, rfl, rfl⟩
 rw [hb'.wgt k hk4, hmo.net]
 refine sp rfl (PE.move rfl) rfl ?_
 refine sp rfl (PE.extract rfl rfl) rfl ?_
 refine sp rfl (PE.extract rfl rfl) rfl ?_
 refine alc rfl zl41 rfl (fun b20 => ?_)
 refine sto rfl rfl rfl cn41 rfl rfl rfl rfl ?_
 refine sp rfl (PE.assign rfl) rfl ?_
 refine sy_seq ?_
 refine sy_draw [0, 1, 3, 7, 15, 31, 63, 127, 255, 511, 1023, 127, 2175, 6271, 14463, 32767, 65535, 131071, 262143, 524287, 1048575, 2097151, 262143, 4456447, 12845055, 29622271, 67108863, 134217727, 268435455, 536870911, 1073741823, 536870911, 2684354559, 8589934591, 17179869183, 34359738367, 68719476735, 137438953471, 68719476735, 343597383679, 1099511627775, 2199023255551, 4398046511103, 8796093022207, 17592186044415, 8796093022207, 43980465111039, 140737488355327, 281474976710655, 562949953421311, 1125899906842623, 2251799813685247, 4503599627370495, 1125899906842623, 10133099161583615, 28147497671065599, 64176294690029567, 144115188075855871, 288230376151711743, 576460752303423487, 1152921504606846975, 2305843009213693951, 4611686018427387903, 1152921504606846975, 10376293541461622783, 28823037615171174399, 65716525762590277631, 147573952589676412927, 295147905179352825855] (.tk 0 (.tk 1 (.tk 2 (.tk 3 (.tk 4 (.tk 5 (.tk 6 (.tk 7 (.tk 8 (.tk 9 (.ld 10 (.tk 11 (.tk 12 (.tk 13 (.ld 14 (.tk 15 (.tk 16 (.tk 17 (.tk 18 (.tk 19 (.tk 20 (.ld 21 (.tk 22 (.tk 23 (.tk 24 (.ld 25 (.tk 26 (.tk 27 (.tk 28 (.tk 29 (.ld 30 (.tk 31 (.ld 32 (.tk 33 (.tk 34 (.tk 35 (.tk 36 (.ld 37 (.tk 38 (.ld 39 (.tk 40 (.tk 41 (.tk 42 (.tk 43 (.ld 44 (.tk 45 (.ld 46 (.tk 47 (.tk 48 (.tk 49 (.tk 50 (.tk 51 (.ld 52 (.tk 53 (.tk 54 (.tk 55 (.ld 56 (.tk 57 (.tk 58 (.tk 59 (.tk 60 (.tk 61 (.ld 62 (.tk 63 (.tk 64 (.tk 65 (.ld 66 (.tk 67 (.tk 68 .done))))))))))))))))))))))))))))))))))))))))))))))))))))))))))))))))))))) mixed (by kernel_rfl) ?_
 refine tk rfl (PE.move rfl) rfl ?_
 refine tk rfl (PE.neq rfl rfl) rfl ?_
 refine tk rfl (PE.move rfl) rfl ?_
 refine sy_case (t := 141) rfl (fun g141 => ?_) (fun g141 => ?_)
 exact absurd g141 (by first | (simp; done) | (rw [decide_eq_false (by omega)]; simp))
 refine tkG rfl rfl rfl rfl (PE.move rfl) rfl ?_
 refine tkG rfl rfl rfl rfl (PE.neq rfl rfl) rfl ?_
 refine tk rfl (PE.pick rfl rfl rfl) rfl ?_
 refine tk rfl (PE.move rfl) rfl ?_
 refine sy_case (t := 145) rfl (fun g145 => ?_) (fun g145 => ?_)
 exact absurd g145 (by first | (simp; done) | (rw [decide_eq_false (by omega)]; simp))
 refine tkG rfl rfl rfl rfl (PE.move rfl) rfl ?_
 refine tkG rfl rfl rfl rfl (PE.indexArr ar94 rfl rfl (by omega) (by omega)) rfl ?_
 refine tkG rfl rfl rfl rfl (PE.fieldAddr fo41_0 rfl) rfl ?_
 refine ldG rfl rfl rfl rfl rfl (lh sc3 rfl (bx_lo hbl' hk4)) rfl ?_
 refine tkG rfl rfl rfl rfl (PE.move rfl) rfl ?_
 refine tkG rfl rfl rfl rfl (PE.indexArr ar94 rfl rfl (by omega) (by omega)) rfl ?_
 refine tkG rfl rfl rfl rfl (PE.fieldAddr fo41_0 rfl) rfl ?_
 refine ldG rfl rfl rfl rfl rfl (lh sc3 rfl (bx_lo hbl hk4)) rfl ?_
 refine tkG rfl rfl rfl rfl (PE.lss rfl rfl) rfl ?_
 refine tk rfl (PE.pick rfl rfl rfl) rfl ?_
 refine tk rfl (PE.move rfl) rfl ?_
 refine sy_case (t := 156) rfl (fun g156 => ?_) (fun g156 => ?_)
 exact absurd g156 (by first | (simp; done) | (rw [decide_eq_false (by omega)]; simp))
 refine tkG rfl rfl rfl rfl (PE.move rfl) rfl ?_
 refine tkG rfl rfl rfl rfl (PE.indexArr ar94 rfl rfl (by omega) (by omega)) rfl ?_
 refine tkG rfl rfl rfl rfl (PE.fieldAddr fo41_1 rfl) rfl ?_
 refine ldG rfl rfl rfl rfl rfl (lh sc3 rfl (bx_hi hbl' hk4)) rfl ?_
 refine tkG rfl rfl rfl rfl (PE.move rfl) rfl ?_
 refine tkG rfl rfl rfl rfl (PE.indexArr ar94 rfl rfl (by omega) (by omega)) rfl ?_
 refine tkG rfl rfl rfl rfl (PE.fieldAddr fo41_1 rfl) rfl ?_
 refine ldG rfl rfl rfl rfl rfl (lh sc3 rfl (bx_hi hbl hk4)) rfl ?_
 refine tkG rfl rfl rfl rfl (PE.gtr rfl rfl) rfl ?_
 refine tk rfl (PE.pick rfl rfl rfl) rfl ?_
 refine tk rfl (PE.move rfl) rfl ?_
 refine sy_case (t := 167) rfl (fun g167 => ?_) (fun g167 => ?_)
 exact absurd g167 (by first | (simp; done) | (rw [decide_eq_false (by omega)]; simp))
 refine tkG rfl rfl rfl rfl (PE.fieldAddr fo41_0 rfl) rfl ?_
 refine ldG rfl rfl rfl rfl rfl (lh sc3 rfl rfl) rfl ?_
 refine tkG rfl rfl rfl rfl (PE.fieldAddr fo41_0 rfl) rfl ?_
 refine ldG rfl rfl rfl rfl rfl (lh sc3 rfl rfl) rfl ?_
 refine tkG rfl rfl rfl rfl (PE.lss rfl rfl) rfl ?_
 refine tk rfl (PE.pick rfl rfl rfl) rfl ?_
 refine tk rfl (PE.move rfl) rfl ?_
 refine sy_case (t := 174) rfl (fun g174 => ?_) (fun g174 => ?_)
 exact absurd g174 (by first | (simp; done) | (rw [decide_eq_false (by omega)]; simp))
 refine tkG rfl rfl rfl rfl (PE.fieldAddr fo41_1 rfl) rfl ?_
 refine ldG rfl rfl rfl rfl rfl (lh sc3 rfl rfl) rfl ?_
 refine tkG rfl rfl rfl rfl (PE.fieldAddr fo41_1 rfl) rfl ?_
 refine ldG rfl rfl rfl rfl rfl (lh sc3 rfl rfl) rfl ?_
 refine tkG rfl rfl rfl rfl (PE.gtr rfl rfl) rfl ?_
 refine tk rfl (PE.pick rfl rfl rfl) rfl ?_
 refine tk rfl (PE.move rfl) rfl ?_
 refine sy_case (t := 181) rfl (fun g181 => ?_) (fun g181 => ?_)
 exact absurd g181 (by first | (simp; done) | (rw [decide_eq_false (by omega)]; simp))
 refine tkG rfl rfl rfl rfl (PE.fieldAddr fo41_0 rfl) rfl ?_
 refine ldG rfl rfl rfl rfl rfl (lh sc3 rfl rfl) rfl ?_
 refine tkG rfl rfl rfl rfl (PE.fieldAddr fo41_1 rfl) rfl ?_
 refine ldG rfl rfl rfl rfl rfl (lh sc3 rfl rfl) rfl ?_
 refine tkG rfl rfl rfl rfl (PE.gtr rfl rfl) rfl ?_
 refine tk rfl (PE.pick rfl rfl rfl) rfl ?_
 refine tk rfl (PE.move rfl) rfl ?_
 refine sy_case (t := 188) rfl (fun g188 => ?_) (fun g188 => ?_)
 exact absurd g188 (by first | (simp; done) | (rw [decide_eq_false (by omega)]; simp))
 refine tkG rfl rfl rfl rfl (PE.move rfl) rfl ?_
 refine tkG rfl rfl rfl rfl (PE.indexArr ar29 rfl rfl (by omega) (by omega)) rfl ?_
 refine ldG rfl rfl rfl rfl rfl (lh sc3 rfl (mix_at hmd.mix.len hk4)) rfl ?_
 refine tkG rfl rfl rfl rfl (PE.move rfl) rfl ?_
 refine tkG rfl rfl rfl rfl (PE.indexArr ar94 rfl rfl (by omega) (by omega)) rfl ?_
 refine tkG rfl rfl rfl rfl (PE.fieldAddr fo41_0 rfl) rfl ?_
 refine ldG rfl rfl rfl rfl rfl (lh sc3 rfl (bx_lo hbl' hk4)) rfl ?_
 refine tkG rfl rfl rfl rfl (PE.lss rfl rfl) rfl ?_
 refine tk rfl (PE.pick rfl rfl rfl) rfl ?_
 refine tk rfl (PE.move rfl) rfl ?_
 refine sy_case (t := 198) rfl (fun g198 => ?_) (fun g198 => ?_)
 exact absurd g198 (by first | (simp; done) | (rw [decide_eq_false (by omega)]; simp))
 refine tkG rfl rfl rfl rfl (PE.move rfl) rfl ?_
 refine tkG rfl rfl rfl rfl (PE.indexArr ar29 rfl rfl (by omega) (by omega)) rfl ?_
 refine ldG rfl rfl rfl rfl rfl (lh sc3 rfl (mix_at hmd.mix.len hk4)) rfl ?_
 refine tkG rfl rfl rfl rfl (PE.move rfl) rfl ?_
 refine tkG rfl rfl rfl rfl (PE.indexArr ar94 rfl rfl (by omega) (by omega)) rfl ?_
 refine tkG rfl rfl rfl rfl (PE.fieldAddr fo41_1 rfl) rfl ?_
 refine ldG rfl rfl rfl rfl rfl (lh sc3 rfl (bx_hi hbl' hk4)) rfl ?_
 refine tkG rfl rfl rfl rfl (PE.gtr rfl rfl) rfl ?_
 refine tk rfl (PE.pick rfl rfl rfl) rfl ?_
 refine sy_cond rfl (fun hc3 => ?_) (fun hc3 => ?_)
 exact absurd hc3 (by first | (simp; done) | (rw [decide_eq_false (by omega)]; simp))
 refine sy_skip ?_
 refine sy_tx' [0, 1] rfl ?_
 refine sp rfl (PE.add rfl rfl (by omega)) rfl ?_
 refine sp rfl (PE.move rfl) rfl ?_
 exact sy_next ⟨k + 1, by omega⟩ (by dsimp only; omega) (by repeat' first | exact Sub.nil | apply Sub.cons | rfl | (simp [lk]; omega)) (fun w h => (h.del b20).del b18)
 try simp only [decide_eq_true_eq, decide_eq_false_iff_not, Bool.and_eq_true, Bool.or_eq_true, Bool.not_eq_true', Int.not_le, Int.not_lt] at hc2
 obtain rfl : k = 4 := by omega
 refine sy_exit ?_
 repeat refine sy_tx ?_
 refine sy_bx ?_
 refine sy_seq ?_
 refine sy_tx' [0, 1, 2, 3, 4, 5, 6, 7, 8] rfl ?_
 refine spL rfl rfl (lhA [_, _, _] ag25 rfl rfl rfl) rfl ?_
 refine spL rfl rfl (lhA [_, _, _] ag28 rfl rfl rfl) rfl ?_
 refine cl rfl cal17 rfl rfl (c_Pay g ag cg (by omega) hcg c ah ch (by omega) _ _) ?_
 rintro _ _ _ ⟨rfl, rfl, rfl⟩
 rw [md_pay hmd hmo.can]
 refine sp rfl (PE.move rfl) rfl ?_
 refine sp rfl (PE.extract rfl rfl) rfl ?_
 refine sp rfl (PE.extract rfl rfl) rfl ?_
 refine alc rfl zl41 rfl (fun b22 => ?_)
 refine sto rfl rfl rfl cn41 rfl rfl rfl rfl ?_
 refine sp rfl (PE.assign rfl) rfl ?_
 refine sy_seq ?_
 refine sy_tx' [0, 1, 2, 3, 4, 5, 6, 7, 8] rfl ?_
 refine spL rfl rfl (lhA [_, _, _] ag25 rfl rfl rfl) rfl ?_
 refine spL rfl rfl (lhA [_, _, _] ag28 rfl rfl rfl) rfl ?_
 refine cl rfl cal17 rfl rfl (c_Pay g ag cg (by omega) hcg d a2 cd (by omega) _ _) ?_
 rintro _ _ _ ⟨rfl, rfl, rfl⟩
 rw [md_pay hdd hmo.can', hmo.net]
 obtain ⟨hp1, hp2⟩ := least_sub (l := g.grs) hmo.sub
 have hq1 := Int.mul_le_mul_of_nonneg_left hp1 hn1.1
 have hq2 := Int.mul_le_mul_of_nonneg_left hp2 (show 0 ≤ (netP g c).2 by omega)
 refine sp rfl (PE.move rfl) rfl ?_
 refine sp rfl (PE.extract rfl rfl) rfl ?_
 refine sp rfl (PE.extract rfl rfl) rfl ?_
 refine alc rfl zl41 rfl (fun b23 => ?_)
 refine sto rfl rfl rfl cn41 rfl rfl rfl rfl ?_
 refine sp rfl (PE.assign rfl) rfl ?_
 refine sy_seq ?_
 refine sy_tx' [0, 1, 2, 3, 4, 5, 6, 7, 8, 9, 10, 11, 12, 13, 14, 15, 16, 17, 18, 19, 20, 21, 22, 23] rfl ?_
 refine sp rfl (PE.move rfl) rfl ?_
 refine sp rfl (PE.eql rfl rfl) rfl ?_
 refine sp rfl (PE.move rfl) rfl ?_
 refine sy_case (t := 223) rfl (fun g223 => ?_) (fun g223 => ?_)
 refine spG rfl rfl rfl rfl (PE.move rfl) rfl ?_
 refine spG rfl rfl rfl rfl (PE.eql rfl rfl) rfl ?_
 refine sp rfl (PE.pick rfl rfl rfl) rfl ?_
 refine sp rfl (PE.move rfl) rfl ?_
 refine sy_case (t := 227) rfl (fun g227 => ?_) (fun g227 => ?_)
 refine spG rfl rfl rfl rfl (PE.fieldAddr fo41_0 rfl) rfl ?_
 refine spLG rfl rfl rfl rfl rfl (lh sc3 rfl rfl) rfl ?_
 refine spG rfl rfl rfl rfl (PE.fieldAddr fo41_0 rfl) rfl ?_
 refine spLG rfl rfl rfl rfl rfl (lh sc3 rfl rfl) rfl ?_
 refine spG rfl rfl rfl rfl (PE.geq rfl rfl) rfl ?_
 refine sp rfl (PE.pick rfl rfl rfl) rfl ?_
 refine sp rfl (PE.move rfl) rfl ?_
 refine sy_case (t := 234) rfl (fun g234 => ?_) (fun g234 => ?_)
 refine spG rfl rfl rfl rfl (PE.fieldAddr fo41_1 rfl) rfl ?_
 refine spLG rfl rfl rfl rfl rfl (lh sc3 rfl rfl) rfl ?_
 refine spG rfl rfl rfl rfl (PE.fieldAddr fo41_1 rfl) rfl ?_
 refine spLG rfl rfl rfl rfl rfl (lh sc3 rfl rfl) rfl ?_
 refine spG rfl rfl rfl rfl (PE.leq rfl rfl) rfl ?_
 refine sp rfl (PE.pick rfl rfl rfl) rfl ?_
 refine sp rfl (PE.move rfl) rfl ?_
 refine sy_case (t := 241) rfl (fun g241 => ?_) (fun g241 => ?_)
 refine clVG rfl rfl rfl rfl cal22 rfl rfl (c_awake _ _) ?_
 refine sp rfl (PE.pick rfl rfl rfl) rfl ?_
 refine sp rfl (PE.assign rfl) rfl ?_
 refine sy_ret ?_
 exact sy_return (vs := [_]) rfl (.cons (RV.tmp rfl) .nil) rfl ⟨rfl, rfl, rfl⟩ (fun w h => St.sub ((((((((((h.del b23).del b22).del b13).del b11).del b10).del b8).del b7).del b6).del b5).ftail.ftail.ftail.ftail.ftail))
 exact absurd g241 (by first | (rw [decide_eq_true (by omega)]; simp; done) | (simp; omega))
 exact absurd g234 (by first | (rw [decide_eq_true (by omega)]; simp; done) | (simp; omega))
 exact absurd g227 (by first | (rw [decide_eq_true (by omega)]; simp; done) | (simp; omega))
 exact absurd g223 (by first | (rw [decide_eq_true (by omega)]; simp; done) | (simp; omega))
 exact sy_stop
 refine sy_alt ?_ ?_
 refine alc rfl zl28 rfl (fun b8 => ?_)
 refine bg (fun w hs => ⟨(lhA (ints (m)) ag29 rfl (rest := []) (by rw [List.append_nil]; rfl) (by rw [ints_length]; exact hmd.mix.len)) w hs, (lhA [_, _, _] ag25 rfl rfl rfl) w hs, (lhA [_, _, _] ag28 rfl rfl rfl) w hs, trivial⟩) ?_
 refine sy_pull bj ?_
 refine cl rfl cal52 rfl rfl (c_Taken l1 a1 c1 bj hl1 0 mj (by omega) hmj g hmd.gok.miss (g.sl ag cg) m hmd.mix _ _) ?_
 rintro _ _ R1 ⟨h, tq4, mx4, hho, hhf, rfl, _, _, rfl, hR1⟩
 obtain rfl := hR1.symm
 clear hR1
 refine Sy.heap (fun w h => h.del bj) ?_
 obtain ⟨d, htk, hdd, hdh, hdf, hde⟩ := tak_md hmd (by omega) hho hhf
 refine bg (fun w hs => ⟨trivial, trivial, (lhA [_, _, _] ag28 rfl rfl rfl) w hs, trivial⟩) ?_
 refine cl rfl cal42 rfl rfl (c_Take c ah ch (by omega) h _ _) ?_
 rintro v _ R1 ⟨a2, cd, hcd, hv, rfl, hR1⟩
 rw [htk] at hcd hv hR1
 dsimp only at hcd hv hR1
 obtain rfl := hv
 obtain rfl := hR1.symm
 clear hR1
 have hdm := hdd.cok.many
 have hdl : d.hs.length = c.hs.length + 1 := by rw [hdh]; simp
 obtain ⟨b, hb⟩ := md_bnd hmd
 obtain ⟨b', hb'⟩ := md_bnd hdd
 obtain ⟨l, l', hmo⟩ := md_more (nh := 0) (nh' := 0) hb hb' hdh hdf hde
 have hfw := hmo.few
 have hfw' := hmo.few'
 have hbl := hb.tight.ok.len
 have hbl' := hb'.tight.ok.len
 obtain ⟨hne, hn1, hn2⟩ := md_net hmd
 refine bg (fun w hs => ⟨trivial, trivial⟩) ?_
 refine tk rfl (PE.move rfl) rfl ?_
 refine tk rfl (PE.extract rfl rfl) rfl ?_
 refine tk rfl (PE.extract rfl rfl) rfl ?_
 refine sto rfl rfl rfl cn28 rfl rfl rfl rfl ?_
 refine bg (fun w hs => trivial) ?_
 refine tk rfl (PE.assign rfl) rfl ?_
 refine sy_seq ?_
 refine sy_seq ?_
 refine sy_cut (ι := Unit) (fun _ => ⟨[(5, .pointer (some ⟨b5, 0, none⟩)), (6, .pointer (some ⟨b6, 0, none⟩)), (7, .pointer (some ⟨b7, 0, none⟩)), (8, .pointer (some ⟨b8, 0, none⟩)), (78, .bool false)], (b8, cel 28 (ctl d (d.sl a2 cd))) :: (b7, cel 29 (ints m)) :: (b6, cel 28 (ctl c (c.sl ah ch))) :: (b5, cel 25 (gtl g (g.sl ag cg))) :: H, RowsA a2 5 (hrows d.hs) :: RowsA ah 5 (hrows c.hs) :: RowsA ag 5 (grows g.grs) :: R⟩) ?_ ?_
 refine sy_draw [0, 1, 3, 7, 15, 7, 39, 127, 255, 511, 1023, 2047, 1023, 5119, 16383, 32767, 65535, 131071, 262143, 524287, 131071, 1179647, 3276799, 7471103, 16777215, 33554431, 67108863, 134217727, 268435455, 134217727, 671088639, 1744830463, 4294967295, 134217727, 8724152319, 34359738367, 68719476735, 137438953471] (.tk 0 (.tk 1 (.tk 2 (.tk 3 (.ld 4 (.tk 5 (.ld 6 (.tk 7 (.tk 8 (.tk 9 (.tk 10 (.ld 11 (.tk 12 (.ld 13 (.tk 14 (.tk 15 (.tk 16 (.tk 17 (.ld 18 (.tk 19 (.tk 20 (.ld 21 (.tk 22 (.tk 23 (.tk 24 (.tk 25 (.tk 26 (.tk 27 (.ld 28 (.tk 29 (.ld 30 (.tk 31 (.tk 32 (.tk 33 (.ld 34 (.big 35 (.tk 36 (.tk 37 .done)))))))))))))))))))))))))))))))))))))) mixed (by kernel_rfl) ?_
 refine tk rfl (PE.move rfl) rfl ?_
 refine tk rfl (PE.neq rfl rfl) rfl ?_
 refine tk rfl (PE.move rfl) rfl ?_
 refine sy_case (t := 43) rfl (fun g43 => ?_) (fun g43 => ?_)
 exact absurd g43 (by first | (simp; done) | (rw [decide_eq_false (by omega)]; simp))
 refine tkG rfl rfl rfl rfl (PE.fieldAddr fo28_0 rfl) rfl ?_
 refine ldG rfl rfl rfl rfl rfl (lh sc3 rfl rfl) rfl ?_
 refine tkG rfl rfl rfl rfl (PE.fieldAddr fo28_0 rfl) rfl ?_
 refine ldG rfl rfl rfl rfl rfl (lh sc3 rfl rfl) rfl ?_
 refine tkG rfl rfl rfl rfl (PE.neq rfl rfl) rfl ?_
 refine tk rfl (PE.pick rfl rfl rfl) rfl ?_
 refine tk rfl (PE.move rfl) rfl ?_
 refine sy_case (t := 50) rfl (fun g50 => ?_) (fun g50 => ?_)
 exact absurd g50 (by simp [hdf])
 refine tkG rfl rfl rfl rfl (PE.fieldAddr fo28_1 rfl) rfl ?_
 refine ldG rfl rfl rfl rfl rfl (lh sc3 rfl rfl) rfl ?_
 refine tkG rfl rfl rfl rfl (PE.fieldAddr fo28_1 rfl) rfl ?_
 refine ldG rfl rfl rfl rfl rfl (lh sc3 rfl rfl) rfl ?_
 refine tkG rfl rfl rfl rfl (PE.neq rfl rfl) rfl ?_
 refine tk rfl (PE.pick rfl rfl rfl) rfl ?_
 refine tk rfl (PE.move rfl) rfl ?_
 refine sy_case (t := 57) rfl (fun g57 => ?_) (fun g57 => ?_)
 exact absurd g57 (by simp [hde])
 refine tkG rfl rfl rfl rfl (PE.fieldAddr fo28_2 rfl) rfl ?_
 refine ldG rfl rfl rfl rfl rfl (lh sc26 rfl rfl) rfl ?_
 refine tkG rfl rfl rfl rfl (PE.lenSl isl26 rfl) rfl ?_
 refine tkG rfl rfl rfl rfl (PE.fieldAddr fo28_2 rfl) rfl ?_
 refine ldG rfl rfl rfl rfl rfl (lh sc26 rfl rfl) rfl ?_
 refine tkG rfl rfl rfl rfl (PE.lenSl isl26 rfl) rfl ?_
 refine tkG rfl rfl rfl rfl (PE.add rfl rfl (by omega)) rfl ?_
 refine tkG rfl rfl rfl rfl (PE.neq rfl rfl) rfl ?_
 refine tk rfl (PE.pick rfl rfl rfl) rfl ?_
 refine tk rfl (PE.move rfl) rfl ?_
 refine sy_case (t := 67) rfl (fun g67 => ?_) (fun g67 => ?_)
 exact absurd g67 (by simp [hdl])
 refine tkG rfl rfl rfl rfl (PE.fieldAddr fo28_2 rfl) rfl ?_
 refine ldG rfl rfl rfl rfl rfl (lh sc26 rfl rfl) rfl ?_
 refine tkG rfl rfl rfl rfl (PE.fieldAddr fo28_2 rfl) rfl ?_
 refine ldG rfl rfl rfl rfl rfl (lh sc26 rfl rfl) rfl ?_
 refine tkG rfl rfl rfl rfl (PE.lenSl isl26 rfl) rfl ?_
 refine tkG rfl rfl rfl rfl (PE.slHi sl26 rfl rfl (by omega)) rfl ?_
 refine Sy.heap (fun w h9 => St.rowsTake (a := a2) (sz := 5) (rows := hrows d.hs) h9 c.hs.length) ?_
 rw [show (hrows d.hs).take c.hs.length = hrows c.hs from by rw [hdh]; simp only [hrows, ← List.map_take]; rw [List.take_left]]
 refine tkG rfl rfl rfl rfl (PE.fieldAddr fo28_2 rfl) rfl ?_
 refine ldG rfl rfl rfl rfl rfl (lh sc26 rfl rfl) rfl ?_
 refine clG rfl rfl rfl rfl cal53 rfl rfl (c_eq_hnd c.hs c.hs a2 ah cd ch (by omega) (by omega) _ _) ?_
 rintro _ _ _ ⟨rfl, rfl, rfl⟩
 refine Sy.heap (fun w h => h.ftail) ?_
 rw [decide_eq_true (rfl : c.hs = c.hs)]
 refine bg (fun w hs => ⟨trivial, trivial, trivial, trivial, trivial, trivial, trivial, trivial, trivial, trivial⟩) ?_
 refine tkG rfl rfl rfl rfl (PE.not rfl) rfl ?_
 refine tk rfl (PE.pick rfl rfl rfl) rfl ?_
 exact sy_cutEnd () (by repeat' first | exact Sub.nil | apply Sub.cons | rfl | (simp [lk]; omega)) (fun _ h => h)
 rintro ⟨⟩
 dsimp only
 refine sy_cond rfl (fun hc0 => ?_) (fun hc0 => ?_)
 exact absurd hc0 (by first | (simp; done) | (rw [decide_eq_false (by omega)]; simp))
 refine sy_skip ?_
 refine sy_seq ?_
 refine sy_tx' [0, 1, 2, 3, 4, 5, 6, 7, 8] rfl ?_
 refine spL rfl rfl (lhA [_, _, _] ag25 rfl rfl rfl) rfl ?_
 refine spL rfl rfl (lhA [_, _, _] ag28 rfl rfl rfl) rfl ?_
 refine cl rfl cal50 rfl rfl (c_Bounds g ag cg (by omega) c ah ch (by omega) _ _) ?_
 rintro _ _ _ ⟨rfl, rfl, rfl⟩
 rw [hb.bnd, hb.told]
 refine sp rfl (PE.move rfl) rfl ?_
 refine sp rfl (PE.extract rfl rfl) rfl ?_
 refine sp rfl (PE.extract rfl rfl) rfl ?_
 refine alc rfl zl94 rfl (fun b10 => ?_)
 refine stoA rfl rfl rfl cn94 rfl (by rw [ints_length]; exact hbl) rfl (ints_one _) ?_
 refine sp rfl (PE.assign rfl) rfl ?_
 refine sy_seq ?_
 refine sy_tx' [0, 1, 2, 3, 4, 5, 6, 7, 8] rfl ?_
 refine spL rfl rfl (lhA [_, _, _] ag25 rfl rfl rfl) rfl ?_
 refine spL rfl rfl (lhA [_, _, _] ag28 rfl rfl rfl) rfl ?_
 refine cl rfl cal50 rfl rfl (c_Bounds g ag cg (by omega) d a2 cd (by omega) _ _) ?_
 rintro _ _ _ ⟨rfl, rfl, rfl⟩
 rw [hb'.bnd, hb'.told]
 refine sp rfl (PE.move rfl) rfl ?_
 refine sp rfl (PE.extract rfl rfl) rfl ?_
 refine sp rfl (PE.extract rfl rfl) rfl ?_
 refine alc rfl zl94 rfl (fun b11 => ?_)
 refine stoA rfl rfl rfl cn94 rfl (by rw [ints_length]; exact hbl') rfl (ints_one _) ?_
 refine sp rfl (PE.assign rfl) rfl ?_
 refine sy_seq ?_
 refine sy_tx' [0, 1, 2, 3, 4, 5, 6, 7, 8] rfl ?_
 refine spL rfl rfl (lhA [_, _, _] ag25 rfl rfl rfl) rfl ?_
 refine spL rfl rfl (lhA [_, _, _] ag28 rfl rfl rfl) rfl ?_
 refine cl rfl cal15 rfl rfl (c_Can g ag cg (by omega) hcg c ah ch (by omega) _ _) ?_
 rintro _ _ R1 ⟨o, rfl, rfl, hR1⟩
 obtain rfl := hR1.symm
 clear hR1
 obtain ⟨al, cl1, he, hf⟩ := o.freeze
 rw [he]
 refine Sy.heap (fun w h => hf h) ?_
 rw [show ∀ l : List Int, (irows l).length = l.length from fun l => List.length_map _, hmo.can, hb.told]
 clear he hf o
 refine sp rfl (PE.move rfl) rfl ?_
 refine sp rfl (PE.extract rfl rfl) rfl ?_
 refine sp rfl (PE.extract rfl rfl) rfl ?_
 refine alc rfl zl34 rfl (fun b13 => ?_)
 refine sto rfl rfl rfl cn34 rfl rfl rfl rfl ?_
 refine sp rfl (PE.assign rfl) rfl ?_
 refine sy_seq ?_
 refine sy_tx' [0, 1, 2, 3, 4, 5, 6, 7] rfl ?_
 refine spL rfl rfl (lhA [_, _, _] ag25 rfl rfl rfl) rfl ?_
 refine spL rfl rfl (lhA [_, _, _] ag28 rfl rfl rfl) rfl ?_
 refine cl rfl cal15 rfl rfl (c_Can g ag cg (by omega) hcg d a2 cd (by omega) _ _) ?_
 rintro _ _ R1 ⟨o, rfl, rfl, hR1⟩
 obtain rfl := hR1.symm
 clear hR1
 obtain ⟨al', cl2, he, hf⟩ := o.freeze
 rw [he]
 refine Sy.heap (fun w h => hf h) ?_
 rw [show ∀ l : List Int, (irows l).length = l.length from fun l => List.length_map _, hmo.can', hb'.told]
 clear he hf o
 refine sp rfl (PE.move rfl) rfl ?_
 refine sp rfl (PE.extract rfl rfl) rfl ?_
 refine sp rfl (PE.extract rfl rfl) rfl ?_
 refine sp rfl (PE.assign rfl) rfl ?_
 refine sp rfl (PE.assign rfl) rfl ?_
 refine sy_seq ?_
 refine sy_seq ?_
 refine sy_cut (ι := Unit) (fun _ => ⟨[(5, .pointer (some ⟨b5, 0, none⟩)), (6, .pointer (some ⟨b6, 0, none⟩)), (7, .pointer (some ⟨b7, 0, none⟩)), (8, .pointer (some ⟨b8, 0, none⟩)), (10, .pointer (some ⟨b10, 0, none⟩)), (11, .pointer (some ⟨b11, 0, none⟩)), (13, .pointer (some ⟨b13, 0, none⟩)), (121, .bool false)], (b13, cel 34 [.slice al l.length cl1]) :: (b11, cel 94 (ints b')) :: (b10, cel 94 (ints b)) :: (b8, cel 28 (ctl d (d.sl a2 cd))) :: (b7, cel 29 (ints m)) :: (b6, cel 28 (ctl c (c.sl ah ch))) :: (b5, cel 25 (gtl g (g.sl ag cg))) :: H, RowsA al' 1 (irows l') :: RowsA al 1 (irows l) :: RowsA a2 5 (hrows d.hs) :: RowsA ah 5 (hrows c.hs) :: RowsA ag 5 (grows g.grs) :: R⟩) ?_ ?_
 refine sy_tx' [0, 1, 2, 3, 4, 5, 6, 7, 8, 9, 10, 11, 12, 13, 14, 15, 16, 17, 18] rfl ?_
 refine sp rfl (PE.move rfl) rfl ?_
 refine sp rfl (PE.neq rfl rfl) rfl ?_
 refine sp rfl (PE.move rfl) rfl ?_
 refine sy_case (t := 105) rfl (fun g105 => ?_) (fun g105 => ?_)
 exact absurd g105 (by first | (simp; done) | (rw [decide_eq_false (by omega)]; simp))
 refine spG rfl rfl rfl rfl (PE.move rfl) rfl ?_
 refine spG rfl rfl rfl rfl (PE.neq rfl rfl) rfl ?_
 refine sp rfl (PE.pick rfl rfl rfl) rfl ?_
 refine sp rfl (PE.move rfl) rfl ?_
 refine sy_case (t := 109) rfl (fun g109 => ?_) (fun g109 => ?_)
 exact absurd g109 (by first | (simp; done) | (rw [decide_eq_false (by omega)]; simp))
 refine spG rfl rfl rfl rfl (PE.move rfl) rfl ?_
 refine spG rfl rfl rfl rfl (PE.neq rfl rfl) rfl ?_
 refine sp rfl (PE.pick rfl rfl rfl) rfl ?_
 refine sp rfl (PE.move rfl) rfl ?_
 refine sy_case (t := 113) rfl (fun g113 => ?_) (fun g113 => ?_)
 exact absurd g113 (by first | (simp; done) | (rw [decide_eq_false (by omega)]; simp))
 refine spG rfl rfl rfl rfl (PE.move rfl) rfl ?_
 refine spG rfl rfl rfl rfl (PE.neq rfl rfl) rfl ?_
 refine sp rfl (PE.pick rfl rfl rfl) rfl ?_
 refine sp rfl (PE.move rfl) rfl ?_
 refine sy_case (t := 117) rfl (fun g117 => ?_) (fun g117 => ?_)
 exact absurd g117 (by first | (simp; done) | (rw [decide_eq_false (by omega)]; simp))
 refine spG rfl rfl rfl rfl (PE.move rfl) rfl ?_
 refine spG rfl rfl rfl rfl (PE.makeFunc rfl rfl) rfl ?_
 refine clG rfl rfl rfl rfl cal54 rfl rfl (c_has_int l' al' cl2 55 [] [_] (fun n => !(decide (n ∈ l))) cal55 (by omega) _ _ (hp := fun x _ => c_more1 l al cl1 b13 (by omega) x _ _)) ?_
 rintro _ _ _ ⟨rfl, rfl, rfl⟩
 rw [show (l'.any fun n => !(decide (n ∈ l))) = false from by rw [List.any_eq_false]; intro x hx; simp [hmo.sub x hx]]
 refine sp rfl (PE.pick rfl rfl rfl) rfl ?_
 exact sy_cutEnd () (by repeat' first | exact Sub.nil | apply Sub.cons | rfl | (simp [lk]; omega)) (fun _ h => h)
 rintro ⟨⟩
 dsimp only
 refine sy_cond rfl (fun hc1 => ?_) (fun hc1 => ?_)
 exact absurd hc1 (by first | (simp; done) | (rw [decide_eq_false (by omega)]; simp))
 refine sy_skip ?_
 refine sy_seq ?_
 refine sy_seq ?_
 refine sy_tx' [0] rfl ?_
 refine sp rfl (PE.move rfl) rfl ?_
 refine sy_block ?_
 refine sy_loop (ι := {k : Nat // k ≤ 4}) (fun k => ⟨[(5, .pointer (some ⟨b5, 0, none⟩)), (6, .pointer (some ⟨b6, 0, none⟩)), (7, .pointer (some ⟨b7, 0, none⟩)), (8, .pointer (some ⟨b8, 0, none⟩)), (10, .pointer (some ⟨b10, 0, none⟩)), (11, .pointer (some ⟨b11, 0, none⟩)), (13, .pointer (some ⟨b13, 0, none⟩)), (122, .int .i64 k.1)], (b13, cel 34 [.slice al l.length cl1]) :: (b11, cel 94 (ints b')) :: (b10, cel 94 (ints b)) :: (b8, cel 28 (ctl d (d.sl a2 cd))) :: (b7, cel 29 (ints m)) :: (b6, cel 28 (ctl c (c.sl ah ch))) :: (b5, cel 25 (gtl g (g.sl ag cg))) :: H, RowsA al' 1 (irows l') :: RowsA al 1 (irows l) :: RowsA a2 5 (hrows d.hs) :: RowsA ah 5 (hrows c.hs) :: RowsA ag 5 (grows g.grs) :: R⟩) (fun k => 4 - k.1) ⟨0, by omega⟩ ?_ (fun k => ?_)
 exact sy_at (by repeat' first | exact Sub.nil | apply Sub.cons | rfl | (simp [lk]; omega)) (fun _ h => h)
 obtain ⟨k, hk⟩ := k
 dsimp only at hk ⊢
 refine sy_seq ?_
 refine sy_tx' [0] rfl ?_
 refine sp rfl (PE.lss rfl rfl) rfl ?_
 refine sy_seq ?_
 refine sy_cond rfl (fun hc2 => ?_) (fun hc2 => ?_)
 try simp only [decide_eq_true_eq, decide_eq_false_iff_not, Bool.and_eq_true, Bool.or_eq_true, Bool.not_eq_true', Int.not_le, Int.not_lt] at hc2
 have hk4 : k < 4 := by omega
 have hbk := hb.at_ k hk4
 have hbk' := hb'.at_ k hk4
 have hmk4 := hmo.at_ k hk4
 have hw1 := wgh_at (n := (netP g c).1) (w := (netP g c).1) (x := (netP g c).2) hn1.1 (by omega) hbk.1 (show bl b k ≤ bl b' k ∧ bl b' k ≤ bh b' k by omega)
 have hw2 := wgh_at (n := (netP g c).1) (w := (netP g c).2) (x := (netP g c).2) hn1.1 (by omega) hbk'.1 (show bl b' k ≤ bh b' k ∧ bh b' k ≤ bh b k by omega)
 refine sy_skip ?_
 refine sy_seq ?_
 refine sy_block ?_
 refine sy_seq ?_
 refine sy_tx' [0, 1] rfl ?_
 refine sp rfl (PE.move rfl) rfl ?_
 refine sp rfl (PE.assign rfl) rfl ?_
 refine sy_seq ?_
 refine sy_tx' [0, 1, 2, 3, 4, 5, 6, 7, 8, 9] rfl ?_
 refine spL rfl rfl (lhA [_, _, _] ag25 rfl rfl rfl) rfl ?_
 refine spL rfl rfl (lhA [_, _, _] ag28 rfl rfl rfl) rfl ?_
 refine sp rfl (PE.move rfl) rfl ?_
 refine cl rfl cal23 rfl rfl (c_Weight g ag cg (by omega) c ah ch (by omega) (k : Nat) _ _) ?_
 rintro _ _ _ ⟨rfl, rfl, rfl⟩
 rw [hb.wgt k hk4]
 refine sp rfl (PE.move rfl) rfl ?_
 refine sp rfl (PE.extract rfl rfl) rfl ?_
 refine sp rfl (PE.extract rfl rfl) rfl ?_
 refine alc rfl zl41 rfl (fun b18 => ?_)
 refine sto rfl rfl rfl cn41 rfl rfl rfl rfl ?_
 refine sp rfl (PE.assign rfl) rfl ?_
 refine sy_seq ?_
 refine sy_tx' [0, 1, 2, 3, 4, 5, 6, 7, 8, 9] rfl ?_
 refine spL rfl rfl (lhA [_, _, _] ag25 rfl rfl rfl) rfl ?_
 refine spL rfl rfl (lhA [_, _, _] ag28 rfl rfl rfl) rfl ?_
 refine sp rfl (PE.move rfl) rfl ?_
 refine cl rfl cal23 rfl rfl (c_Weight g ag cg (by omega) d a2 cd (by omega) (k : Nat) _ _) ?_
 rintro _ _ _ ⟨rfl, rfl, rfl⟩
 rw [hb'.wgt k hk4, hmo.net]
 refine sp rfl (PE.move rfl) rfl ?_
 refine sp rfl (PE.extract rfl rfl) rfl ?_
 refine sp rfl (PE.extract rfl rfl) rfl ?_
 refine alc rfl zl41 rfl (fun b20 => ?_)
 refine sto rfl rfl rfl cn41 rfl rfl rfl rfl ?_
 refine sp rfl (PE.assign rfl) rfl ?_
 refine sy_seq ?_
 refine sy_draw [0, 1, 3, 7, 15, 31, 63, 127, 255, 511, 1023, 127, 2175, 6271, 14463, 32767, 65535, 131071, 262143, 524287, 1048575, 2097151, 262143, 4456447, 12845055, 29622271, 67108863, 134217727, 268435455, 536870911, 1073741823, 536870911, 2684354559, 8589934591, 17179869183, 34359738367, 68719476735, 137438953471, 68719476735, 343597383679, 1099511627775, 2199023255551, 4398046511103, 8796093022207, 17592186044415, 8796093022207, 43980465111039, 140737488355327, 281474976710655, 562949953421311, 1125899906842623, 2251799813685247, 4503599627370495, 1125899906842623, 10133099161583615, 28147497671065599, 64176294690029567, 144115188075855871, 288230376151711743, 576460752303423487, 1152921504606846975, 2305843009213693951, 4611686018427387903, 1152921504606846975, 10376293541461622783, 28823037615171174399, 65716525762590277631, 147573952589676412927, 295147905179352825855] (.tk 0 (.tk 1 (.tk 2 (.tk 3 (.tk 4 (.tk 5 (.tk 6 (.tk 7 (.tk 8 (.tk 9 (.ld 10 (.tk 11 (.tk 12 (.tk 13 (.ld 14 (.tk 15 (.tk 16 (.tk 17 (.tk 18 (.tk 19 (.tk 20 (.ld 21 (.tk 22 (.tk 23 (.tk 24 (.ld 25 (.tk 26 (.tk 27 (.tk 28 (.tk 29 (.ld 30 (.tk 31 (.ld 32 (.tk 33 (.tk 34 (.tk 35 (.tk 36 (.ld 37 (.tk 38 (.ld 39 (.tk 40 (.tk 41 (.tk 42 (.tk 43 (.ld 44 (.tk 45 (.ld 46 (.tk 47 (.tk 48 (.tk 49 (.tk 50 (.tk 51 (.ld 52 (.tk 53 (.tk 54 (.tk 55 (.ld 56 (.tk 57 (.tk 58 (.tk 59 (.tk 60 (.tk 61 (.ld 62 (.tk 63 (.tk 64 (.tk 65 (.ld 66 (.tk 67 (.tk 68 .done))))))))))))))))))))))))))))))))))))))))))))))))))))))))))))))))))))) mixed (by kernel_rfl) ?_
 refine tk rfl (PE.move rfl) rfl ?_
 refine tk rfl (PE.neq rfl rfl) rfl ?_
 refine tk rfl (PE.move rfl) rfl ?_
 refine sy_case (t := 141) rfl (fun g141 => ?_) (fun g141 => ?_)
 exact absurd g141 (by first | (simp; done) | (rw [decide_eq_false (by omega)]; simp))
 refine tkG rfl rfl rfl rfl (PE.move rfl) rfl ?_
 refine tkG rfl rfl rfl rfl (PE.neq rfl rfl) rfl ?_
 refine tk rfl (PE.pick rfl rfl rfl) rfl ?_
 refine tk rfl (PE.move rfl) rfl ?_
 refine sy_case (t := 145) rfl (fun g145 => ?_) (fun g145 => ?_)
 exact absurd g145 (by first | (simp; done) | (rw [decide_eq_false (by omega)]; simp))
 refine tkG rfl rfl rfl rfl (PE.move rfl) rfl ?_
 refine tkG rfl rfl rfl rfl (PE.indexArr ar94 rfl rfl (by omega) (by omega)) rfl ?_
 refine tkG rfl rfl rfl rfl (PE.fieldAddr fo41_0 rfl) rfl ?_
 refine ldG rfl rfl rfl rfl rfl (lh sc3 rfl (bx_lo hbl' hk4)) rfl ?_
 refine tkG rfl rfl rfl rfl (PE.move rfl) rfl ?_
 refine tkG rfl rfl rfl rfl (PE.indexArr ar94 rfl rfl (by omega) (by omega)) rfl ?_
 refine tkG rfl rfl rfl rfl (PE.fieldAddr fo41_0 rfl) rfl ?_
 refine ldG rfl rfl rfl rfl rfl (lh sc3 rfl (bx_lo hbl hk4)) rfl ?_
 refine tkG rfl rfl rfl rfl (PE.lss rfl rfl) rfl ?_
 refine tk rfl (PE.pick rfl rfl rfl) rfl ?_
 refine tk rfl (PE.move rfl) rfl ?_
 refine sy_case (t := 156) rfl (fun g156 => ?_) (fun g156 => ?_)
 exact absurd g156 (by first | (simp; done) | (rw [decide_eq_false (by omega)]; simp))
 refine tkG rfl rfl rfl rfl (PE.move rfl) rfl ?_
 refine tkG rfl rfl rfl rfl (PE.indexArr ar94 rfl rfl (by omega) (by omega)) rfl ?_
 refine tkG rfl rfl rfl rfl (PE.fieldAddr fo41_1 rfl) rfl ?_
 refine ldG rfl rfl rfl rfl rfl (lh sc3 rfl (bx_hi hbl' hk4)) rfl ?_
 refine tkG rfl rfl rfl rfl (PE.move rfl) rfl ?_
 refine tkG rfl rfl rfl rfl (PE.indexArr ar94 rfl rfl (by omega) (by omega)) rfl ?_
 refine tkG rfl rfl rfl rfl (PE.fieldAddr fo41_1 rfl) rfl ?_
 refine ldG rfl rfl rfl rfl rfl (lh sc3 rfl (bx_hi hbl hk4)) rfl ?_
 refine tkG rfl rfl rfl rfl (PE.gtr rfl rfl) rfl ?_
 refine tk rfl (PE.pick rfl rfl rfl) rfl ?_
 refine tk rfl (PE.move rfl) rfl ?_
 refine sy_case (t := 167) rfl (fun g167 => ?_) (fun g167 => ?_)
 exact absurd g167 (by first | (simp; done) | (rw [decide_eq_false (by omega)]; simp))
 refine tkG rfl rfl rfl rfl (PE.fieldAddr fo41_0 rfl) rfl ?_
 refine ldG rfl rfl rfl rfl rfl (lh sc3 rfl rfl) rfl ?_
 refine tkG rfl rfl rfl rfl (PE.fieldAddr fo41_0 rfl) rfl ?_
 refine ldG rfl rfl rfl rfl rfl (lh sc3 rfl rfl) rfl ?_
 refine tkG rfl rfl rfl rfl (PE.lss rfl rfl) rfl ?_
 refine tk rfl (PE.pick rfl rfl rfl) rfl ?_
 refine tk rfl (PE.move rfl) rfl ?_
 refine sy_case (t := 174) rfl (fun g174 => ?_) (fun g174 => ?_)
 exact absurd g174 (by first | (simp; done) | (rw [decide_eq_false (by omega)]; simp))
 refine tkG rfl rfl rfl rfl (PE.fieldAddr fo41_1 rfl) rfl ?_
 refine ldG rfl rfl rfl rfl rfl (lh sc3 rfl rfl) rfl ?_
 refine tkG rfl rfl rfl rfl (PE.fieldAddr fo41_1 rfl) rfl ?_
 refine ldG rfl rfl rfl rfl rfl (lh sc3 rfl rfl) rfl ?_
 refine tkG rfl rfl rfl rfl (PE.gtr rfl rfl) rfl ?_
 refine tk rfl (PE.pick rfl rfl rfl) rfl ?_
 refine tk rfl (PE.move rfl) rfl ?_
 refine sy_case (t := 181) rfl (fun g181 => ?_) (fun g181 => ?_)
 exact absurd g181 (by first | (simp; done) | (rw [decide_eq_false (by omega)]; simp))
 refine tkG rfl rfl rfl rfl (PE.fieldAddr fo41_0 rfl) rfl ?_
 refine ldG rfl rfl rfl rfl rfl (lh sc3 rfl rfl) rfl ?_
 refine tkG rfl rfl rfl rfl (PE.fieldAddr fo41_1 rfl) rfl ?_
 refine ldG rfl rfl rfl rfl rfl (lh sc3 rfl rfl) rfl ?_
 refine tkG rfl rfl rfl rfl (PE.gtr rfl rfl) rfl ?_
 refine tk rfl (PE.pick rfl rfl rfl) rfl ?_
 refine tk rfl (PE.move rfl) rfl ?_
 refine sy_case (t := 188) rfl (fun g188 => ?_) (fun g188 => ?_)
 exact absurd g188 (by first | (simp; done) | (rw [decide_eq_false (by omega)]; simp))
 refine tkG rfl rfl rfl rfl (PE.move rfl) rfl ?_
 refine tkG rfl rfl rfl rfl (PE.indexArr ar29 rfl rfl (by omega) (by omega)) rfl ?_
 refine ldG rfl rfl rfl rfl rfl (lh sc3 rfl (mix_at hmd.mix.len hk4)) rfl ?_
 refine tkG rfl rfl rfl rfl (PE.move rfl) rfl ?_
 refine tkG rfl rfl rfl rfl (PE.indexArr ar94 rfl rfl (by omega) (by omega)) rfl ?_
 refine tkG rfl rfl rfl rfl (PE.fieldAddr fo41_0 rfl) rfl ?_
 refine ldG rfl rfl rfl rfl rfl (lh sc3 rfl (bx_lo hbl' hk4)) rfl ?_
 refine tkG rfl rfl rfl rfl (PE.lss rfl rfl) rfl ?_
 refine tk rfl (PE.pick rfl rfl rfl) rfl ?_
 refine tk rfl (PE.move rfl) rfl ?_
 refine sy_case (t := 198) rfl (fun g198 => ?_) (fun g198 => ?_)
 exact absurd g198 (by first | (simp; done) | (rw [decide_eq_false (by omega)]; simp))
 refine tkG rfl rfl rfl rfl (PE.move rfl) rfl ?_
 refine tkG rfl rfl rfl rfl (PE.indexArr ar29 rfl rfl (by omega) (by omega)) rfl ?_
 refine ldG rfl rfl rfl rfl rfl (lh sc3 rfl (mix_at hmd.mix.len hk4)) rfl ?_
 refine tkG rfl rfl rfl rfl (PE.move rfl) rfl ?_
 refine tkG rfl rfl rfl rfl (PE.indexArr ar94 rfl rfl (by omega) (by omega)) rfl ?_
 refine tkG rfl rfl rfl rfl (PE.fieldAddr fo41_1 rfl) rfl ?_
 refine ldG rfl rfl rfl rfl rfl (lh sc3 rfl (bx_hi hbl' hk4)) rfl ?_
 refine tkG rfl rfl rfl rfl (PE.gtr rfl rfl) rfl ?_
 refine tk rfl (PE.pick rfl rfl rfl) rfl ?_
 refine sy_cond rfl (fun hc3 => ?_) (fun hc3 => ?_)
 exact absurd hc3 (by first | (simp; done) | (rw [decide_eq_false (by omega)]; simp))
 refine sy_skip ?_
 refine sy_tx' [0, 1] rfl ?_
 refine sp rfl (PE.add rfl rfl (by omega)) rfl ?_
 refine sp rfl (PE.move rfl) rfl ?_
 exact sy_next ⟨k + 1, by omega⟩ (by dsimp only; omega) (by repeat' first | exact Sub.nil | apply Sub.cons | rfl | (simp [lk]; omega)) (fun w h => (h.del b20).del b18)
 try simp only [decide_eq_true_eq, decide_eq_false_iff_not, Bool.and_eq_true, Bool.or_eq_true, Bool.not_eq_true', Int.not_le, Int.not_lt] at hc2
 obtain rfl : k = 4 := by omega
 refine sy_exit ?_
 repeat refine sy_tx ?_
 refine sy_bx ?_
 refine sy_seq ?_
 refine sy_tx' [0, 1, 2, 3, 4, 5, 6, 7, 8] rfl ?_
 refine spL rfl rfl (lhA [_, _, _] ag25 rfl rfl rfl) rfl ?_
 refine spL rfl rfl (lhA [_, _, _] ag28 rfl rfl rfl) rfl ?_
 refine cl rfl cal17 rfl rfl (c_Pay g ag cg (by omega) hcg c ah ch (by omega) _ _) ?_
 rintro _ _ _ ⟨rfl, rfl, rfl⟩
 rw [md_pay hmd hmo.can]
 refine sp rfl (PE.move rfl) rfl ?_
 refine sp rfl (PE.extract rfl rfl) rfl ?_
 refine sp rfl (PE.extract rfl rfl) rfl ?_
 refine alc rfl zl41 rfl (fun b22 => ?_)
 refine sto rfl rfl rfl cn41 rfl rfl rfl rfl ?_
 refine sp rfl (PE.assign rfl) rfl ?_
 refine sy_seq ?_
 refine sy_tx' [0, 1, 2, 3, 4, 5, 6, 7, 8] rfl ?_
 refine spL rfl rfl (lhA [_, _, _] ag25 rfl rfl rfl) rfl ?_
 refine spL rfl rfl (lhA [_, _, _] ag28 rfl rfl rfl) rfl ?_
 refine cl rfl cal17 rfl rfl (c_Pay g ag cg (by omega) hcg d a2 cd (by omega) _ _) ?_
 rintro _ _ _ ⟨rfl, rfl, rfl⟩
 rw [md_pay hdd hmo.can', hmo.net]
 obtain ⟨hp1, hp2⟩ := least_sub (l := g.grs) hmo.sub
 have hq1 := Int.mul_le_mul_of_nonneg_left hp1 hn1.1
 have hq2 := Int.mul_le_mul_of_nonneg_left hp2 (show 0 ≤ (netP g c).2 by omega)
 refine sp rfl (PE.move rfl) rfl ?_
 refine sp rfl (PE.extract rfl rfl) rfl ?_
 refine sp rfl (PE.extract rfl rfl) rfl ?_
 refine alc rfl zl41 rfl (fun b23 => ?_)
 refine sto rfl rfl rfl cn41 rfl rfl rfl rfl ?_
 refine sp rfl (PE.assign rfl) rfl ?_
 refine sy_seq ?_
 refine sy_tx' [0, 1, 2, 3, 4, 5, 6, 7, 8, 9, 10, 11, 12, 13, 14, 15, 16, 17, 18, 19, 20, 21, 22, 23] rfl ?_
 refine sp rfl (PE.move rfl) rfl ?_
 refine sp rfl (PE.eql rfl rfl) rfl ?_
 refine sp rfl (PE.move rfl) rfl ?_
 refine sy_case (t := 223) rfl (fun g223 => ?_) (fun g223 => ?_)
 refine spG rfl rfl rfl rfl (PE.move rfl) rfl ?_
 refine spG rfl rfl rfl rfl (PE.eql rfl rfl) rfl ?_
 refine sp rfl (PE.pick rfl rfl rfl) rfl ?_
 refine sp rfl (PE.move rfl) rfl ?_
 refine sy_case (t := 227) rfl (fun g227 => ?_) (fun g227 => ?_)
 refine spG rfl rfl rfl rfl (PE.fieldAddr fo41_0 rfl) rfl ?_
 refine spLG rfl rfl rfl rfl rfl (lh sc3 rfl rfl) rfl ?_
 refine spG rfl rfl rfl rfl (PE.fieldAddr fo41_0 rfl) rfl ?_
 refine spLG rfl rfl rfl rfl rfl (lh sc3 rfl rfl) rfl ?_
 refine spG rfl rfl rfl rfl (PE.geq rfl rfl) rfl ?_
 refine sp rfl (PE.pick rfl rfl rfl) rfl ?_
 refine sp rfl (PE.move rfl) rfl ?_
 refine sy_case (t := 234) rfl (fun g234 => ?_) (fun g234 => ?_)
 refine spG rfl rfl rfl rfl (PE.fieldAddr fo41_1 rfl) rfl ?_
 refine spLG rfl rfl rfl rfl rfl (lh sc3 rfl rfl) rfl ?_
 refine spG rfl rfl rfl rfl (PE.fieldAddr fo41_1 rfl) rfl ?_
 refine spLG rfl rfl rfl rfl rfl (lh sc3 rfl rfl) rfl ?_
 refine spG rfl rfl rfl rfl (PE.leq rfl rfl) rfl ?_
 refine sp rfl (PE.pick rfl rfl rfl) rfl ?_
 refine sp rfl (PE.move rfl) rfl ?_
 refine sy_case (t := 241) rfl (fun g241 => ?_) (fun g241 => ?_)
 refine clVG rfl rfl rfl rfl cal22 rfl rfl (c_awake _ _) ?_
 refine sp rfl (PE.pick rfl rfl rfl) rfl ?_
 refine sp rfl (PE.assign rfl) rfl ?_
 refine sy_ret ?_
 exact sy_return (vs := [_]) rfl (.cons (RV.tmp rfl) .nil) rfl ⟨rfl, rfl, rfl⟩ (fun w h => St.sub ((((((((((h.del b23).del b22).del b13).del b11).del b10).del b8).del b7).del b6).del b5).ftail.ftail.ftail.ftail.ftail))
 exact absurd g241 (by first | (rw [decide_eq_true (by omega)]; simp; done) | (simp; omega))
 exact absurd g234 (by first | (rw [decide_eq_true (by omega)]; simp; done) | (simp; omega))
 exact absurd g227 (by first | (rw [decide_eq_true (by omega)]; simp; done) | (simp; omega))
 exact absurd g223 (by first | (rw [decide_eq_true (by omega)]; simp; done) | (simp; omega))
 exact sy_stop
 refine sy_alt ?_ ?_
 refine alc rfl zl28 rfl (fun b8 => ?_)
 refine bg (fun w hs => ⟨(lhA (ints (m)) ag29 rfl (rest := []) (by rw [List.append_nil]; rfl) (by rw [ints_length]; exact hmd.mix.len)) w hs, (lhA [_, _, _] ag25 rfl rfl rfl) w hs, (lhA [_, _, _] ag28 rfl rfl rfl) w hs, trivial⟩) ?_
 refine cl rfl cal14 rfl rfl (c_Fill l1 a1 c1 hl1 _ _) ?_
 rintro _ _ R1 ⟨bj, mj, hmj, rfl, rfl, hR1⟩
 obtain rfl := hR1.symm
 clear hR1
 refine bg (fun w hs => ⟨(lhA (ints (m)) ag29 rfl (rest := []) (by rw [List.append_nil]; rfl) (by rw [ints_length]; exact hmd.mix.len)) w hs, (lhA [_, _, _] ag25 rfl rfl rfl) w hs, (lhA [_, _, _] ag28 rfl rfl rfl) w hs, trivial⟩) ?_
 refine sy_pull bj ?_
 refine cl rfl cal52 rfl rfl (c_Taken l1 a1 c1 bj hl1 0 mj (by omega) hmj g hmd.gok.miss (g.sl ag cg) m hmd.mix _ _) ?_
 rintro _ _ R1 ⟨h, tq4, mx4, hho, hhf, rfl, _, _, rfl, hR1⟩
 obtain rfl := hR1.symm
 clear hR1
 refine Sy.heap (fun w h => h.del bj) ?_
 obtain ⟨d, htk, hdd, hdh, hdf, hde⟩ := tak_md hmd (by omega) hho hhf
 refine bg (fun w hs => ⟨trivial, trivial, (lhA [_, _, _] ag28 rfl rfl rfl) w hs, trivial⟩) ?_
 refine cl rfl cal42 rfl rfl (c_Take c ah ch (by omega) h _ _) ?_
 rintro v _ R1 ⟨a2, cd, hcd, hv, rfl, hR1⟩
 rw [htk] at hcd hv hR1
 dsimp only at hcd hv hR1
 obtain rfl := hv
 obtain rfl := hR1.symm
 clear hR1
 have hdm := hdd.cok.many
 have hdl : d.hs.length = c.hs.length + 1 := by rw [hdh]; simp
 obtain ⟨b, hb⟩ := md_bnd hmd
 obtain ⟨b', hb'⟩ := md_bnd hdd
 obtain ⟨l, l', hmo⟩ := md_more (nh := 0) (nh' := 0) hb hb' hdh hdf hde
 have hfw := hmo.few
 have hfw' := hmo.few'
 have hbl := hb.tight.ok.len
 have hbl' := hb'.tight.ok.len
 obtain ⟨hne, hn1, hn2⟩ := md_net hmd
 refine bg (fun w hs => ⟨trivial, trivial⟩) ?_
 refine tk rfl (PE.move rfl) rfl ?_
 refine tk rfl (PE.extract rfl rfl) rfl ?_
 refine tk rfl (PE.extract rfl rfl) rfl ?_
 refine sto rfl rfl rfl cn28 rfl rfl rfl rfl ?_
 refine bg (fun w hs => trivial) ?_
 refine tk rfl (PE.assign rfl) rfl ?_
 refine sy_seq ?_
 refine sy_seq ?_
 refine sy_cut (ι := Unit) (fun _ => ⟨[(5, .pointer (some ⟨b5, 0, none⟩)), (6, .pointer (some ⟨b6, 0, none⟩)), (7, .pointer (some ⟨b7, 0, none⟩)), (8, .pointer (some ⟨b8, 0, none⟩)), (78, .bool false)], (b8, cel 28 (ctl d (d.sl a2 cd))) :: (b7, cel 29 (ints m)) :: (b6, cel 28 (ctl c (c.sl ah ch))) :: (b5, cel 25 (gtl g (g.sl ag cg))) :: H, RowsA a2 5 (hrows d.hs) :: RowsA ah 5 (hrows c.hs) :: RowsA ag 5 (grows g.grs) :: R⟩) ?_ ?_
 refine sy_draw [0, 1, 3, 7, 15, 7, 39, 127, 255, 511, 1023, 2047, 1023, 5119, 16383, 32767, 65535, 131071, 262143, 524287, 131071, 1179647, 3276799, 7471103, 16777215, 33554431, 67108863, 134217727, 268435455, 134217727, 671088639, 1744830463, 4294967295, 134217727, 8724152319, 34359738367, 68719476735, 137438953471] (.tk 0 (.tk 1 (.tk 2 (.tk 3 (.ld 4 (.tk 5 (.ld 6 (.tk 7 (.tk 8 (.tk 9 (.tk 10 (.ld 11 (.tk 12 (.ld 13 (.tk 14 (.tk 15 (.tk 16 (.tk 17 (.ld 18 (.tk 19 (.tk 20 (.ld 21 (.tk 22 (.tk 23 (.tk 24 (.tk 25 (.tk 26 (.tk 27 (.ld 28 (.tk 29 (.ld 30 (.tk 31 (.tk 32 (.tk 33 (.ld 34 (.big 35 (.tk 36 (.tk 37 .done)))))))))))))))))))))))))))))))))))))) mixed (by kernel_rfl) ?_
 refine tk rfl (PE.move rfl) rfl ?_
 refine tk rfl (PE.neq rfl rfl) rfl ?_
 refine tk rfl (PE.move rfl) rfl ?_
 refine sy_case (t := 43) rfl (fun g43 => ?_) (fun g43 => ?_)
 exact absurd g43 (by first | (simp; done) | (rw [decide_eq_false (by omega)]; simp))
 refine tkG rfl rfl rfl rfl (PE.fieldAddr fo28_0 rfl) rfl ?_
 refine ldG rfl rfl rfl rfl rfl (lh sc3 rfl rfl) rfl ?_
 refine tkG rfl rfl rfl rfl (PE.fieldAddr fo28_0 rfl) rfl ?_
 refine ldG rfl rfl rfl rfl rfl (lh sc3 rfl rfl) rfl ?_
 refine tkG rfl rfl rfl rfl (PE.neq rfl rfl) rfl ?_
 refine tk rfl (PE.pick rfl rfl rfl) rfl ?_
 refine tk rfl (PE.move rfl) rfl ?_
 refine sy_case (t := 50) rfl (fun g50 => ?_) (fun g50 => ?_)
 exact absurd g50 (by simp [hdf])
 refine tkG rfl rfl rfl rfl (PE.fieldAddr fo28_1 rfl) rfl ?_
 refine ldG rfl rfl rfl rfl rfl (lh sc3 rfl rfl) rfl ?_
 refine tkG rfl rfl rfl rfl (PE.fieldAddr fo28_1 rfl) rfl ?_
 refine ldG rfl rfl rfl rfl rfl (lh sc3 rfl rfl) rfl ?_
 refine tkG rfl rfl rfl rfl (PE.neq rfl rfl) rfl ?_
 refine tk rfl (PE.pick rfl rfl rfl) rfl ?_
 refine tk rfl (PE.move rfl) rfl ?_
 refine sy_case (t := 57) rfl (fun g57 => ?_) (fun g57 => ?_)
 exact absurd g57 (by simp [hde])
 refine tkG rfl rfl rfl rfl (PE.fieldAddr fo28_2 rfl) rfl ?_
 refine ldG rfl rfl rfl rfl rfl (lh sc26 rfl rfl) rfl ?_
 refine tkG rfl rfl rfl rfl (PE.lenSl isl26 rfl) rfl ?_
 refine tkG rfl rfl rfl rfl (PE.fieldAddr fo28_2 rfl) rfl ?_
 refine ldG rfl rfl rfl rfl rfl (lh sc26 rfl rfl) rfl ?_
 refine tkG rfl rfl rfl rfl (PE.lenSl isl26 rfl) rfl ?_
 refine tkG rfl rfl rfl rfl (PE.add rfl rfl (by omega)) rfl ?_
 refine tkG rfl rfl rfl rfl (PE.neq rfl rfl) rfl ?_
 refine tk rfl (PE.pick rfl rfl rfl) rfl ?_
 refine tk rfl (PE.move rfl) rfl ?_
 refine sy_case (t := 67) rfl (fun g67 => ?_) (fun g67 => ?_)
 exact absurd g67 (by simp [hdl])
 refine tkG rfl rfl rfl rfl (PE.fieldAddr fo28_2 rfl) rfl ?_
 refine ldG rfl rfl rfl rfl rfl (lh sc26 rfl rfl) rfl ?_
 refine tkG rfl rfl rfl rfl (PE.fieldAddr fo28_2 rfl) rfl ?_
 refine ldG rfl rfl rfl rfl rfl (lh sc26 rfl rfl) rfl ?_
 refine tkG rfl rfl rfl rfl (PE.lenSl isl26 rfl) rfl ?_
 refine tkG rfl rfl rfl rfl (PE.slHi sl26 rfl rfl (by omega)) rfl ?_
 refine Sy.heap (fun w h9 => St.rowsTake (a := a2) (sz := 5) (rows := hrows d.hs) h9 c.hs.length) ?_
 rw [show (hrows d.hs).take c.hs.length = hrows c.hs from by rw [hdh]; simp only [hrows, ← List.map_take]; rw [List.take_left]]
 refine tkG rfl rfl rfl rfl (PE.fieldAddr fo28_2 rfl) rfl ?_
 refine ldG rfl rfl rfl rfl rfl (lh sc26 rfl rfl) rfl ?_
 refine clG rfl rfl rfl rfl cal53 rfl rfl (c_eq_hnd c.hs c.hs a2 ah cd ch (by omega) (by omega) _ _) ?_
 rintro _ _ _ ⟨rfl, rfl, rfl⟩
 refine Sy.heap (fun w h => h.ftail) ?_
 rw [decide_eq_true (rfl : c.hs = c.hs)]
 refine bg (fun w hs => ⟨trivial, trivial, trivial, trivial, trivial, trivial, trivial, trivial, trivial, trivial⟩) ?_
 refine tkG rfl rfl rfl rfl (PE.not rfl) rfl ?_
 refine tk rfl (PE.pick rfl rfl rfl) rfl ?_
 exact sy_cutEnd () (by repeat' first | exact Sub.nil | apply Sub.cons | rfl | (simp [lk]; omega)) (fun _ h => h)
 rintro ⟨⟩
 dsimp only
 refine sy_cond rfl (fun hc0 => ?_) (fun hc0 => ?_)
 exact absurd hc0 (by first | (simp; done) | (rw [decide_eq_false (by omega)]; simp))
 refine sy_skip ?_
 refine sy_seq ?_
 refine sy_tx' [0, 1, 2, 3, 4, 5, 6, 7, 8] rfl ?_
 refine spL rfl rfl (lhA [_, _, _] ag25 rfl rfl rfl) rfl ?_
 refine spL rfl rfl (lhA [_, _, _] ag28 rfl rfl rfl) rfl ?_
 refine cl rfl cal50 rfl rfl (c_Bounds g ag cg (by omega) c ah ch (by omega) _ _) ?_
 rintro _ _ _ ⟨rfl, rfl, rfl⟩
 rw [hb.bnd, hb.told]
 refine sp rfl (PE.move rfl) rfl ?_
 refine sp rfl (PE.extract rfl rfl) rfl ?_
 refine sp rfl (PE.extract rfl rfl) rfl ?_
 refine alc rfl zl94 rfl (fun b10 => ?_)
 refine stoA rfl rfl rfl cn94 rfl (by rw [ints_length]; exact hbl) rfl (ints_one _) ?_
 refine sp rfl (PE.assign rfl) rfl ?_
 refine sy_seq ?_
 refine sy_tx' [0, 1, 2, 3, 4, 5, 6, 7, 8] rfl ?_
 refine spL rfl rfl (lhA [_, _, _] ag25 rfl rfl rfl) rfl ?_
 refine spL rfl rfl (lhA [_, _, _] ag28 rfl rfl rfl) rfl ?_
 refine cl rfl cal50 rfl rfl (c_Bounds g ag cg (by omega) d a2 cd (by omega) _ _) ?_
 rintro _ _ _ ⟨rfl, rfl, rfl⟩
 rw [hb'.bnd, hb'.told]
 refine sp rfl (PE.move rfl) rfl ?_
 refine sp rfl (PE.extract rfl rfl) rfl ?_
 refine sp rfl (PE.extract rfl rfl) rfl ?_
 refine alc rfl zl94 rfl (fun b11 => ?_)
 refine stoA rfl rfl rfl cn94 rfl (by rw [ints_length]; exact hbl') rfl (ints_one _) ?_
 refine sp rfl (PE.assign rfl) rfl ?_
 refine sy_seq ?_
 refine sy_tx' [0, 1, 2, 3, 4, 5, 6, 7, 8] rfl ?_
 refine spL rfl rfl (lhA [_, _, _] ag25 rfl rfl rfl) rfl ?_
 refine spL rfl rfl (lhA [_, _, _] ag28 rfl rfl rfl) rfl ?_
 refine cl rfl cal15 rfl rfl (c_Can g ag cg (by omega) hcg c ah ch (by omega) _ _) ?_
 rintro _ _ R1 ⟨o, rfl, rfl, hR1⟩
 obtain rfl := hR1.symm
 clear hR1
 obtain ⟨al, cl1, he, hf⟩ := o.freeze
 rw [he]
 refine Sy.heap (fun w h => hf h) ?_
 rw [show ∀ l : List Int, (irows l).length = l.length from fun l => List.length_map _, hmo.can, hb.told]
 clear he hf o
 refine sp rfl (PE.move rfl) rfl ?_
 refine sp rfl (PE.extract rfl rfl) rfl ?_
 refine sp rfl (PE.extract rfl rfl) rfl ?_
 refine alc rfl zl34 rfl (fun b13 => ?_)
 refine sto rfl rfl rfl cn34 rfl rfl rfl rfl ?_
 refine sp rfl (PE.assign rfl) rfl ?_
 refine sy_seq ?_
 refine sy_tx' [0, 1, 2, 3, 4, 5, 6, 7] rfl ?_
 refine spL rfl rfl (lhA [_, _, _] ag25 rfl rfl rfl) rfl ?_
 refine spL rfl rfl (lhA [_, _, _] ag28 rfl rfl rfl) rfl ?_
 refine cl rfl cal15 rfl rfl (c_Can g ag cg (by omega) hcg d a2 cd (by omega) _ _) ?_
 rintro _ _ R1 ⟨o, rfl, rfl, hR1⟩
 obtain rfl := hR1.symm
 clear hR1
 obtain ⟨al', cl2, he, hf⟩ := o.freeze
 rw [he]
 refine Sy.heap (fun w h => hf h) ?_
 rw [show ∀ l : List Int, (irows l).length = l.length from fun l => List.length_map _, hmo.can', hb'.told]
 clear he hf o
 refine sp rfl (PE.move rfl) rfl ?_
 refine sp rfl (PE.extract rfl rfl) rfl ?_
 refine sp rfl (PE.extract rfl rfl) rfl ?_
 refine sp rfl (PE.assign rfl) rfl ?_
 refine sp rfl (PE.assign rfl) rfl ?_
 refine sy_seq ?_
 refine sy_seq ?_
 refine sy_cut (ι := Unit) (fun _ => ⟨[(5, .pointer (some ⟨b5, 0, none⟩)), (6, .pointer (some ⟨b6, 0, none⟩)), (7, .pointer (some ⟨b7, 0, none⟩)), (8, .pointer (some ⟨b8, 0, none⟩)), (10, .pointer (some ⟨b10, 0, none⟩)), (11, .pointer (some ⟨b11, 0, none⟩)), (13, .pointer (some ⟨b13, 0, none⟩)), (121, .bool false)], (b13, cel 34 [.slice al l.length cl1]) :: (b11, cel 94 (ints b')) :: (b10, cel 94 (ints b)) :: (b8, cel 28 (ctl d (d.sl a2 cd))) :: (b7, cel 29 (ints m)) :: (b6, cel 28 (ctl c (c.sl ah ch))) :: (b5, cel 25 (gtl g (g.sl ag cg))) :: H, RowsA al' 1 (irows l') :: RowsA al 1 (irows l) :: RowsA a2 5 (hrows d.hs) :: RowsA ah 5 (hrows c.hs) :: RowsA ag 5 (grows g.grs) :: R⟩) ?_ ?_
 refine sy_tx' [0, 1, 2, 3, 4, 5, 6, 7, 8, 9, 10, 11, 12, 13, 14, 15, 16, 17, 18] rfl ?_
 refine sp rfl (PE.move rfl) rfl ?_
 refine sp rfl (PE.neq rfl rfl) rfl ?_
 refine sp rfl (PE.move rfl) rfl ?_
 refine sy_case (t := 105) rfl (fun g105 => ?_) (fun g105 => ?_)
 exact absurd g105 (by first | (simp; done) | (rw [decide_eq_false (by omega)]; simp))
 refine spG rfl rfl rfl rfl (PE.move rfl) rfl ?_
 refine spG rfl rfl rfl rfl (PE.neq rfl rfl) rfl ?_
 refine sp rfl (PE.pick rfl rfl rfl) rfl ?_
 refine sp rfl (PE.move rfl) rfl ?_
 refine sy_case (t := 109) rfl (fun g109 => ?_) (fun g109 => ?_)
 exact absurd g109 (by first | (simp; done) | (rw [decide_eq_false (by omega)]; simp))
 refine spG rfl rfl rfl rfl (PE.move rfl) rfl ?_
 refine spG rfl rfl rfl rfl (PE.neq rfl rfl) rfl ?_
 refine sp rfl (PE.pick rfl rfl rfl) rfl ?_
 refine sp rfl (PE.move rfl) rfl ?_
 refine sy_case (t := 113) rfl (fun g113 => ?_) (fun g113 => ?_)
 exact absurd g113 (by first | (simp; done) | (rw [decide_eq_false (by omega)]; simp))
 refine spG rfl rfl rfl rfl (PE.move rfl) rfl ?_
 refine spG rfl rfl rfl rfl (PE.neq rfl rfl) rfl ?_
 refine sp rfl (PE.pick rfl rfl rfl) rfl ?_
 refine sp rfl (PE.move rfl) rfl ?_
 refine sy_case (t := 117) rfl (fun g117 => ?_) (fun g117 => ?_)
 exact absurd g117 (by first | (simp; done) | (rw [decide_eq_false (by omega)]; simp))
 refine spG rfl rfl rfl rfl (PE.move rfl) rfl ?_
 refine spG rfl rfl rfl rfl (PE.makeFunc rfl rfl) rfl ?_
 refine clG rfl rfl rfl rfl cal54 rfl rfl (c_has_int l' al' cl2 55 [] [_] (fun n => !(decide (n ∈ l))) cal55 (by omega) _ _ (hp := fun x _ => c_more1 l al cl1 b13 (by omega) x _ _)) ?_
 rintro _ _ _ ⟨rfl, rfl, rfl⟩
 rw [show (l'.any fun n => !(decide (n ∈ l))) = false from by rw [List.any_eq_false]; intro x hx; simp [hmo.sub x hx]]
 refine sp rfl (PE.pick rfl rfl rfl) rfl ?_
 exact sy_cutEnd () (by repeat' first | exact Sub.nil | apply Sub.cons | rfl | (simp [lk]; omega)) (fun _ h => h)
 rintro ⟨⟩
 dsimp only
 refine sy_cond rfl (fun hc1 => ?_) (fun hc1 => ?_)
 exact absurd hc1 (by first | (simp; done) | (rw [decide_eq_false (by omega)]; simp))
 refine sy_skip ?_
 refine sy_seq ?_
 refine sy_seq ?_
 refine sy_tx' [0] rfl ?_
 refine sp rfl (PE.move rfl) rfl ?_
 refine sy_block ?_
 refine sy_loop (ι := {k : Nat // k ≤ 4}) (fun k => ⟨[(5, .pointer (some ⟨b5, 0, none⟩)), (6, .pointer (some ⟨b6, 0, none⟩)), (7, .pointer (some ⟨b7, 0, none⟩)), (8, .pointer (some ⟨b8, 0, none⟩)), (10, .pointer (some ⟨b10, 0, none⟩)), (11, .pointer (some ⟨b11, 0, none⟩)), (13, .pointer (some ⟨b13, 0, none⟩)), (122, .int .i64 k.1)], (b13, cel 34 [.slice al l.length cl1]) :: (b11, cel 94 (ints b')) :: (b10, cel 94 (ints b)) :: (b8, cel 28 (ctl d (d.sl a2 cd))) :: (b7, cel 29 (ints m)) :: (b6, cel 28 (ctl c (c.sl ah ch))) :: (b5, cel 25 (gtl g (g.sl ag cg))) :: H, RowsA al' 1 (irows l') :: RowsA al 1 (irows l) :: RowsA a2 5 (hrows d.hs) :: RowsA ah 5 (hrows c.hs) :: RowsA ag 5 (grows g.grs) :: R⟩) (fun k => 4 - k.1) ⟨0, by omega⟩ ?_ (fun k => ?_)
 exact sy_at (by repeat' first | exact Sub.nil | apply Sub.cons | rfl | (simp [lk]; omega)) (fun _ h => h)
 obtain ⟨k, hk⟩ := k
 dsimp only at hk ⊢
 refine sy_seq ?_
 refine sy_tx' [0] rfl ?_
 refine sp rfl (PE.lss rfl rfl) rfl ?_
 refine sy_seq ?_
 refine sy_cond rfl (fun hc2 => ?_) (fun hc2 => ?_)
 try simp only [decide_eq_true_eq, decide_eq_false_iff_not, Bool.and_eq_true, Bool.or_eq_true, Bool.not_eq_true', Int.not_le, Int.not_lt] at hc2
 have hk4 : k < 4 := by omega
 have hbk := hb.at_ k hk4
 have hbk' := hb'.at_ k hk4
 have hmk4 := hmo.at_ k hk4
 have hw1 := wgh_at (n := (netP g c).1) (w := (netP g c).1) (x := (netP g c).2) hn1.1 (by omega) hbk.1 (show bl b k ≤ bl b' k ∧ bl b' k ≤ bh b' k by omega)
 have hw2 := wgh_at (n := (netP g c).1) (w := (netP g c).2) (x := (netP g c).2) hn1.1 (by omega) hbk'.1 (show bl b' k ≤ bh b' k ∧ bh b' k ≤ bh b k by omega)
 refine sy_skip ?_
 refine sy_seq ?_
 refine sy_block ?_
 refine sy_seq ?_
 refine sy_tx' [0, 1] rfl ?_
 refine sp rfl (PE.move rfl) rfl ?_
 refine sp rfl (PE.assign rfl) rfl ?_
 refine sy_seq ?_
 refine sy_tx' [0, 1, 2, 3, 4, 5, 6, 7, 8, 9] rfl ?_
 refine spL rfl rfl (lhA [_, _, _] ag25 rfl rfl rfl) rfl ?_
 refine spL rfl rfl (lhA [_, _, _] ag28 rfl rfl rfl) rfl ?_
 refine sp rfl (PE.move rfl) rfl ?_
 refine cl rfl cal23 rfl rfl (c_Weight g ag cg (by omega) c ah ch (by omega) (k : Nat) _ _) ?_
 rintro _ _ _ ⟨rfl, rfl, rfl⟩
 rw [hb.wgt k hk4]
 refine sp rfl (PE.move rfl) rfl ?_
 refine sp rfl (PE.extract rfl rfl) rfl ?_
 refine sp rfl (PE.extract rfl rfl) rfl ?_
 refine alc rfl zl41 rfl (fun b18 => ?_)
 refine sto rfl rfl rfl cn41 rfl rfl rfl rfl ?_
 refine sp rfl (PE.assign rfl) rfl ?_
 refine sy_seq ?_
 refine sy_tx' [0, 1, 2, 3, 4, 5, 6, 7, 8, 9] rfl ?_
 refine spL rfl rfl (lhA [_, _, _] ag25 rfl rfl rfl) rfl ?_
 refine spL rfl rfl (lhA [_, _, _] ag28 rfl rfl rfl) rfl ?_
 refine sp rfl (PE.move rfl) rfl ?_
 refine cl rfl cal23 rfl rfl (c_Weight g ag cg (by omega) d a2 cd (by omega) (k : Nat) _ _) ?_
 rintro _ _ _ ⟨rfl, rfl, rfl⟩
 rw [hb'.wgt k hk4, hmo.net]
 refine sp rfl (PE.move rfl) rfl ?_
 refine sp rfl (PE.extract rfl rfl) rfl ?_
 refine sp rfl (PE.extract rfl rfl) rfl ?_
 refine alc rfl zl41 rfl (fun b20 => ?_)
 refine sto rfl rfl rfl cn41 rfl rfl rfl rfl ?_
 refine sp rfl (PE.assign rfl) rfl ?_
 refine sy_seq ?_
 refine sy_draw [0, 1, 3, 7, 15, 31, 63, 127, 255, 511, 1023, 127, 2175, 6271, 14463, 32767, 65535, 131071, 262143, 524287, 1048575, 2097151, 262143, 4456447, 12845055, 29622271, 67108863, 134217727, 268435455, 536870911, 1073741823, 536870911, 2684354559, 8589934591, 17179869183, 34359738367, 68719476735, 137438953471, 68719476735, 343597383679, 1099511627775, 2199023255551, 4398046511103, 8796093022207, 17592186044415, 8796093022207, 43980465111039, 140737488355327, 281474976710655, 562949953421311, 1125899906842623, 2251799813685247, 4503599627370495, 1125899906842623, 10133099161583615, 28147497671065599, 64176294690029567, 144115188075855871, 288230376151711743, 576460752303423487, 1152921504606846975, 2305843009213693951, 4611686018427387903, 1152921504606846975, 10376293541461622783, 28823037615171174399, 65716525762590277631, 147573952589676412927, 295147905179352825855] (.tk 0 (.tk 1 (.tk 2 (.tk 3 (.tk 4 (.tk 5 (.tk 6 (.tk 7 (.tk 8 (.tk 9 (.ld 10 (.tk 11 (.tk 12 (.tk 13 (.ld 14 (.tk 15 (.tk 16 (.tk 17 (.tk 18 (.tk 19 (.tk 20 (.ld 21 (.tk 22 (.tk 23 (.tk 24 (.ld 25 (.tk 26 (.tk 27 (.tk 28 (.tk 29 (.ld 30 (.tk 31 (.ld 32 (.tk 33 (.tk 34 (.tk 35 (.tk 36 (.ld 37 (.tk 38 (.ld 39 (.tk 40 (.tk 41 (.tk 42 (.tk 43 (.ld 44 (.tk 45 (.ld 46 (.tk 47 (.tk 48 (.tk 49 (.tk 50 (.tk 51 (.ld 52 (.tk 53 (.tk 54 (.tk 55 (.ld 56 (.tk 57 (.tk 58 (.tk 59 (.tk 60 (.tk 61 (.ld 62 (.tk 63 (.tk 64 (.tk 65 (.ld 66 (.tk 67 (.tk 68 .done))))))))))))))))))))))))))))))))))))))))))))))))))))))))))))))))))))) mixed (by kernel_rfl) ?_
 refine tk rfl (PE.move rfl) rfl ?_
 refine tk rfl (PE.neq rfl rfl) rfl ?_
 refine tk rfl (PE.move rfl) rfl ?_
 refine sy_case (t := 141) rfl (fun g141 => ?_) (fun g141 => ?_)
 exact absurd g141 (by first | (simp; done) | (rw [decide_eq_false (by omega)]; simp))
 refine tkG rfl rfl rfl rfl (PE.move rfl) rfl ?_
 refine tkG rfl rfl rfl rfl (PE.neq rfl rfl) rfl ?_
 refine tk rfl (PE.pick rfl rfl rfl) rfl ?_
 refine tk rfl (PE.move rfl) rfl ?_
 refine sy_case (t := 145) rfl (fun g145 => ?_) (fun g145 => ?_)
 exact absurd g145 (by first | (simp; done) | (rw [decide_eq_false (by omega)]; simp))
 refine tkG rfl rfl rfl rfl (PE.move rfl) rfl ?_
 refine tkG rfl rfl rfl rfl (PE.indexArr ar94 rfl rfl (by omega) (by omega)) rfl ?_
 refine tkG rfl rfl rfl rfl (PE.fieldAddr fo41_0 rfl) rfl ?_
 refine ldG rfl rfl rfl rfl rfl (lh sc3 rfl (bx_lo hbl' hk4)) rfl ?_
 refine tkG rfl rfl rfl rfl (PE.move rfl) rfl ?_
 refine tkG rfl rfl rfl rfl (PE.indexArr ar94 rfl rfl (by omega) (by omega)) rfl ?_
 refine tkG rfl rfl rfl rfl (PE.fieldAddr fo41_0 rfl) rfl ?_
 refine ldG rfl rfl rfl rfl rfl (lh sc3 rfl (bx_lo hbl hk4)) rfl ?_
 refine tkG rfl rfl rfl rfl (PE.lss rfl rfl) rfl ?_
 refine tk rfl (PE.pick rfl rfl rfl) rfl ?_
 refine tk rfl (PE.move rfl) rfl ?_
 refine sy_case (t := 156) rfl (fun g156 => ?_) (fun g156 => ?_)
 exact absurd g156 (by first | (simp; done) | (rw [decide_eq_false (by omega)]; simp))
 refine tkG rfl rfl rfl rfl (PE.move rfl) rfl ?_
 refine tkG rfl rfl rfl rfl (PE.indexArr ar94 rfl rfl (by omega) (by omega)) rfl ?_
 refine tkG rfl rfl rfl rfl (PE.fieldAddr fo41_1 rfl) rfl ?_
 refine ldG rfl rfl rfl rfl rfl (lh sc3 rfl (bx_hi hbl' hk4)) rfl ?_
 refine tkG rfl rfl rfl rfl (PE.move rfl) rfl ?_
 refine tkG rfl rfl rfl rfl (PE.indexArr ar94 rfl rfl (by omega) (by omega)) rfl ?_
 refine tkG rfl rfl rfl rfl (PE.fieldAddr fo41_1 rfl) rfl ?_
 refine ldG rfl rfl rfl rfl rfl (lh sc3 rfl (bx_hi hbl hk4)) rfl ?_
 refine tkG rfl rfl rfl rfl (PE.gtr rfl rfl) rfl ?_
 refine tk rfl (PE.pick rfl rfl rfl) rfl ?_
 refine tk rfl (PE.move rfl) rfl ?_
 refine sy_case (t := 167) rfl (fun g167 => ?_) (fun g167 => ?_)
 exact absurd g167 (by first | (simp; done) | (rw [decide_eq_false (by omega)]; simp))
 refine tkG rfl rfl rfl rfl (PE.fieldAddr fo41_0 rfl) rfl ?_
 refine ldG rfl rfl rfl rfl rfl (lh sc3 rfl rfl) rfl ?_
 refine tkG rfl rfl rfl rfl (PE.fieldAddr fo41_0 rfl) rfl ?_
 refine ldG rfl rfl rfl rfl rfl (lh sc3 rfl rfl) rfl ?_
 refine tkG rfl rfl rfl rfl (PE.lss rfl rfl) rfl ?_
 refine tk rfl (PE.pick rfl rfl rfl) rfl ?_
 refine tk rfl (PE.move rfl) rfl ?_
 refine sy_case (t := 174) rfl (fun g174 => ?_) (fun g174 => ?_)
 exact absurd g174 (by first | (simp; done) | (rw [decide_eq_false (by omega)]; simp))
 refine tkG rfl rfl rfl rfl (PE.fieldAddr fo41_1 rfl) rfl ?_
 refine ldG rfl rfl rfl rfl rfl (lh sc3 rfl rfl) rfl ?_
 refine tkG rfl rfl rfl rfl (PE.fieldAddr fo41_1 rfl) rfl ?_
 refine ldG rfl rfl rfl rfl rfl (lh sc3 rfl rfl) rfl ?_
 refine tkG rfl rfl rfl rfl (PE.gtr rfl rfl) rfl ?_
 refine tk rfl (PE.pick rfl rfl rfl) rfl ?_
 refine tk rfl (PE.move rfl) rfl ?_
 refine sy_case (t := 181) rfl (fun g181 => ?_) (fun g181 => ?_)
 exact absurd g181 (by first | (simp; done) | (rw [decide_eq_false (by omega)]; simp))
 refine tkG rfl rfl rfl rfl (PE.fieldAddr fo41_0 rfl) rfl ?_
 refine ldG rfl rfl rfl rfl rfl (lh sc3 rfl rfl) rfl ?_
 refine tkG rfl rfl rfl rfl (PE.fieldAddr fo41_1 rfl) rfl ?_
 refine ldG rfl rfl rfl rfl rfl (lh sc3 rfl rfl) rfl ?_
 refine tkG rfl rfl rfl rfl (PE.gtr rfl rfl) rfl ?_
 refine tk rfl (PE.pick rfl rfl rfl) rfl ?_
 refine tk rfl (PE.move rfl) rfl ?_
 refine sy_case (t := 188) rfl (fun g188 => ?_) (fun g188 => ?_)
 exact absurd g188 (by first | (simp; done) | (rw [decide_eq_false (by omega)]; simp))
 refine tkG rfl rfl rfl rfl (PE.move rfl) rfl ?_
 refine tkG rfl rfl rfl rfl (PE.indexArr ar29 rfl rfl (by omega) (by omega)) rfl ?_
 refine ldG rfl rfl rfl rfl rfl (lh sc3 rfl (mix_at hmd.mix.len hk4)) rfl ?_
 refine tkG rfl rfl rfl rfl (PE.move rfl) rfl ?_
 refine tkG rfl rfl rfl rfl (PE.indexArr ar94 rfl rfl (by omega) (by omega)) rfl ?_
 refine tkG rfl rfl rfl rfl (PE.fieldAddr fo41_0 rfl) rfl ?_
 refine ldG rfl rfl rfl rfl rfl (lh sc3 rfl (bx_lo hbl' hk4)) rfl ?_
 refine tkG rfl rfl rfl rfl (PE.lss rfl rfl) rfl ?_
 refine tk rfl (PE.pick rfl rfl rfl) rfl ?_
 refine tk rfl (PE.move rfl) rfl ?_
 refine sy_case (t := 198) rfl (fun g198 => ?_) (fun g198 => ?_)
 exact absurd g198 (by first | (simp; done) | (rw [decide_eq_false (by omega)]; simp))
 refine tkG rfl rfl rfl rfl (PE.move rfl) rfl ?_
 refine tkG rfl rfl rfl rfl (PE.indexArr ar29 rfl rfl (by omega) (by omega)) rfl ?_
 refine ldG rfl rfl rfl rfl rfl (lh sc3 rfl (mix_at hmd.mix.len hk4)) rfl ?_
 refine tkG rfl rfl rfl rfl (PE.move rfl) rfl ?_
 refine tkG rfl rfl rfl rfl (PE.indexArr ar94 rfl rfl (by omega) (by omega)) rfl ?_
 refine tkG rfl rfl rfl rfl (PE.fieldAddr fo41_1 rfl) rfl ?_
 refine ldG rfl rfl rfl rfl rfl (lh sc3 rfl (bx_hi hbl' hk4)) rfl ?_
 refine tkG rfl rfl rfl rfl (PE.gtr rfl rfl) rfl ?_
 refine tk rfl (PE.pick rfl rfl rfl) rfl ?_
 refine sy_cond rfl (fun hc3 => ?_) (fun hc3 => ?_)
 exact absurd hc3 (by first | (simp; done) | (rw [decide_eq_false (by omega)]; simp))
 refine sy_skip ?_
 refine sy_tx' [0, 1] rfl ?_
 refine sp rfl (PE.add rfl rfl (by omega)) rfl ?_
 refine sp rfl (PE.move rfl) rfl ?_
 exact sy_next ⟨k + 1, by omega⟩ (by dsimp only; omega) (by repeat' first | exact Sub.nil | apply Sub.cons | rfl | (simp [lk]; omega)) (fun w h => (h.del b20).del b18)
 try simp only [decide_eq_true_eq, decide_eq_false_iff_not, Bool.and_eq_true, Bool.or_eq_true, Bool.not_eq_true', Int.not_le, Int.not_lt] at hc2
 obtain rfl : k = 4 := by omega
 refine sy_exit ?_
 repeat refine sy_tx ?_
 refine sy_bx ?_
 refine sy_seq ?_
 refine sy_tx' [0, 1, 2, 3, 4, 5, 6, 7, 8] rfl ?_
 refine spL rfl rfl (lhA [_, _, _] ag25 rfl rfl rfl) rfl ?_
 refine spL rfl rfl (lhA [_, _, _] ag28 rfl rfl rfl) rfl ?_
 refine cl rfl cal17 rfl rfl (c_Pay g ag cg (by omega) hcg c ah ch (by omega) _ _) ?_
 rintro _ _ _ ⟨rfl, rfl, rfl⟩
 rw [md_pay hmd hmo.can]
 refine sp rfl (PE.move rfl) rfl ?_
 refine sp rfl (PE.extract rfl rfl) rfl ?_
 refine sp rfl (PE.extract rfl rfl) rfl ?_
 refine alc rfl zl41 rfl (fun b22 => ?_)
 refine sto rfl rfl rfl cn41 rfl rfl rfl rfl ?_
 refine sp rfl (PE.assign rfl) rfl ?_
 refine sy_seq ?_
 refine sy_tx' [0, 1, 2, 3, 4, 5, 6, 7, 8] rfl ?_
 refine spL rfl rfl (lhA [_, _, _] ag25 rfl rfl rfl) rfl ?_
 refine spL rfl rfl (lhA [_, _, _] ag28 rfl rfl rfl) rfl ?_
 refine cl rfl cal17 rfl rfl (c_Pay g ag cg (by omega) hcg d a2 cd (by omega) _ _) ?_
 rintro _ _ _ ⟨rfl, rfl, rfl⟩
 rw [md_pay hdd hmo.can', hmo.net]
 obtain ⟨hp1, hp2⟩ := least_sub (l := g.grs) hmo.sub
 have hq1 := Int.mul_le_mul_of_nonneg_left hp1 hn1.1
 have hq2 := Int.mul_le_mul_of_nonneg_left hp2 (show 0 ≤ (netP g c).2 by omega)
 refine sp rfl (PE.move rfl) rfl ?_
 refine sp rfl (PE.extract rfl rfl) rfl ?_
 refine sp rfl (PE.extract rfl rfl) rfl ?_
 refine alc rfl zl41 rfl (fun b23 => ?_)
 refine sto rfl rfl rfl cn41 rfl rfl rfl rfl ?_
 refine sp rfl (PE.assign rfl) rfl ?_
 refine sy_seq ?_
 refine sy_tx' [0, 1, 2, 3, 4, 5, 6, 7, 8, 9, 10, 11, 12, 13, 14, 15, 16, 17, 18, 19, 20, 21, 22, 23] rfl ?_
 refine sp rfl (PE.move rfl) rfl ?_
 refine sp rfl (PE.eql rfl rfl) rfl ?_
 refine sp rfl (PE.move rfl) rfl ?_
 refine sy_case (t := 223) rfl (fun g223 => ?_) (fun g223 => ?_)
 refine spG rfl rfl rfl rfl (PE.move rfl) rfl ?_
 refine spG rfl rfl rfl rfl (PE.eql rfl rfl) rfl ?_
 refine sp rfl (PE.pick rfl rfl rfl) rfl ?_
 refine sp rfl (PE.move rfl) rfl ?_
 refine sy_case (t := 227) rfl (fun g227 => ?_) (fun g227 => ?_)
 refine spG rfl rfl rfl rfl (PE.fieldAddr fo41_0 rfl) rfl ?_
 refine spLG rfl rfl rfl rfl rfl (lh sc3 rfl rfl) rfl ?_
 refine spG rfl rfl rfl rfl (PE.fieldAddr fo41_0 rfl) rfl ?_
 refine spLG rfl rfl rfl rfl rfl (lh sc3 rfl rfl) rfl ?_
 refine spG rfl rfl rfl rfl (PE.geq rfl rfl) rfl ?_
 refine sp rfl (PE.pick rfl rfl rfl) rfl ?_
 refine sp rfl (PE.move rfl) rfl ?_
 refine sy_case (t := 234) rfl (fun g234 => ?_) (fun g234 => ?_)
 refine spG rfl rfl rfl rfl (PE.fieldAddr fo41_1 rfl) rfl ?_
 refine spLG rfl rfl rfl rfl rfl (lh sc3 rfl rfl) rfl ?_
 refine spG rfl rfl rfl rfl (PE.fieldAddr fo41_1 rfl) rfl ?_
 refine spLG rfl rfl rfl rfl rfl (lh sc3 rfl rfl) rfl ?_
 refine spG rfl rfl rfl rfl (PE.leq rfl rfl) rfl ?_
 refine sp rfl (PE.pick rfl rfl rfl) rfl ?_
 refine sp rfl (PE.move rfl) rfl ?_
 refine sy_case (t := 241) rfl (fun g241 => ?_) (fun g241 => ?_)
 refine clVG rfl rfl rfl rfl cal22 rfl rfl (c_awake _ _) ?_
 refine sp rfl (PE.pick rfl rfl rfl) rfl ?_
 refine sp rfl (PE.assign rfl) rfl ?_
 refine sy_ret ?_
 exact sy_return (vs := [_]) rfl (.cons (RV.tmp rfl) .nil) rfl ⟨rfl, rfl, rfl⟩ (fun w h => St.sub ((((((((((h.del b23).del b22).del b13).del b11).del b10).del b8).del b7).del b6).del b5).ftail.ftail.ftail.ftail.ftail))
 exact absurd g241 (by first | (rw [decide_eq_true (by omega)]; simp; done) | (simp; omega))
 exact absurd g234 (by first | (rw [decide_eq_true (by omega)]; simp; done) | (simp; omega))
 exact absurd g227 (by first | (rw [decide_eq_true (by omega)]; simp; done) | (simp; omega))
 exact absurd g223 (by first | (rw [decide_eq_true (by omega)]; simp; done) | (simp; omega))
 exact sy_stop
end Go.Proofs.Ytknoaljnelfklaa
