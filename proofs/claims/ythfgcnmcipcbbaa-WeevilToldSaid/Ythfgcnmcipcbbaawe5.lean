/- Walks of the functions of the program, and the laws that join them: what the last theorem of this claim needs, in order. -/
import Derived.Test.Ythfgcnmcipcbbaawe4
namespace Go.Proofs.Ythfgcnmcipcbbaa
set_option linter.unusedSimpArgs false
set_option linter.unusedVariables false
open Go
theorem Zek : apT Try.prog 55 = some (27, 1, 24) := by kernel_rfl
theorem ZdX : cal Try.prog 61 = true := by kernel_rfl
theorem Z5o : Z2f Try.prog 108 1 = some 1 := by kernel_rfl
structure PL where
  a : Option Addr
  c : Nat
  l : List Int
def Z6h (x : PL) : List Value := [.slice x.a x.l.length x.c]
def ZG (l : List PL) : List (List Value) := l.map Z6h
def Inn (l : List PL) (w : World) : Prop := ∀ x ∈ l, RowsA x.a 1 (Z4 x.l) w
def lls (l : List PL) : List (List Int) := l.map (·.l)
theorem Z0n (l : List PL) : (ZG l).length = l.length := List.length_map _
theorem Z6M {l : List PL} {k : Nat} {x : PL} (h : l[k]? = some x) : (ZG l)[k]? = some (Z6h x) := by simp [ZG, h]
theorem Z50 (l : List PL) : (lls l).length = l.length := List.length_map _
theorem St.inn {H : Z8} {R : Z6} {w : World} {l : List PL} {x : PL} [m : MemF (Inn l) R] (h : St H R w) (hx : x ∈ l) : St H (RowsA x.a 1 (Z4 x.l) :: R) w :=
  h.also fun _ hw => hw _ m.mem x hx
theorem PE.fieldV {P : Program} {L : Zk} {d : Option Tmp} {ty : TypeId} {pos : String} {af : Array Edge} {gg : Option (Nat × Bool)} {T k e o : Nat} {x : Operand} {vs : List Value} {v : Value} (hF : fTy P T k = some (e, o)) (hE : Z2l P e = true) (hx : ev L x = some (.agg vs.toArray)) (hv : vs[o]? = some v) :
    PE P L ⟨d, .field T x k, ty, pos, af, gg⟩ v := fun ρ hρ w => by
  unfold fTy at hF
  split at hF
  · rename_i fs hu
    obtain ⟨f, hf, he⟩ := Option.map_eq_some_iff.1 hF
    cases he
    simp [execOp, hρ _ _ hx, Instr.field, Sem.run_bind, Sem.run_pure, run_underlying hu, Result.andThen, hf, asAgg, part, Z0C hE, hv]
  · cases hF
theorem St.innSnoc {H : Z8} {R : Z6} {w : World} {l : List PL} (x : PL) [m : MemF (Inn l) R] [n : MemRows x.a 1 (Z4 x.l) R] (h : St H R w) : St H (Inn (l ++ [x]) :: R) w := h.also fun w' hw y hy => by
  rcases List.mem_append.1 hy with h1 | h1
  · exact hw _ m.mem y h1
  · rw [List.mem_singleton.1 h1]; exact hw _ n.mem
theorem St.inn0 {H : Z8} {R : Z6} {w : World} (h : St H R w) : St H (Inn [] :: R) w := h.also fun w' hw y hy => by cases hy
theorem Z1A (l : List PL) (x : PL) : ZG l ++ [Z6h x] = ZG (l ++ [x]) := by simp [ZG]
theorem Z48 (l : List PL) (x : PL) : lls (l ++ [x]) = lls l ++ [x.l] := by simp [lls]
def ZcY (h : Hse) (fr to_ : List Int) (spd : Int) (H : Z8) (R : Z6) : Value → Z8 → Z6 → Prop := fun v H' R' => H' = H ∧ ((h.rcE fr to_ spd ≠ 0 ∧ v = .tuple #[.slice none 0 0, .int .i64 (h.rcE fr to_ spd)] ∧ R' = R) ∨
  (h.rcE fr to_ spd = 0 ∧ (∀ n, ¬ Pl h.gaps (msk to_) spd.toNat (msk fr) 0 n) ∧ v = .tuple #[.slice none 0 0, .int .i64 6] ∧ R' = R) ∨
  (h.rcE fr to_ spd = 0 ∧ ∃ (ls : List Nat) (pl : List PL) (a : Option Addr) (c : Nat), lls pl = ls.map Z1W ∧ pl.length ≤ 1000 ∧ pl.length ≤ c ∧ (∀ l ∈ ls, l < 2 ^ h.gaps.length) ∧ RunP h.gaps (msk to_) spd.toNat (msk fr) 0 ls ∧ Lst (Pl h.gaps (msk to_) spd.toNat (msk fr) 0) (Z8e h.gaps ls) ∧ v = .tuple #[.slice a pl.length c, .int .i64 0] ∧ R' = RowsA a 1 (ZG pl) :: Inn pl :: R))
theorem Zbw {h : Hse} {fr to_ : List Int} {spd : Int} (he : h.rcE fr to_ spd = 0) : h.Bot fr to_ ∧ 0 ≤ spd ∧ spd ≤ 10 := by
  unfold Hse.rcE at he
  by_cases h1 : h.botE fr to_ = 0
  · rw [decide_eq_false (fun e => e h1), cond_false] at he
    cases h2 : inB spd 0 10 with
    | false => rw [h2] at he; cases he
    | true => exact ⟨Z3G h1, by simpa [inB] using h2⟩
  · rw [decide_eq_true h1, cond_true] at he; exact absurd he h1
theorem Seg.lt {gs : List Gp} {K sp : Nat} (hw : Wth gs 7) : ∀ {ls : List Nat} {m c m' c' : Nat}, Seg gs K sp m c ls m' c' → m < 2 ^ 7 → c < 2 ^ gs.length → m' < 2 ^ 7 ∧ c' < 2 ^ gs.length
  | [], m, c, m', c', ⟨h1, h2⟩, h3, h4 => by subst h1; subst h2; exact ⟨h3, h4⟩
  | l :: ls, m, c, m', c', ⟨h1, h2⟩, h3, h4 => Seg.lt hw h2 (Z3C hw h3) (Nat.or_lt_two_pow h4 h1.1)
set_option maxHeartbeats 1000000 in
theorem Z9o (h : Hse) (ag as_ : Option Addr) (cg cs : Nat) (hlg : h.gaps.length ≤ 9223372036854775807) (hls : h.sights.length ≤ 9223372036854775807) (fr to_ : List Int) (af at_ : Option Addr) (cf ct : Nat) (hlf : fr.length ≤ 1000000) (hlt : to_.length ≤ 1000000) (hfc : fr.length ≤ cf) (htc : to_.length ≤ ct) (spd : Int) (H : Z8) (R : Z6) [hG : MemRows ag 2 (Zi h.gaps) R] [hS : MemRows as_ 3 (Zh h.sights) R] [hF : MemRows af 1 (Z4 fr) R] [hT : MemRows at_ 1 (Z4 to_) R] :
    Fn Try.prog 24 [h.v (h.sg ag cg) (h.ss as_ cs), .slice af fr.length cf, .slice at_ to_.length ct, .int .i64 spd] H R (ZcY h fr to_ spd H R) := by
 refine Zg Try.func24 rfl Try.ntmps24 rfl ?_
 refine sqt 3 rfl (bx rfl rfl rfl (fun b4 => pur 2 rfl (sqt 10 rfl (spL rfl rfl (lhA (htl h (h.sg ag cg) (h.ss as_ cs)) Z0g rfl rfl rfl) rfl (pur 3 rfl ?_)))))
 refine cl rfl ZdX rfl rfl (Zac h ag as_ cg cs hlg hls fr to_ af at_ cf ct hlf hlt hfc htc spd _ _) ?_
 rintro _ _ R1 (⟨hre, rfl, rfl, hR1⟩ | ⟨hre, bd, br, mm, rfl, rfl, hR1⟩) <;> obtain rfl := hR1.symm <;> clear hR1
 refine pur 5 rfl (Z1 (sqt 2 rfl (pur 2 rfl ?_)))
 refine Z0 rfl ?_ ?_ <;> intro hc0
 refine sqt 3 rfl (pur 3 rfl (Z5 ?_))
 exact rtB rfl rfl rfl rfl ⟨rfl, .inl ⟨hre, rfl, rfl⟩⟩ (fun w h9 => h9.del b4)
 exact absurd hc0 (by simp [hre])
 refine pur 5 rfl (Z1 (sqt 2 rfl (pur 2 rfl ?_)))
 refine Z0 rfl ?_ ?_ <;> intro hc0
 exact absurd hc0 (by simp)
 obtain ⟨hb, hs0, hs10⟩ := Zbw hre
 obtain ⟨q1, q2, q3, q4, q5, q6⟩ := Z1i hb
 have hok := hb.ok
 have hgl := hok.gl
 have hw7 : Wth h.gaps 7 := fun g hg => by have := hok.gaps g hg; have := hok.bins; omega
 have hS7 : msk fr < 2 ^ 7 := Z0w fun x hx => q1 x hx
 have hK7 : msk to_ < 2 ^ 7 := Z0w fun x hx => q2 x hx
 have htwo : Two h.gaps (msk fr) (msk to_) := ⟨hw7, fun i g hg => by have := hok.gaps g (List.mem_of_getElem? hg); omega, hS7, hK7, fun v hv => by
   cases hk : (msk to_).testBit v with
   | false => rfl
   | true => exact absurd ((Zs (fun k hk => (q2 k hk).1) v).1 hk) (hb.no _ ((Zs (fun k hk => (q1 k hk).1) v).1 hv))⟩
 have hK : (rcD h ag as_ cg cs to_ spd bd br mm).K < 2 ^ 7 := hK7
 have hsp : (rcD h ag as_ cg cs to_ spd bd br mm).sp ≤ 1000 := by show spd.toNat ≤ 1000; omega
 refine Z2 (Z1 (sqt 8 rfl (pur 1 rfl (sp rfl (PE.nilCheck rfl) rfl (sp rfl (PE.fA Z5n rfl) rfl (spL rfl rfl (lfB (sz := 4) Z6k rfl) rfl (pur 2 rfl ?_)))))))
 refine cl rfl Zbr rfl rfl (ZbW (dkA h ag as_ cg cs bd) (Z03 h ag as_ cg cs hb.ok bd) fr to_ af at_ cf ct q1 q2 q3 (by omega) hb.no _ _) ?_
 rintro _ _ R1 ⟨fl, V, a, c, hfl, hfw, hsh, rfl, hcc, rfl, hR1⟩
 obtain rfl := hR1.symm
 clear hR1
 have hop := Z9j h ag as_ cg cs bd
 rw [hop] at hsh
 have hCM : Z9O (dkA h ag as_ cg cs bd).h.gaps (dkA h ag as_ cg cs bd).cl (Z1B V) = Z1C (Z1B V) h.gaps := Z4u _ _
 rw [hCM] at hcc ⊢
 obtain ⟨hcut, hshut⟩ := Shn.cut htwo hsh hfw
 obtain ⟨CU, hCU⟩ : ∃ CU, CU = Z1C (Z1B V) h.gaps := ⟨_, rfl⟩
 have hcl := Z7w (Z1B V) h.gaps
 have hcn := Z5U (Z1B V) h.gaps
 have hcm := Z7S hgl (Z1B V)
 rw [← hCU] at hcc hcut hshut hcl hcn hcm ⊢
 refine pur 1 rfl (sqt 4 rfl (pur 1 rfl (sp rfl (PE.lenSl ZC rfl) rfl (pur 2 rfl ?_))))
 refine Z0 rfl ?_ ?_ <;> intro hc1 <;> try simp only [cS] at hc1
 refine sqt 4 rfl (pur 1 rfl ?_)
 refine bsl (out := [_]) rfl ZcL Z8h rfl rfl rfl rfl rfl rfl (fun b40 => ?_)
 refine pur 2 rfl (Z5 ?_)
 refine Sy.heap (fun w h9 => St.rows (sz := 1) (rows := ZG [⟨a, c, CU⟩]) (rest := []) (h9.pull b40) (by simp [ZG, Z6h])) ?_
 refine Sy.heap (fun w h9 => St.inn0 h9) ?_
 refine Sy.heap (fun w h9 => (show St _ (Inn [⟨a, c, CU⟩] :: _) w from St.innSnoc (l := []) ⟨a, c, CU⟩ h9)) ?_
 exact rtB rfl rfl rfl rfl ⟨rfl, .inr (.inr ⟨hre, [msk CU], [⟨a, c, CU⟩], some ⟨b40, 0, none⟩, 1, by show [CU] = [Z1W (msk CU)]; rw [hcm], by show 1 ≤ 1000; decide, Nat.le_refl _, fun l hl => by rw [List.mem_singleton.1 hl]; exact hcl, RunP.once hshut hcl (by omega), by show Lst _ (cnt _ _ + 0); rw [hcn]; exact Cut.plan hw7 hS7 hcut (by omega), rfl, rfl⟩)⟩ (fun w h9 => St.sub ((h9.del mm).del b4))
 refine Z2 (sqt 5 rfl (pur 1 rfl ?_))
 refine clV rfl Zcp rfl rfl (ZbB fr (fun k hk => by have := q1 k hk; omega) hlf af cf _ _) ?_
 refine sp rfl (PE.build (out := [_, _]) Z52 Z2p rfl rfl) rfl (alc rfl Z2p rfl (fun b13 => ?_))
 refine ZF (l' := plc (msk fr) (0)) rfl rfl rfl Z5i rfl rfl rfl rfl (nl rfl) ?_
 refine Z1 (sqt 4 rfl (pur 1 rfl ?_))
 refine ZA mm ?_
 refine spL rfl rfl (lhA (plc (msk fr) 0) Z0v rfl rfl rfl) rfl ?_
 refine cl rfl Z8I rfl rfl (Z7F (rcD h ag as_ cg cs to_ spd bd br mm) (Z03 h ag as_ cg cs hb.ok bd) hK hsp 128 (msk fr) (0) [] _ _ hS7 (by decide) (by omega) (Memo.nil _ _ _)) ?_
 rintro _ _ R1 ⟨n, l0, lost, kv, rfl, hbs, hme, rfl, hR1⟩
 obtain rfl := hR1.symm
 clear hR1
 rw [show svv n l0 lost = .agg (svl n l0 lost).toArray from rfl]
 refine sp rfl (PE.fieldV (vs := svl n l0 lost) (show fTy Try.prog 108 2 = some (4, 2) from by kernel_rfl) sc4 rfl rfl) rfl ?_
 refine Z0 rfl ?_ ?_ <;> intro hc2
 obtain rfl : lost = true := hc2
 have hnp := (hbs.resolve_right (fun h => by cases h.1)).2.2.2
 refine sqt 2 rfl (pur 2 rfl (Z5 ?_))
 exact rtB rfl rfl rfl rfl ⟨rfl, .inr (.inl ⟨hre, hnp, rfl, rfl⟩)⟩ (fun w h9 => St.sub (((h9.del mm).del b13).del b4))
 obtain rfl : lost = false := hc2
 have hls := (hbs.resolve_left (fun h => by cases h.1)).2.2.1
 clear hbs
 refine Z2 (sqt 1 rfl (pur 1 rfl (Z3 ?_)))
 skip
 refine Sy.heap (fun w h9 => St.inn0 h9) ?_
 refine Ze (ι := (x : {x : List Nat × List PL × Nat × Nat × KV // lls x.2.1 = x.1.map Z1W ∧ (∀ l ∈ x.1, l < 2 ^ h.gaps.length) ∧ Seg h.gaps (msk to_) spd.toNat (msk fr) 0 x.1 x.2.2.1 x.2.2.2.1 ∧ x.1.length ≤ x.2.2.1 ∧ (∃ k, Lst (Pl h.gaps (msk to_) spd.toNat x.2.2.1 x.2.2.2.1) k ∧ Lst (Pl h.gaps (msk to_) spd.toNat (msk fr) 0) (Z8e h.gaps x.1 + k)) ∧ Memo h.gaps (msk to_) spd.toNat x.2.2.2.2}) × OSl 27 1 (ZG x.1.2.1)) (fun y => ⟨[(4, .pointer (some ⟨b4, 0, none⟩)), (10, .pointer (some ⟨br, 0, none⟩)), (13, .pointer (some ⟨b13, 0, none⟩)), (14, y.2.fs)], y.2.G ++ ((mm, Z0K true y.1.1.2.2.2.2) :: (b13, cel 106 (plc y.1.1.2.2.1 y.1.1.2.2.2.1)) :: (b4, cel 26 (htl h (h.sg ag cg) (h.ss as_ cs))) :: H), Inn y.1.1.2.1 :: RowsA (some ⟨br, 0, none⟩) 4 [(rcD h ag as_ cg cs to_ spd bd br mm).row] :: RowsA (some ⟨bd, 0, none⟩) 4 [(dkA h ag as_ cg cs bd).row] :: R⟩) (fun y => 128 - y.1.1.2.2.1) ⟨⟨([], [], msk fr, 0, kv), rfl, (fun l hl => by cases hl), ⟨rfl, rfl⟩, Nat.zero_le _, ⟨n, hls, by show Lst _ (0 + n); rw [Nat.zero_add]; exact hls⟩, hme⟩, OSl.nil _ _⟩ ?_ (fun y => ?_)
 exact Zn (fun w h9 => St.sub h9)
 clear hme hls
 obtain ⟨⟨⟨ls, pl, m, c, kv⟩, hll, hlb, hseg, hlm, ⟨k, hk, hN⟩, hme⟩, o⟩ := y
 dsimp only at hll hlb hseg hlm hk hN hme o ⊢
 have hmc := hseg.lt hw7 hS7 (Nat.two_pow_pos _)
 have hm7 := hmc.1
 have hm128 : m < 128 := hm7
 have hc10 : c < 2 ^ 10 := Nat.lt_of_lt_of_le hmc.2 (Nat.pow_le_pow_right (by decide) hgl)
 have hpl : pl.length = ls.length := by have := congrArg List.length hll; rw [Z50, List.length_map] at this; exact this
 refine Z3 (sqt 5 rfl (pur 1 rfl (spL rfl rfl (lhA (plc m c) Z0v rfl rfl rfl) rfl ?_)))
 refine ZA mm ?_
 refine cl rfl Z8I rfl rfl (Z7F (rcD h ag as_ cg cs to_ spd bd br mm) (Z03 h ag as_ cg cs hb.ok bd) hK hsp 128 (m) (c) kv _ _ hm7 hc10 (by omega) hme) ?_
 rintro _ _ R1 ⟨n9, l, lost, kv2, rfl, hbs, hme2, rfl, hR1⟩
 obtain rfl := hR1.symm
 clear hR1
 obtain ⟨hlo, hn10, hlst, hcnd⟩ := hbs.resolve_left (fun h => h.2.2.2 k hk.1)
 obtain rfl := hlo
 have hnk := hlst.unique hk
 have hwk := hcnd.wk
 have hl10 : l < 2 ^ 10 := Nat.lt_of_lt_of_le hwk.1 (Nat.pow_le_pow_right (by decide) hgl)
 have hc210 := Z6R hc10 hl10
 refine alc rfl Z3e rfl (fun b15 => ?_)
 refine ZF (l' := svl n9 l false) rfl rfl rfl Z0m rfl rfl rfl rfl (nl rfl) ?_
 refine sqt 7 rfl (pur 1 rfl (sp rfl (PE.fA Z5o rfl) rfl (spL rfl rfl (lh sc3 rfl rfl) rfl ?_)))
 refine cl rfl ZbS rfl rfl (Z9G l hl10 _ _) ?_
 rintro _ _ _ ⟨o9, rfl, rfl, rfl⟩
 obtain ⟨ao, co, heo, hfz⟩ := o9.freeze
 rw [heo, irl]
 refine Sy.heap (fun w h => hfz h) ?_
 clear hfz heo
 refine bsl (out := [_]) rfl ZcL Z8h rfl rfl rfl rfl rfl rfl (fun b55 => ?_)
 refine apO (o) rfl Zek rfl rfl (Z0r (row := Z6h ⟨ao, co, Z1W l⟩) rfl) rfl rfl ((by rw [Z0n]; simp only [List.length_singleton]; omega)) rfl (fun o56 => ?_)
 refine pur 1 rfl (Z1 ?_)
 refine Zc [0, 0, 2, 0, 8, 0, 32, 120, 254, 511, 0, 1024, 0, 4096, 15360, 32767, 0, 131071] (.tk 0 (.tk 1 (.ld 2 (.tk 3 (.ld 4 (.tk 5 (.ld 6 (.tk 7 (.tk 8 (.tk 10 (.ld 11 (.tk 12 (.ld 13 (.tk 14 (.any (.alt 9 (.tk 15 (.big 16 (.big 17 .done))) (.alt 16 (.big 9 (.tk 15 (.big 17 .done))) .stop))))))))))))))))) Zw (by kernel_rfl) ?_
 refine Sy.heap (fun w h => St.innSnoc (l := pl) ⟨ao, co, Z1W l⟩ h) ?_
 refine Zr 1 rfl (tk rfl (PE.fA ZI rfl) rfl (ld rfl rfl (lh sc3 rfl rfl) rfl (tk rfl (PE.fA Z2c rfl) rfl (ld rfl rfl (lh sc3 rfl rfl) rfl (tk rfl (PE.fA Z5o rfl) rfl (ld rfl rfl (lh sc3 rfl rfl) rfl (tk rfl (PE.orN (m := c) (n := l) rfl rfl (Z9m hc10 (Nat.le_refl _)) (Z9m hl10 (Nat.le_refl _))) rfl (tk rfl (PE.build (out := [_, _]) Z52 Z2p rfl rfl) rfl (tk rfl (PE.fA Z2c rfl) rfl (ld rfl rfl (lh sc3 rfl rfl) rfl (tk rfl (PE.fA Z5o rfl) rfl (ld rfl rfl (lh sc3 rfl rfl) rfl (tk rfl (PE.orN (m := c) (n := l) rfl rfl (Z9m hc10 (Nat.le_refl _)) (Z9m hl10 (Nat.le_refl _))) rfl ?_)))))))))))))
 refine Z1e ?_ ?_
 refine clV rfl Z9c rfl rfl (Z2t (rcD h ag as_ cg cs to_ spd bd br mm) (Z03 h ag as_ cg cs hb.ok bd) m (c ||| l) hm7 hc210 _ _) ?_
 refine bg (fun w hs => ⟨(lh sc3 rfl rfl) w hs, (lh sc3 rfl rfl) w hs, trivial, trivial, trivial, trivial⟩) ?_
 refine tk rfl (PE.build (out := [_, _]) Z52 Z2p rfl rfl) rfl (alc rfl Z2p rfl (fun b16 => ?_))
 refine bg (fun w hs => ⟨(lh sc3 rfl rfl) w hs, (lh sc3 rfl rfl) w hs, trivial⟩) ?_
 refine ZF (l' := plc ((spr h.gaps (c ||| l) m)) ((c ||| l))) rfl rfl rfl Z5i rfl rfl rfl rfl (nl rfl) ?_
 refine bgT (Z1 (sqt 5 rfl (sp rfl (PE.fA ZI rfl) rfl (spL rfl rfl (lh sc3 rfl rfl) rfl (sp rfl (PE.fA ZI rfl) rfl (spL rfl rfl (lh sc3 rfl rfl) rfl (pur 1 rfl ?_)))))))
 refine Z0 rfl ?_ ?_ <;> intro hc3 <;> try simp only [cS] at hc3
 have he2 : (spr h.gaps (c ||| l) m) = m := by omega
 have hnl : n9 = cnt h.gaps.length l := by
   rcases hcnd.2.2.2 with ⟨_, h5⟩ | ⟨h5, _⟩
   · exact h5
   · exact absurd he2 h5
 obtain ⟨ac, cc, hfe, hcc9, hff⟩ := (o56.cast (Z1A pl ⟨ao, co, Z1W l⟩)).freezeC
 rw [Z0n] at hcc9 hfe
 rw [show o56.fs = _ from hfe]
 refine Sy.heap (fun w h => hff (St.pullG o56.G h)) ?_
 refine sqt 3 rfl (pur 3 rfl (Z5 ?_))
 exact rtB rfl rfl rfl rfl ⟨rfl, .inr (.inr ⟨hre, ls ++ [l], pl ++ [⟨ao, co, Z1W l⟩], ac, cc, by rw [Z48, hll, List.map_append]; rfl, by rw [List.length_append, List.length_singleton]; omega, hcc9, fun x hx => (List.mem_append.1 hx).elim (hlb x) (fun h => by rw [List.mem_singleton.1 h]; exact hwk.1), RunP.stop hseg hcnd he2, by rw [Z1r, ← hnl, hnk]; exact hN, rfl, rfl⟩)⟩ (fun w h9 => St.sub (((((h9.del b16).del b55).del b15).del mm).del b13 |>.del b4))
 have he2 : (spr h.gaps (c ||| l) m) ≠ m := by omega
 have hgr := Z2v he2
 obtain ⟨k2, hn2, hk2⟩ : ∃ k2, n9 = cnt h.gaps.length l + k2 ∧ Lst (Pl h.gaps (msk to_) spd.toNat (spr h.gaps (c ||| l) m) (c ||| l)) k2 := by
   rcases hcnd.2.2.2 with ⟨h5, _⟩ | ⟨_, k2, h6, h7⟩
   · exact absurd h5 he2
   · exact ⟨k2, h6, h7⟩
 refine Z2 (sqr 2 rfl (spL rfl rfl (lhA (plc (spr h.gaps (c ||| l) m) (c ||| l)) Z0v rfl rfl rfl) rfl ?_))
 refine ZF (l' := plc ((spr h.gaps (c ||| l) m)) ((c ||| l))) rfl rfl rfl Z5i rfl rfl rfl rfl (nl rfl) ?_
 exact Z7 ⟨⟨(ls ++ [l], pl ++ [⟨ao, co, Z1W l⟩], (spr h.gaps (c ||| l) m), (c ||| l), kv2), by rw [Z48, hll, List.map_append]; rfl, fun x hx => (List.mem_append.1 hx).elim (hlb x) (fun h => by rw [List.mem_singleton.1 h]; exact hwk.1), hseg.snoc hwk, by dsimp only; rw [List.length_append, List.length_singleton]; omega, ⟨k2, hk2, by dsimp only; rw [Z1r, Nat.add_assoc, ← hn2, hnk]; exact hN⟩, hme2⟩, o56.cast (Z1A pl ⟨ao, co, Z1W l⟩)⟩ (fun w h => St.sub ((((h.del b16).del b55).del b15).perm (Zj [_] o56.G _)))
 refine Z1e ?_ ?_
 refine alc rfl Z2p rfl (fun b16 => ?_)
 refine bg (fun w hs => ⟨(lh sc3 rfl rfl) w hs, (lh sc3 rfl rfl) w hs, (lh sc3 rfl rfl) w hs, (lh sc3 rfl rfl) w hs, (lh sc3 rfl rfl) w hs, trivial⟩) ?_
 refine clV rfl Z9c rfl rfl (Z2t (rcD h ag as_ cg cs to_ spd bd br mm) (Z03 h ag as_ cg cs hb.ok bd) m (c ||| l) hm7 hc210 _ _) ?_
 refine bg (fun w hs => ⟨(lh sc3 rfl rfl) w hs, (lh sc3 rfl rfl) w hs, trivial, trivial, trivial, trivial⟩) ?_
 refine tk rfl (PE.build (out := [_, _]) Z52 Z2p rfl rfl) rfl ?_
 refine ZF (l' := plc ((spr h.gaps (c ||| l) m)) ((c ||| l))) rfl rfl rfl Z5i rfl rfl rfl rfl (nl rfl) ?_
 refine bgT (Z1 (sqt 5 rfl (sp rfl (PE.fA ZI rfl) rfl (spL rfl rfl (lh sc3 rfl rfl) rfl (sp rfl (PE.fA ZI rfl) rfl (spL rfl rfl (lh sc3 rfl rfl) rfl (pur 1 rfl ?_)))))))
 refine Z0 rfl ?_ ?_ <;> intro hc3 <;> try simp only [cS] at hc3
 have he2 : (spr h.gaps (c ||| l) m) = m := by omega
 have hnl : n9 = cnt h.gaps.length l := by
   rcases hcnd.2.2.2 with ⟨_, h5⟩ | ⟨h5, _⟩
   · exact h5
   · exact absurd he2 h5
 obtain ⟨ac, cc, hfe, hcc9, hff⟩ := (o56.cast (Z1A pl ⟨ao, co, Z1W l⟩)).freezeC
 rw [Z0n] at hcc9 hfe
 rw [show o56.fs = _ from hfe]
 refine Sy.heap (fun w h => hff (St.pullG o56.G h)) ?_
 refine sqt 3 rfl (pur 3 rfl (Z5 ?_))
 exact rtB rfl rfl rfl rfl ⟨rfl, .inr (.inr ⟨hre, ls ++ [l], pl ++ [⟨ao, co, Z1W l⟩], ac, cc, by rw [Z48, hll, List.map_append]; rfl, by rw [List.length_append, List.length_singleton]; omega, hcc9, fun x hx => (List.mem_append.1 hx).elim (hlb x) (fun h => by rw [List.mem_singleton.1 h]; exact hwk.1), RunP.stop hseg hcnd he2, by rw [Z1r, ← hnl, hnk]; exact hN, rfl, rfl⟩)⟩ (fun w h9 => St.sub (((((h9.del b16).del b55).del b15).del mm).del b13 |>.del b4))
 have he2 : (spr h.gaps (c ||| l) m) ≠ m := by omega
 have hgr := Z2v he2
 obtain ⟨k2, hn2, hk2⟩ : ∃ k2, n9 = cnt h.gaps.length l + k2 ∧ Lst (Pl h.gaps (msk to_) spd.toNat (spr h.gaps (c ||| l) m) (c ||| l)) k2 := by
   rcases hcnd.2.2.2 with ⟨h5, _⟩ | ⟨_, k2, h6, h7⟩
   · exact absurd h5 he2
   · exact ⟨k2, h6, h7⟩
 refine Z2 (sqr 2 rfl (spL rfl rfl (lhA (plc (spr h.gaps (c ||| l) m) (c ||| l)) Z0v rfl rfl rfl) rfl ?_))
 refine ZF (l' := plc ((spr h.gaps (c ||| l) m)) ((c ||| l))) rfl rfl rfl Z5i rfl rfl rfl rfl (nl rfl) ?_
 exact Z7 ⟨⟨(ls ++ [l], pl ++ [⟨ao, co, Z1W l⟩], (spr h.gaps (c ||| l) m), (c ||| l), kv2), by rw [Z48, hll, List.map_append]; rfl, fun x hx => (List.mem_append.1 hx).elim (hlb x) (fun h => by rw [List.mem_singleton.1 h]; exact hwk.1), hseg.snoc hwk, by dsimp only; rw [List.length_append, List.length_singleton]; omega, ⟨k2, hk2, by dsimp only; rw [Z1r, Nat.add_assoc, ← hn2, hnk]; exact hN⟩, hme2⟩, o56.cast (Z1A pl ⟨ao, co, Z1W l⟩)⟩ (fun w h => St.sub ((((h.del b16).del b55).del b15).perm (Zj [_] o56.G _)))
 exact Z26
theorem Zbz : cal Try.prog 24 = true := by kernel_rfl
def Zel (h : Hse) (fr to_ : List Int) (H : Z8) (R : Z6) : Value → Z8 → Z6 → Prop := fun v H' R' => H' = H ∧ R' = R ∧ ((h.botE fr to_ ≠ 0 ∧ v = .tuple #[.int .i64 0, .int .i64 (h.botE fr to_)]) ∨
  (h.botE fr to_ = 0 ∧ ∃ s : Nat, s ≤ 10 ∧ (∃ n, Pl h.gaps (msk to_) s (msk fr) 0 n) ∧ (∀ s', s' < s → ∀ n, ¬ Pl h.gaps (msk to_) s' (msk fr) 0 n) ∧ v = .tuple #[.int .i64 (s : Int), .int .i64 0]))
theorem ZaI {h : Hse} {fr to_ : List Int} {s : Nat} (hb : h.botE fr to_ = 0) (hs : s ≤ 10) : h.rcE fr to_ (s : Int) = 0 := by
  have : inB (s : Int) 0 10 = true := by simp [inB]; omega
  unfold Hse.rcE; rw [hb, this]; rfl
theorem Z81 {h : Hse} {fr to_ : List Int} (hb : h.Bot fr to_) : Two h.gaps (msk fr) (msk to_) := by
  obtain ⟨q1, q2, q3, q4, q5, q6⟩ := Z1i hb
  have hok := hb.ok
  exact ⟨fun g hg => by have := hok.gaps g hg; have := hok.bins; omega, fun i g hg => by have := hok.gaps g (List.mem_of_getElem? hg); omega, Z0w fun x hx => q1 x hx, Z0w fun x hx => q2 x hx, fun v hv => by
    cases hk : (msk to_).testBit v with
    | false => rfl
    | true => exact absurd ((Zs (fun k hk => (q2 k hk).1) v).1 hk) (hb.no _ ((Zs (fun k hk => (q1 k hk).1) v).1 hv))⟩
theorem Z97 {h : Hse} {fr to_ : List Int} (hb : h.Bot fr to_) : ∃ n, Pl h.gaps (msk to_) 10 (msk fr) 0 n := by
  have ht := Z81 hb
  have hp := Nat.two_pow_pos h.gaps.length
  exact ⟨_, Pl.once ht.w ht.s (show 2 ^ h.gaps.length - 1 < 2 ^ h.gaps.length by omega) (Z8v ht) (Nat.le_trans (Z3s _ _) hb.ok.gl)⟩
set_option maxHeartbeats 400000 in
theorem Zam (h : Hse) (ag as_ : Option Addr) (cg cs : Nat) (hlg : h.gaps.length ≤ 9223372036854775807) (hls : h.sights.length ≤ 9223372036854775807) (fr to_ : List Int) (af at_ : Option Addr) (cf ct : Nat) (hlf : fr.length ≤ 1000000) (hlt : to_.length ≤ 1000000) (hfc : fr.length ≤ cf) (htc : to_.length ≤ ct) (H : Z8) (R : Z6) [hG : MemRows ag 2 (Zi h.gaps) R] [hS : MemRows as_ 3 (Zh h.sights) R] [hF : MemRows af 1 (Z4 fr) R] [hT : MemRows at_ 1 (Z4 to_) R] :
    Fn Try.prog 22 [h.v (h.sg ag cg) (h.ss as_ cs), .slice af fr.length cf, .slice at_ to_.length ct] H R (Zel h fr to_ H R) := by
 refine Zg Try.func22 rfl Try.ntmps22 rfl ?_
 refine sqt 3 rfl (bx rfl rfl rfl (fun b3 => pur 2 rfl (Z1 (sqt 5 rfl (spL rfl rfl (lhA (htl h (h.sg ag cg) (h.ss as_ cs)) Z0g rfl rfl rfl) rfl (pur 2 rfl ?_))))))
 refine clV rfl Z91 rfl rfl (Z6a h ag as_ cg cs hlg hls fr to_ af at_ cf ct (by omega) (by omega) hfc htc _ _) ?_
 refine pur 1 rfl (sqt 2 rfl (pur 2 rfl ?_))
 refine Z0 rfl ?_ ?_ <;> intro hc0
 have hbe : h.botE fr to_ ≠ 0 := of_decide_eq_true hc0
 refine sqt 3 rfl (pur 3 rfl (Z5 ?_))
 exact rtB rfl rfl rfl rfl ⟨rfl, rfl, .inl ⟨hbe, rfl⟩⟩ (fun w h9 => h9.del b3)
 ·
  have hbe : h.botE fr to_ = 0 := Classical.byContradiction fun e => by rw [decide_eq_true e] at hc0; cases hc0
  have hb := Z3G hbe
  obtain ⟨n0, hn0⟩ := Z97 hb
  refine Z2 (sqt 1 rfl (pur 1 rfl (Z3 ?_)))
  refine Ze (ι := {s : Nat // s ≤ 10 ∧ ∀ s', s' < s → ∀ n, ¬ Pl h.gaps (msk to_) s' (msk fr) 0 n}) (fun s => ⟨[(1, .slice af fr.length cf), (2, .slice at_ to_.length ct), (3, .pointer (some ⟨b3, 0, none⟩)), (9, .int .i64 (s.1 : Int))], (b3, cel 26 (htl h (h.sg ag cg) (h.ss as_ cs))) :: H, R⟩) (fun s => 11 - s.1) ⟨0, by omega, fun s' h9 => absurd h9 (Nat.not_lt_zero _)⟩ ?_ (fun s => ?_)
  exact Zn idH
  ·
   obtain ⟨s, hs, hno⟩ := s
   dsimp only at hs hno ⊢
   have hrz := ZaI hbe hs
   refine Z1 (Z3 (sqt 10 rfl (spL rfl rfl (lhA (htl h (h.sg ag cg) (h.ss as_ cs)) Z0g rfl rfl rfl) rfl (pur 3 rfl ?_))))
   refine cl rfl Zbz rfl rfl (Z9o h ag as_ cg cs hlg hls fr to_ af at_ cf ct hlf hlt hfc htc (s : Int) _ _) ?_
   rintro _ _ R1 ⟨rfl, hq⟩
   rcases hq with ⟨h9, _⟩ | ⟨_, hnp, rfl, hR1⟩ | ⟨_, ls, pl, a, c, _, _, _, _, _, hls2, rfl, hR1⟩
   · exact absurd hrz h9
   all_goals obtain rfl := hR1.symm
   all_goals clear hR1
   all_goals rw [Int.toNat_natCast] at *
   refine pur 5 rfl (sqt 2 rfl (pur 2 rfl ?_))
   refine Z0 rfl ?_ ?_ <;> intro hc1
   exact absurd hc1 (by decide)
   have hs10 : s ≠ 10 := fun e => hnp n0 (by rw [e]; exact hn0)
   refine Z2 (sqr 3 rfl (pur 1 rfl (sp rfl (PE.add rfl rfl (by omega)) rfl (pur 1 rfl ?_))))
   exact Z7 ⟨s + 1, by omega, fun s' h9 => (Nat.lt_succ_iff_lt_or_eq.1 h9).elim (hno s') (fun e => by subst e; exact hnp)⟩ idH
   refine pur 5 rfl (sqt 2 rfl (pur 2 rfl ?_))
   refine Z0 rfl ?_ ?_ <;> intro hc1
   refine sqt 3 rfl (pur 3 rfl (Z5 ?_))
   exact rtB rfl rfl rfl rfl ⟨rfl, rfl, .inr ⟨hbe, s, hs, ⟨_, hls2.1⟩, hno, rfl⟩⟩ (fun w h9 => St.sub (h9.del b3))
   exact absurd hc1 (by decide)
theorem ZdS : cal Try.prog 98 = true := by kernel_rfl
theorem ik3 : Z9e Try.prog 3 = some .i64 := by kernel_rfl
section steps
variable {P : Program} {r : Option Nat} {ops : Array Oper} {n : Nat} {L : Zk} {D : List Deferred} {H : Z8} {R : Z6} {K : Act → World → Prop}
  {i d : Nat} {ty : TypeId} {pos : String} {af : Array Edge}
theorem ZeC {t tn e sz by_ k : Nat} {kq kn : IntKind} {s x : Operand} {zl : List Value} (ho : ops[i]? = some ⟨some d, .call { callee := .builtin .append, args := #[s, x], argTypes := #[t, tn] }, ty, pos, af, none⟩)
    (ht : apT P t = some (e, sz, by_)) (htn : Z9e P tn = some kn) (hz : ZM P e = some zl) (hs : ev L s = some (.slice none 0 0)) (hx : ev L x = some (.int kq k))
    (hk : 0 < k) (hs0 : 0 < sz) (hb : k * by_ ≤ 140737488355328 ∧ k ≤ 9223372036854775807) (hd : Nat.blt d n = true)
    (h : ∀ (b' cap' : Nat) (junk : List Value), k ≤ cap' → cap' ≤ 9223372036854775807 → k * sz + junk.length = cap' * sz → Sy n ((d, .slice (some ⟨b', 0, none⟩) k cap') :: L) D ((b', cel e (Z0I k zl ++ junk)) :: H) R K) : Sy n L D H R (stp P r ops i K) := fun a w ha hD hw => by
  unfold apT at ht
  split at ht
  case h_2 => cases ht
  rename_i e' hu
  split at ht
  case h_2 => cases ht
  rename_i ie hi
  split at ht
  case h_2 => cases ht
  rename_i z hzz
  cases hzs : Nat.beq z.cells.size ie.size with
  | false => rw [hzs] at ht; cases ht
  | true =>
  rw [hzs, cond_true] at ht
  cases ht
  have hzs := Nat.eq_of_beq_eq_true hzs
  have hzl : z.cells.toList = zl := by
    have : ZM P e = some z.cells.toList := by simp [ZM, hi, hzz]
    rw [this] at hz; exact Option.some.inj hz
  have hun : P.underlying tn = some (.int kn) := by
    unfold Z9e at htn
    split at htn
    · rename_i q hq; cases htn; exact hq
    · cases htn
  have hold : (Builtin.firstCells ie.size 0 (.slice none 0 0)).run P w.drew = .ok ([] : List Value).toArray w.drew := by
    simp [Builtin.firstCells, Sem.run_pure]
  have h2 := Lib.run_append_grow_zeros (P := P) w t tn ty e ie z kq kn hu hun hi hzz none 0 0 [] hold k hk hs0 (by omega) (by omega) (by omega) (growslice_fits (by omega) (by rw [Nat.zero_add]; exact hb.1))
  rw [Nat.zero_add] at h2
  have hge := grownCap_ge w k 0 e
  have hcm : grownCap w k 0 e ≤ maxLen := grownCap_le_maxLen w _ 0 e (by simp only [maxLen]; omega)
  have hrep : ∀ q, (Builtin.zeroCells z.cells q).toList = Z0I q zl := fun q => by rw [← hzl]; simp [Builtin.zeroCells, Z0I]
  have e1 : (.cells (([] : List Value).toArray ++ Builtin.zeroCells z.cells k ++ Builtin.zeroCells z.cells (grownCap w k 0 e - k)) e : Obj) = cel e (Z0I k zl ++ (Builtin.zeroCells z.cells (grownCap w k 0 e - k)).toList) := by
    unfold cel; congr 1; apply Array.toList_inj.1; simp [hrep]
  refine Zt ho (Zd _ rfl _) (v := .slice (some ⟨w.heap.size, 0, none⟩) k (grownCap w k 0 e)) (w' := w.drew.alloc (cel e (Z0I k zl ++ (Builtin.zeroCells z.cells (grownCap w k 0 e - k)).toList))) ?_
    (h w.heap.size (grownCap w k 0 e) (Builtin.zeroCells z.cells (grownCap w k 0 e - k)).toList hge (by simp only [maxLen] at hcm; omega) ?_ _ _ (ha.put (by simpa using hd) _) hD (hw.drew.alloc _))
  · simp only [execOp, resolve, invoke, builtin, Sem.run_bind, Sem.run_pure, Result.andThen, List.map_toArray, List.map_cons, List.map_nil, ha.reads _ _ hs, ha.reads _ _ hx]
    rw [e1] at h2
    rw [h2]
  · simp only [Array.length_toList, size_zeroCells, hzs, ← Nat.add_mul]
    congr 1; omega
end steps
theorem Z4E {k : Nat} {v : Value} : (Z0I k [v]).length = k := by simp [Z0I]
def Z3J (pl : List PL) (k : Nat) : List Int := (lls (pl.take k)).flatten
theorem Z2H {pl : List PL} {k : Nat} {x : PL} (h : pl[k]? = some x) : Z3J pl (k + 1) = Z3J pl k ++ x.l := by
  unfold Z3J lls
  rw [List.take_add_one, h, Option.toList_some, List.map_append, List.flatten_append]; simp
theorem Z24 (pl : List PL) : ∀ k, (Z3J pl k).length ≤ (lls pl).flatten.length := fun k => by
  unfold Z3J lls
  have h : pl.map (·.l) = (pl.take k).map (·.l) ++ (pl.drop k).map (·.l) := by rw [← List.map_append, List.take_append_drop]
  rw [h, List.flatten_append, List.length_append]; omega
theorem Zaf (k : Nat) (hk : k ≤ 1000000) (H : Z8) (R : Z6) :
    Fn Try.prog 98 [.slice none 0 0, .int .i64 (k : Int)] H R (fun v H' R' => ∃ o : OSl 3 1 [], v = o.fs ∧ H' = o.G ++ H ∧ R' = R) := by
 refine Zg Try.func98 rfl Try.ntmps98 rfl ?_
 refine sqt 1 rfl (pur 1 rfl (Z1 (sqt 2 rfl (pur 2 rfl ?_))))
 refine Z0 rfl ?_ ?_ <;> intro hc0
 simp only [decide_eq_true_eq] at hc0
 omega
 refine Z2 (Z1 (sqt 8 rfl (pur 2 rfl (sp rfl (PE.capSl ZC rfl) rfl (pur 1 rfl (sp rfl (PE.lenSl ZC rfl) rfl (sp rfl (PE.sub rfl rfl (by omega)) rfl (sp rfl (PE.sub rfl rfl (by omega)) rfl ?_))))))))
 rw [show (k : Int) - (((0 : Nat) : Int) - ((0 : Nat) : Int)) = (k : Int) by omega]
 refine pur 1 rfl (sqt 2 rfl (pur 2 rfl ?_))
 refine Z0 rfl ?_ ?_ <;> intro hc1
 try simp only [cS] at hc1
 refine sqr 10 rfl (pur 2 rfl (sp rfl (PE.capSl ZC rfl) rfl (sp rfl (PE.slHi (h := 0) Z0E rfl rfl (by omega)) rfl (pur 1 rfl ?_))))
 refine ZeC rfl Z3l ik3 zl3 rfl rfl (by omega) (by omega) (by omega) rfl (fun b2 cap2 jk2 hc1 hc2 hc3 => ?_)
 refine pur 1 rfl (sp rfl (PE.lenSl ZC rfl) rfl (sp rfl (PE.slHi (h := 0) Z0E rfl rfl (by omega)) rfl (pur 1 rfl (sqt 2 rfl (pur 2 rfl (Z5 ?_))))))
 exact rtA rfl rfl rfl ⟨⟨.slice (some ⟨b2, 0, none⟩) 0 cap2, [(b2, cel 3 (Z0I k [.int .i64 0] ++ jk2))], by simp, .inr ⟨b2, cap2, Z0I k [.int .i64 0] ++ jk2, rfl, rfl, by rw [List.length_append, Z4E]; simp only [List.length_nil]; omega, Nat.zero_le _, hc2⟩⟩, rfl, rfl, rfl⟩ idH
 refine Z2 (sqt 2 rfl (pur 2 rfl (Z5 ?_)))
 exact rtA rfl rfl rfl ⟨OSl.nil _ _, rfl, rfl, rfl⟩ idH
set_option maxHeartbeats 400000 in
theorem Z2z (pl : List PL) (ap : Option Addr) (cp : Nat) (hpl : pl.length ≤ 1000000) (htl : (lls pl).flatten.length ≤ 1000000) (H : Z8) (R : Z6) [hP : MemRows ap 1 (ZG pl) R] [hI : MemF (Inn pl) R] :
    Fn Try.prog 66 [.slice ap pl.length cp] H R (fun v H' R' => ∃ o : OSl 3 1 (Z4 (lls pl).flatten), v = o.fs ∧ H' = o.G ++ H ∧ R' = R) := by
 refine Zg Try.func66 rfl Try.ntmps66 rfl ?_
 refine sqt 1 rfl (pur 1 rfl (sqt 1 rfl (pur 1 rfl (Z1 (sqt 3 rfl (pur 1 rfl (sp rfl (PE.lenSl Z6C rfl) rfl (pur 1 rfl (Z3 ?_)))))))))
 refine Ze (ι := {k : Nat // k ≤ pl.length}) (fun k => ⟨[(0, .slice ap pl.length cp), (3, .int .i64 ((Z3J pl k.1).length : Nat)), (9, .slice ap pl.length cp), (10, .int .i64 pl.length), (11, .int .i64 k.1)], H, R⟩) (fun k => pl.length - k.1) ⟨0, Nat.zero_le _⟩ ?_ (fun k => ?_)
 exact Zn idH
 obtain ⟨k, hk⟩ := k
 dsimp only at hk ⊢
 have hcl := Z24 pl k
 have hcl2 := Z24 pl (k + 1)
 refine sqt 1 rfl (pur 1 rfl (Z1 ?_))
 refine Z0 rfl ?_ ?_ <;> intro hc0 <;> try simp only [cS] at hc0
 obtain ⟨x, hx⟩ : ∃ x, pl[k]? = some x := ⟨_, List.getElem?_eq_getElem (by omega)⟩
 have hst := congrArg List.length (Z2H hx)
 rw [List.length_append] at hst
 refine Zm (a := ap) (sz := 1) (rows := ZG pl) (ne0 (by rw [Z0n]; omega)) (fun ba oa he => ?_)
 subst he
 refine Z2 (Z1 (Z3 (sqt 3 rfl (sp rfl (PE.indexAddr Zc8 rfl rfl (by omega) (by omega)) rfl (spL rfl rfl (lf0 Z2j (Z6M hx) rfl) rfl (pur 1 rfl (sqt 5 rfl (pur 2 rfl (sp rfl (PE.lenSl ZC rfl) rfl (sp rfl (PE.add rfl rfl (by omega)) rfl ?_))))))))))
 rw [show ((Z3J pl k).length : Int) + (x.l.length : Int) = ((Z3J pl (k + 1)).length : Int) by omega]
 refine pur 1 rfl (sqt 2 rfl (pur 2 rfl ?_))
 refine Z0 rfl ?_ ?_ <;> intro hc1
 simp only [decide_eq_true_eq] at hc1
 omega
 refine Z2 (sqr 2 rfl (sp rfl (PE.add rfl rfl (by omega)) rfl (pur 1 rfl ?_)))
 exact Z7 ⟨k + 1, by omega⟩ idH
 obtain rfl : k = pl.length := by omega
 refine Z9 (Za (Za (Zo (sqt 3 rfl (pur 1 rfl ?_)))))
 refine cl rfl ZdS rfl rfl (Zaf (Z3J pl pl.length).length (by omega) _ _) ?_
 rintro _ _ R1 ⟨o0, rfl, rfl, hR1⟩
 obtain rfl := hR1.symm
 clear hR1
 refine pur 1 rfl (Z1 (sqt 3 rfl (pur 1 rfl (sp rfl (PE.lenSl Z6C rfl) rfl (pur 1 rfl (Z3 ?_))))))
 refine Ze (ι := (k : {k : Nat // k ≤ pl.length}) × OSl 3 1 (Z4 (Z3J pl k.1))) (fun y => ⟨[(6, y.2.fs), (25, .slice ap pl.length cp), (26, .int .i64 pl.length), (27, .int .i64 y.1.1)], y.2.G ++ H, R⟩) (fun y => pl.length - y.1.1) ⟨⟨0, Nat.zero_le _⟩, o0⟩ ?_ (fun y => ?_)
 exact Zn idH
 obtain ⟨⟨k, hk⟩, o⟩ := y
 dsimp only at hk o ⊢
 have hcl := Z24 pl k
 have hcl2 := Z24 pl (k + 1)
 refine sqt 1 rfl (pur 1 rfl (Z1 ?_))
 refine Z0 rfl ?_ ?_ <;> intro hc2 <;> try simp only [cS] at hc2
 obtain ⟨x, hx⟩ : ∃ x, pl[k]? = some x := ⟨_, List.getElem?_eq_getElem (by omega)⟩
 have hst := Z2H hx
 have hsl := congrArg List.length hst
 rw [List.length_append] at hsl
 refine Zm (a := ap) (sz := 1) (rows := ZG pl) (ne0 (by rw [Z0n]; omega)) (fun ba oa he => ?_)
 subst he
 refine Sy.heap (fun w h => St.inn (x := x) h (List.mem_of_getElem? hx)) ?_
 refine Z2 (Z1 (Z3 (sqt 3 rfl (sp rfl (PE.indexAddr Zc8 rfl rfl (by omega) (by omega)) rfl (spL rfl rfl (lf0 Z2j (Z6M hx) rfl) rfl (pur 1 rfl (sqr 4 rfl (pur 2 rfl ?_))))))))
 refine apO (news := Z4 x.l) o rfl Z3l rfl rfl (Z8s) (irl _) (by simp [Z0b, Z4, Value.oneCell']) (by rw [irl, irl]; omega) rfl (fun o33 => ?_)
 refine pur 1 rfl (sqr 2 rfl (sp rfl (PE.add rfl rfl (by omega)) rfl (pur 1 rfl ?_)))
 exact Z7 ⟨⟨k + 1, by omega⟩, o33.cast (by rw [hst]; simp [Z4])⟩ (fun w h => h.ftail)
 obtain rfl : k = pl.length := by omega
 refine Z9 (Za (Za (Zo (sqt 2 rfl (pur 2 rfl (Z5 ?_))))))
 exact rtA rfl rfl rfl ⟨o.cast (by unfold Z3J; rw [List.take_length]), rfl, rfl, rfl⟩ idH
theorem Z8w : cal Try.prog 66 = true := by kernel_rfl
def Zez (h : Hse) (fr to_ : List Int) (spd : Int) (H : Z8) (R : Z6) : Value → Z8 → Z6 → Prop := fun v H' R' => H' = H ∧ R' = R ∧ ((h.rcE fr to_ spd ≠ 0 ∧ v = .tuple #[.int .i64 0, .int .i64 (h.rcE fr to_ spd)]) ∨
  (h.rcE fr to_ spd = 0 ∧ (∀ n, ¬ Pl h.gaps (msk to_) spd.toNat (msk fr) 0 n) ∧ v = .tuple #[.int .i64 0, .int .i64 6]) ∨
  (h.rcE fr to_ spd = 0 ∧ ∃ n : Nat, n ≤ 10 ∧ Lst (Pl h.gaps (msk to_) spd.toNat (msk fr) 0) n ∧ v = .tuple #[.int .i64 (n : Int), .int .i64 0]))
theorem Z5L {gs : List Gp} (hg : gs.length ≤ 10) : ∀ {ls : List Nat}, (∀ l ∈ ls, l < 2 ^ gs.length) → ((ls.map Z1W).flatten).length = Z8e gs ls
  | [], _ => rfl
  | l :: ls, h => by
    rw [List.map_cons, List.flatten_cons, List.length_append, Z5L hg (fun x hx => h x (List.mem_cons_of_mem _ hx)), Z67 (h l (by simp)) hg]; rfl
theorem St.norows9 {sz : Nat} {H : Z8} {R : Z6} {w : World} (h : St H R w) : St H (Inn [] :: RowsA none sz (ZG []) :: R) w := St.inn0 (St.norows (sz := sz) h)
set_option maxHeartbeats 400000 in
theorem Z8C (h : Hse) (ag as_ : Option Addr) (cg cs : Nat) (hlg : h.gaps.length ≤ 9223372036854775807) (hls : h.sights.length ≤ 9223372036854775807) (fr to_ : List Int) (af at_ : Option Addr) (cf ct : Nat) (hlf : fr.length ≤ 1000000) (hlt : to_.length ≤ 1000000) (hfc : fr.length ≤ cf) (htc : to_.length ≤ ct) (spd : Int) (H : Z8) (R : Z6) [hG : MemRows ag 2 (Zi h.gaps) R] [hS : MemRows as_ 3 (Zh h.sights) R] [hF : MemRows af 1 (Z4 fr) R] [hT : MemRows at_ 1 (Z4 to_) R] :
    Fn Try.prog 25 [h.v (h.sg ag cg) (h.ss as_ cs), .slice af fr.length cf, .slice at_ to_.length ct, .int .i64 spd] H R (Zez h fr to_ spd H R) := by
 refine Zg Try.func25 rfl Try.ntmps25 rfl ?_
 refine sqt 3 rfl (bx rfl rfl rfl (fun b4 => pur 2 rfl (sqt 10 rfl (spL rfl rfl (lhA (htl h (h.sg ag cg) (h.ss as_ cs)) Z0g rfl rfl rfl) rfl (pur 3 rfl ?_)))))
 refine cl rfl Zbz rfl rfl (Z9o h ag as_ cg cs hlg hls fr to_ af at_ cf ct hlf hlt hfc htc spd _ _) ?_
 rintro _ _ R1 ⟨rfl, hq⟩
 rcases hq with ⟨h9, rfl, hR1⟩ | ⟨h9, hnp, rfl, hR1⟩ | ⟨h9, ls, pl, a, c, hll, hpk, hpc, hlb, hrun, hlst, rfl, hR1⟩
 all_goals obtain rfl := hR1.symm
 all_goals clear hR1
 refine pur 5 rfl (sqt 6 rfl ?_)
 refine Sy.heap (fun w h => St.norows9 (sz := 1) h) ?_
 refine pur 1 rfl ?_
 refine cl rfl Z8w rfl rfl (Z2z [] none 0 (by decide) (by decide) _ _) ?_
 rintro _ _ R1 ⟨o, rfl, rfl, hR1⟩
 obtain rfl := hR1.symm
 clear hR1
 obtain ⟨ao, co, heo, hfz⟩ := o.freeze
 rw [heo, irl]
 refine Sy.heap (fun w h => hfz h) ?_
 clear hfz heo
 refine sp rfl (PE.lenSl ZC rfl) rfl (pur 3 rfl (Z5 ?_))
 exact rtB rfl rfl rfl rfl ⟨rfl, rfl, .inl ⟨h9, rfl⟩⟩ (fun w h9 => St.sub (h9.del b4))
 refine pur 5 rfl (sqt 6 rfl ?_)
 refine Sy.heap (fun w h => St.norows9 (sz := 1) h) ?_
 refine pur 1 rfl ?_
 refine cl rfl Z8w rfl rfl (Z2z [] none 0 (by decide) (by decide) _ _) ?_
 rintro _ _ R1 ⟨o, rfl, rfl, hR1⟩
 obtain rfl := hR1.symm
 clear hR1
 obtain ⟨ao, co, heo, hfz⟩ := o.freeze
 rw [heo, irl]
 refine Sy.heap (fun w h => hfz h) ?_
 clear hfz heo
 refine sp rfl (PE.lenSl ZC rfl) rfl (pur 3 rfl (Z5 ?_))
 exact rtB rfl rfl rfl rfl ⟨rfl, rfl, .inr (.inl ⟨h9, hnp, rfl⟩)⟩ (fun w h9 => St.sub (h9.del b4))
 refine pur 5 rfl (sqt 6 rfl ?_)
 have hgl := (Zbw h9).1.ok.gl
 have hlen : (lls pl).flatten.length = Z8e h.gaps ls := by rw [hll]; exact Z5L hgl hlb
 have hs10 := hlst.1.few
 have hpl : pl.length = ls.length := by have := congrArg List.length hll; rw [Z50, List.length_map] at this; exact this
 refine pur 1 rfl ?_
 refine cl rfl Z8w rfl rfl (Z2z pl a c (by omega) (by omega) _ _) ?_
 rintro _ _ R1 ⟨o, rfl, rfl, hR1⟩
 obtain rfl := hR1.symm
 clear hR1
 obtain ⟨ao, co, heo, hfz⟩ := o.freeze
 rw [heo, irl, hlen]
 refine Sy.heap (fun w h => hfz h) ?_
 clear hfz heo
 refine sp rfl (PE.lenSl ZC rfl) rfl (pur 3 rfl (Z5 ?_))
 exact rtB rfl rfl rfl rfl ⟨rfl, rfl, .inr (.inr ⟨h9, Z8e h.gaps ls, by omega, hlst, rfl⟩)⟩ (fun w h9 => St.sub (h9.del b4))
theorem ZcE : cal Try.prog 107 = true := by kernel_rfl
theorem Zci : cal Try.prog 108 = true := by kernel_rfl
theorem Zcn : cal Try.prog 116 = true := by kernel_rfl
theorem Zd1 : cal Try.prog 55 = true := by kernel_rfl
theorem Zdf : cal Try.prog 88 = true := by kernel_rfl
theorem Zd7 : cal Try.prog 89 = true := by kernel_rfl
theorem Zdo : cal Try.prog 90 = true := by kernel_rfl
def Hse.ledE (h : Hse) (fr to_ : List Int) (ls : List (List Int)) : Int := bif decide (h.botE fr to_ ≠ 0) then h.botE fr to_ else bif decide (ZT h.gaps.length ls.flatten ≠ 0) then ZT h.gaps.length ls.flatten else bif !(ls.all fun l => Z8c h.gaps 0 fr to_ l) then 8 else 0
def Hse.ledR (h : Hse) (fr to_ : List Int) (ls : List (List Int)) : Int := bif decide (h.ledE fr to_ ls = 0) then ls.length else 0
theorem Z7s (pl : List PL) (p : List Int → Bool) : (pl.all fun x => p x.l) = (lls pl).all p := by unfold lls; rw [List.all_map]; rfl
theorem Z4T {h : Hse} {fr to_ : List Int} {ls : List (List Int)} {e : Int} (he : h.ledE fr to_ ls = e) (h0 : e ≠ 0) : h.ledR fr to_ ls = 0 := by unfold Hse.ledR; rw [he, decide_eq_false h0]; rfl
theorem Z7V (xs : List PL) (a : Option Addr) (c g : Nat) (fst cap : List Value) (p : PL → Bool) (hg : cal Try.prog g = true) (hl : xs.length ≤ 9223372036854775807) (H : Z8) (R : Z6) [hR : MemRows a 1 (ZG xs) R] (hp : ∀ x, x ∈ xs → FnV Try.prog g (fst ++ [.slice x.a x.l.length x.c] ++ cap) H R (.bool (p x))) :
    FnV Try.prog 116 [.slice a xs.length c, .func (.func g) fst.toArray cap.toArray] H R (.int .i64 (match xs.findIdx? p with | some k => (k : Int) | none => -1)) := by
 refine Zg Try.func116 rfl Try.ntmps116 rfl ?_
 refine sqt 1 rfl (pur 1 rfl (Z1 (sqt 3 rfl (pur 1 rfl (sp rfl (PE.lenSl Z6C rfl) rfl (pur 1 rfl (Z3 ?_)))))))
 refine Ze (ι := {k : Nat // k ≤ xs.length ∧ ∀ x ∈ xs.take k, p x = false}) (fun k => ⟨[(0, .slice a xs.length c), (1, .func (.func g) fst.toArray cap.toArray), (7, .int .i64 xs.length), (8, .int .i64 k.1)], H, R⟩) (fun k => xs.length - k.1) ⟨0, by simp⟩ ?_ (fun k => ?_)
 exact Zn idH
 obtain ⟨k, hk, hn⟩ := k
 dsimp only
 refine sqt 1 rfl (pur 1 rfl (Z1 ?_))
 refine Z0 rfl ?_ ?_ <;> intro hc0
 simp only [cS] at hc0
 obtain ⟨x, hx⟩ : ∃ x, xs[k]? = some x := ⟨_, List.getElem?_eq_getElem (by omega)⟩
 have hxm := List.mem_of_getElem? hx
 refine Zm (a := a) (sz := 1) (rows := ZG xs) (by cases xs <;> simp_all [ZG]) (fun b off he => ?_)
 subst he
 refine Z2 (Z1 (Z3 (sqt 2 rfl (pur 2 rfl (sqt 6 rfl (pur 3 rfl (sp rfl (PE.indexAddr Zc8 rfl rfl (by omega) (by omega)) rfl (spL rfl rfl (lf0 Z2j (by simp [ZG, hx]; rfl) rfl) rfl ?_))))))))
 refine Z6o rfl rfl (hg) rfl rfl (hp x hxm) ?_
 refine Z0 rfl ?_ ?_ <;> intro hc1
 refine sqt 2 rfl (pur 2 rfl (Z5 ?_))
 first | (exact rtA rfl rfl rfl ⟨by rw [Z0c hx hn hc1]; rfl, rfl, rfl⟩ idH) | (exact rtA rfl rfl rfl ⟨by rw [ZU (by simpa using hn)]; rfl, rfl, rfl⟩ idH)
 refine Z2 (sqr 2 rfl (sp rfl (PE.add rfl rfl (by omega)) rfl (pur 1 rfl ?_)))
 exact Z7 ⟨k + 1, by omega, Z1j hx hn hc1⟩ idH
 simp only [cS] at hc0
 obtain rfl : k = xs.length := by omega
 refine Z9 (Za (Za (Zo (sqt 1 rfl (pur 1 rfl (Z5 ?_))))))
 first | (exact rtA rfl rfl rfl ⟨by rw [Z0c hx hn hc1]; rfl, rfl, rfl⟩ idH) | (exact rtA rfl rfl rfl ⟨by rw [ZU (by simpa using hn)]; rfl, rfl, rfl⟩ idH)
theorem Z7Y (xs : List PL) (a : Option Addr) (c g : Nat) (fst cap : List Value) (p : PL → Bool) (hg : cal Try.prog g = true) (hl : xs.length ≤ 9223372036854775807) (H : Z8) (R : Z6) [hR : MemRows a 1 (ZG xs) R] (hp : ∀ x, x ∈ xs → FnV Try.prog g (fst ++ [.slice x.a x.l.length x.c] ++ cap) H R (.bool (p x))) :
    FnV Try.prog 107 [.slice a xs.length c, .func (.func g) fst.toArray cap.toArray] H R (.bool (xs.any p)) := by
 refine Zg Try.func107 rfl Try.ntmps107 rfl ?_
 refine sqt 1 rfl (pur 1 rfl (sqt 5 rfl (pur 2 rfl ?_)))
 refine clV rfl Zcn rfl rfl (Z7V xs a c g fst cap p hg hl _ _ hp) ?_
 refine pur 2 rfl (Z5 ?_)
 exact rtA rfl rfl rfl ⟨by simp only [ZV]; exact Z2R _ _, rfl, rfl⟩ drp
theorem Z7p (x : PL) (g bf : Nat) (fst cap : List Value) (p : Bool) (hg : cal Try.prog g = true) (H : Z8) (R : Z6) [hM : Mem1 bf (cel 67 [.func (.func g) fst.toArray cap.toArray]) H] (hp : FnV Try.prog g (fst ++ [.slice x.a x.l.length x.c] ++ cap) H R (.bool p)) :
    FnV Try.prog 108 [.slice x.a x.l.length x.c, .pointer (some ⟨bf, 0, none⟩)] H R (.bool !p) := by
 refine Zg Try.func108 rfl Try.ntmps108 rfl ?_
 refine sqt 1 rfl (pur 1 rfl (sqt 5 rfl (spL rfl rfl (lh Zeb rfl rfl) rfl (pur 1 rfl ?_))))
 refine Z6o rfl rfl (hg) rfl rfl (hp) ?_
 refine pur 2 rfl (Z5 ?_)
 exact rtA rfl rfl rfl ⟨rfl, rfl, rfl⟩ drp
theorem Z58 (xs : List PL) (a : Option Addr) (c g : Nat) (fst cap : List Value) (p : PL → Bool) (hg : cal Try.prog g = true) (hl : xs.length ≤ 9223372036854775807) (H : Z8) (R : Z6) [hR : MemRows a 1 (ZG xs) R] (hp : ∀ b x, x ∈ xs → FnV Try.prog g (fst ++ [.slice x.a x.l.length x.c] ++ cap) ((b, cel 67 [.func (.func g) fst.toArray cap.toArray]) :: H) R (.bool (p x))) :
    FnV Try.prog 88 [.slice a xs.length c, .func (.func g) fst.toArray cap.toArray] H R (.bool (xs.all p)) := by
 refine Zg Try.func88 rfl Try.ntmps88 rfl ?_
 refine sqt 2 rfl (bx rfl rfl rfl (fun b3 => pur 1 rfl (sqt 5 rfl (pur 1 rfl (sp rfl (PE.makeFunc rfl rfl) rfl ?_)))))
 refine clV rfl ZcE rfl rfl (Z7Y xs a c 108 [] [_] (fun x => !p x) Zci hl _ _ (hp := fun x hx => Z7p x g _ fst cap (p x) hg _ _ (hp := hp _ x hx))) ?_
 refine pur 2 rfl (Z5 ?_)
 exact rtA rfl rfl rfl ⟨by simp only [ZV]; rw [Z0Z], rfl, rfl⟩ drp
theorem Z8Y (h : Hse) (ag as_ : Option Addr) (cg cs : Nat) (hok : h.ok) (fr to_ : List Int) (af at_ : Option Addr) (cf ct b4 b5 b6 : Nat) (hfr : ∀ x ∈ fr, 0 ≤ x ∧ x < 7) (hfl : fr.length ≤ 1000) (hnt : to_.length ≤ 1000000) (x : PL) (pl : List PL) (hxm : x ∈ pl) (hp : ∀ k ∈ x.l, 0 ≤ k) (hpl : x.l.length ≤ 1000000) (H : Z8) (R : Z6) [hG : MemRows ag 2 (Zi h.gaps) R] [hS : MemRows as_ 3 (Zh h.sights) R] [hF : MemRows af 1 (Z4 fr) R] [hT : MemRows at_ 1 (Z4 to_) R] [m4 : Mem1 b4 (cel 26 (htl h (h.sg ag cg) (h.ss as_ cs))) H] [m5 : Mem1 b5 (cel 27 [.slice af fr.length cf]) H] [m6 : Mem1 b6 (cel 27 [.slice at_ to_.length ct]) H] [hI : MemF (Inn pl) R] :
    FnV Try.prog 89 [.slice x.a x.l.length x.c, .pointer (some ⟨b4, 0, none⟩), .pointer (some ⟨b5, 0, none⟩), .pointer (some ⟨b6, 0, none⟩)] H R (.bool (Z8c h.gaps 0 fr to_ x.l)) := by
 refine Zg Try.func89 rfl Try.ntmps89 rfl ?_
 refine sqt 1 rfl ?_
 refine Sy.heap (fun w h => St.inn (x := x) h hxm) ?_
 refine pur 1 rfl (Z1 ?_)
 refine Zc [0, 1, 0, 0, 0, 31, 63] (.ld 0 (.ld 2 (.ld 3 (.tk 4 (.big 1 (.big 5 (.tk 6 .done))))))) Zw (by kernel_rfl) ?_
 refine ld rfl rfl (lhA (htl h (h.sg ag cg) (h.ss as_ cs)) Z0g rfl rfl rfl) rfl (ld rfl rfl (lh Z2j rfl rfl) rfl (ld rfl rfl (lh Z2j rfl rfl) rfl (Zr 1 rfl ?_)))
 refine cl rfl Z4M rfl rfl (Z4q h ag as_ cg cs _ _) ?_
 rintro _ _ _ ⟨bd, rfl, rfl, rfl⟩
 refine bg (fun w hs => ⟨(lh Z2j rfl rfl) w hs, (lh Z2j rfl rfl) w hs, trivial, trivial⟩) ?_
 refine clV rfl Zdo rfl rfl (Z9N (dkA h ag as_ cg cs bd) (Z03 h ag as_ cg cs hok bd) fr to_ x.l af at_ x.a cf ct x.c hfr hfl hnt hp hpl _ _) ?_
 refine bgT (Zr 1 rfl (Z5 ?_))
 exact rtA rfl rfl rfl ⟨rfl, rfl, rfl⟩ (fun w h9 => h9.ftail.ftail)
set_option maxHeartbeats 400000 in
theorem Zad (h : Hse) (ag as_ : Option Addr) (cg cs : Nat) (hlg : h.gaps.length ≤ 9223372036854775807) (hls : h.sights.length ≤ 9223372036854775807) (fr to_ : List Int) (af at_ : Option Addr) (cf ct : Nat) (hlf : fr.length ≤ 1000000) (hlt : to_.length ≤ 1000000) (hfc : fr.length ≤ cf) (htc : to_.length ≤ ct) (pl : List PL) (ap : Option Addr) (cp : Nat) (hpl : pl.length ≤ 1000000) (htot : (lls pl).flatten.length ≤ 1000000) (H : Z8) (R : Z6) [hG : MemRows ag 2 (Zi h.gaps) R] [hS : MemRows as_ 3 (Zh h.sights) R] [hF : MemRows af 1 (Z4 fr) R] [hT : MemRows at_ 1 (Z4 to_) R] [hP : MemRows ap 1 (ZG pl) R] [hI : MemF (Inn pl) R] :
    FnV Try.prog 48 [h.v (h.sg ag cg) (h.ss as_ cs), .slice af fr.length cf, .slice at_ to_.length ct, .slice ap pl.length cp] H R (.tuple #[.int .i64 (h.ledR fr to_ (lls pl)), .int .i64 (h.ledE fr to_ (lls pl))]) := by
 refine Zg Try.func48 rfl Try.ntmps48 rfl ?_
 refine sqt 5 rfl (bx rfl rfl rfl (fun b4 => bx rfl rfl rfl (fun b5 => bx rfl rfl rfl (fun b6 => pur 2 rfl (Z1 (sqt 5 rfl (spL rfl rfl (lhA (htl h (h.sg ag cg) (h.ss as_ cs)) Z0g rfl rfl rfl) rfl (spL rfl rfl (lh Z2j rfl rfl) rfl (spL rfl rfl (lh Z2j rfl rfl) rfl ?_)))))))))
 refine clV rfl Z91 rfl rfl (Z6a h ag as_ cg cs hlg hls fr to_ af at_ cf ct (by omega) (by omega) hfc htc _ _) ?_
 refine pur 1 rfl (sqt 2 rfl (pur 2 rfl ?_))
 refine Z0 rfl ?_ ?_ <;> intro hc0
 have hbe : h.botE fr to_ ≠ 0 := of_decide_eq_true hc0
 have e : h.ledE fr to_ (lls pl) = h.botE fr to_ := by unfold Hse.ledE; rw [dT hbe]; rfl
 refine sqt 3 rfl (pur 3 rfl (Z5 ?_))
 exact rtB rfl rfl rfl rfl ⟨by rw [Z4T e (by assumption), e] <;> rfl, rfl, rfl⟩ drp
 have hbe : h.botE fr to_ = 0 := Classical.byContradiction fun e => by rw [decide_eq_true e] at hc0; cases hc0
 have hb := Z3G hbe
 obtain ⟨q1, q2, q3, q4, q5, q6⟩ := Z1i hb
 have hok := hb.ok
 refine Z2 (Z1 (Z1 ?_))
 refine Zc [0, 1, 0, 4, 15, 31] (.tk 0 (.ld 2 (.tk 3 (.big 1 (.big 4 (.tk 5 .done)))))) Zw (by kernel_rfl) ?_
 refine Zr 1 rfl (ld rfl rfl (lhA (htl h (h.sg ag cg) (h.ss as_ cs)) Z0g rfl rfl rfl) rfl (tk rfl (PE.makeFunc rfl rfl) rfl ?_))
 refine cl rfl Z8w rfl rfl (Z2z pl ap cp hpl htot _ _) ?_
 rintro _ _ R1 ⟨o, rfl, rfl, hR1⟩
 obtain rfl := hR1.symm
 clear hR1
 obtain ⟨ac, cc, heo, hcc, hfz⟩ := o.freezeC
 rw [irl] at hcc
 rw [heo, irl]
 refine Sy.heap (fun w h => hfz h) ?_
 clear hfz heo
 refine bg (fun w hs => ⟨(lhA (htl h (h.sg ag cg) (h.ss as_ cs)) Z0g rfl rfl rfl) w hs, trivial⟩) ?_
 refine clV rfl Z9a rfl rfl (Z2x (lls pl).flatten ac cc 55 [h.v (h.sg ag cg) (h.ss as_ cs)] [] (fun k => inB k 0 ((h.gaps.length : Int) - 1)) Zd1 (by omega) hcc _ _ (fun _ z _ => ZdR h (by have := hok.gl; omega) ag cg (h.ss as_ cs) z _ _)) ?_
 refine bgT (Zr 1 rfl (sqt 2 rfl (pur 2 rfl ?_)))
 refine Z0 rfl ?_ ?_ <;> intro hc1
 have hle : ZT h.gaps.length (lls pl).flatten ≠ 0 := of_decide_eq_true hc1
 have e : h.ledE fr to_ (lls pl) = ZT h.gaps.length (lls pl).flatten := by unfold Hse.ledE; rw [hbe, dT hle]; rfl
 refine sqt 3 rfl (pur 3 rfl (Z5 ?_))
 exact rtB rfl rfl rfl rfl ⟨by rw [Z4T e (by assumption), e] <;> rfl, rfl, rfl⟩ (fun w h9 => St.sub (((h9.del b6).del b5).del b4))
 have hle : ZT h.gaps.length (lls pl).flatten = 0 := Classical.byContradiction fun e => by rw [show decide (Z8J (fun k => inB k 0 ((h.gaps.length : Int) - 1)) (lls pl).flatten ≠ 0) = true from decide_eq_true e] at hc1; cases hc1
 have hlx := (Z0Q hle).1
 have hin : ∀ x ∈ pl, (∀ k ∈ x.l, 0 ≤ k) ∧ x.l.length ≤ 1000000 := fun x hx => by
   have hm : x.l ∈ lls pl := List.mem_map.2 ⟨x, hx, rfl⟩
   refine ⟨fun k hk => (hlx k (List.mem_flatten.2 ⟨_, hm, hk⟩)).1, ?_⟩
   have := List.Sublist.length_le (List.sublist_flatten_of_mem hm)
   omega
 refine Z2 (Z1 (sqt 4 rfl (pur 1 rfl (sp rfl (PE.makeFunc rfl rfl) rfl ?_))))
 refine clV rfl Zdf rfl rfl (Z58 pl ap cp 89 [] [_, _, _] (fun x => Z8c h.gaps 0 fr to_ x.l) Zd7 (by omega) _ _ (fun _ x hx => Z8Y h ag as_ cg cs hok fr to_ af at_ cf ct b4 b5 b6 q1 (by omega) hlt x pl hx (hin x hx).1 (hin x hx).2 _ _)) ?_
 refine pur 1 rfl ?_
 refine Z0 rfl ?_ ?_ <;> intro hc2
 have hc9 : (!(pl.all fun x => Z8c h.gaps 0 fr to_ x.l)) = true := hc2
 rw [Z7s pl (fun l => Z8c h.gaps 0 fr to_ l)] at hc9
 have h8 : (8 : Int) ≠ 0 := by decide
 have e : h.ledE fr to_ (lls pl) = 8 := by unfold Hse.ledE; rw [hbe, hle, hc9]; rfl
 refine sqt 2 rfl (pur 2 rfl (Z5 ?_))
 exact rtB rfl rfl rfl rfl ⟨by rw [Z4T e (by assumption), e] <;> rfl, rfl, rfl⟩ (fun w h9 => St.sub (((h9.del b6).del b5).del b4))
 have hc9 : (!(pl.all fun x => Z8c h.gaps 0 fr to_ x.l)) = false := hc2
 rw [Z7s pl (fun l => Z8c h.gaps 0 fr to_ l)] at hc9
 have e : h.ledE fr to_ (lls pl) = 0 := by unfold Hse.ledE; rw [hbe, hle, hc9]; rfl
 have er : h.ledR fr to_ (lls pl) = pl.length := by unfold Hse.ledR; rw [e, Z50]; rfl
 refine Z2 (sqt 4 rfl (pur 1 rfl (sp rfl (PE.lenSl Z6C rfl) rfl (pur 2 rfl (Z5 ?_)))))
 exact rtB rfl rfl rfl rfl ⟨by rw [er, e] <;> rfl, rfl, rfl⟩ (fun w h9 => St.sub (((h9.del b6).del b5).del b4))
theorem Zbk : Z0i Try.prog 26 = some 3 := by kernel_rfl
theorem Ze4 : Z1g Try.prog 26 = some [(0, 1), (1, 1), (2, 1)] := by kernel_rfl
theorem Zbj : Z1g Try.prog 38 = some [(0, 1), (1, 1), (2, 1)] := by kernel_rfl
theorem Zdm : slE Try.prog 23 = some (46, 2) := by kernel_rfl
theorem Zbb : ZM Try.prog 26 = some ([.int .i64 0, .slice none 0 0, .slice none 0 0]) := by kernel_rfl
def Z6F : List Gp := [⟨0, 1⟩, ⟨0, 2⟩, ⟨1, 3⟩, ⟨2, 3⟩, ⟨3, 4⟩, ⟨4, 5⟩, ⟨1, 2⟩]
def sixS : List Sgt := [⟨2, 3, true⟩, ⟨1, 1, false⟩, ⟨2, 4, false⟩]
abbrev six (k : Nat) : Hse := ⟨6, Z6F, sixS.take k⟩
theorem Z6i (l : List Sgt) (k : Nat) : (Zh l).take k = Zh (l.take k) := (List.map_take).symm
theorem Zae {k : Nat} (hk : k ≤ 3) : (six k).sights.length = k := by
  show (sixS.take k).length = k
  rw [List.length_take]; show min k 3 = k; omega
set_option maxHeartbeats 400000 in
theorem Z4s (k : Nat) (hk : k ≤ 3) (H : Z8) (R : Z6) :
    Fn Try.prog 47 [.int .i64 (k : Int)] H R (fun v H' R' => ∃ (ag as_ : Option Addr) (cg cs : Nat), v = (six k).v ((six k).sg ag cg) ((six k).ss as_ cs) ∧ k ≤ cs ∧ H' = H ∧ R' = RowsA ag 2 (Zi (six k).gaps) :: RowsA as_ 3 (Zh (six k).sights) :: R) := by
 refine Zg Try.func47 rfl Try.ntmps47 rfl ?_
 refine sqt 1 rfl (alc rfl Zbb rfl (fun b2 => sqt 5 rfl (sp rfl (PE.build (out := [_, _, _]) Zbj Z4P rfl rfl) rfl (sp rfl (PE.build (out := [_, _, _]) Zbj Z4P rfl rfl) rfl (sp rfl (PE.build (out := [_, _, _]) Zbj Z4P rfl rfl) rfl ?_)))))
 refine bsl (out := [_, _, _, _, _, _, _, _, _]) rfl Z9P Z4P rfl rfl rfl rfl rfl rfl (fun b7 => ?_)
 refine pur 1 rfl (sqt 17 rfl (sp rfl (PE.build (out := [_, _]) Z8d Z3o rfl rfl) rfl (sp rfl (PE.build (out := [_, _]) Z8d Z3o rfl rfl) rfl (sp rfl (PE.build (out := [_, _]) Z8d Z3o rfl rfl) rfl (sp rfl (PE.build (out := [_, _]) Z8d Z3o rfl rfl) rfl (sp rfl (PE.build (out := [_, _]) Z8d Z3o rfl rfl) rfl (sp rfl (PE.build (out := [_, _]) Z8d Z3o rfl rfl) rfl (sp rfl (PE.build (out := [_, _]) Z8d Z3o rfl rfl) rfl ?_))))))))
 refine bsl (out := [_, _, _, _, _, _, _, _, _, _, _, _, _, _]) rfl Zdm Z3o rfl rfl rfl rfl rfl rfl (fun b15 => ?_)
 refine pur 3 rfl (sp rfl (PE.lenSl Z6u rfl) rfl (sp rfl (PE.min rfl rfl) rfl (sp rfl (PE.max rfl rfl) rfl ?_)))
 rw [show max (0 : Int) (min (k : Int) ((3 : Nat) : Int)) = (k : Int) by omega]
 refine sp rfl (PE.slHi (h := k) Z9P rfl rfl (by omega)) rfl (sp rfl (PE.build (out := [_, _, _]) Ze4 Zbb rfl rfl) rfl ?_)
 refine ZF (l' := [.int .i64 6, .slice (some ⟨b15, 0, none⟩) 7 7, .slice (some ⟨b7, 0, none⟩) k 3]) rfl rfl rfl Zbk rfl rfl rfl rfl (nl rfl) ?_
 refine Z5 ?_
 refine Sy.heap (fun w h9 => St.rows (sz := 3) (rows := Zh sixS) (rest := []) (h9.pull b7) (by simp [Zh, sixS, Z1S])) ?_
 refine Sy.heap (fun w h9 => St.rows (sz := 2) (rows := Zi Z6F) (rest := []) (h9.pull b15) (by simp [Zi, Z6F, Z1N])) ?_
 refine Sy.heap (fun w h9 => (show St _ (RowsA (some ⟨b7, 0, none⟩) 3 (Zh (sixS.take k)) :: _) w from Z6i sixS k ▸ St.rowsTake (a := some ⟨b7, 0, none⟩) (sz := 3) (rows := Zh sixS) h9 k)) ?_
 exact Zp (vs := [_]) rfl (.cons (RV.cell rfl (lhA [_, _, _] Z0g rfl rfl rfl)) .nil) rfl ⟨some ⟨b15, 0, none⟩, some ⟨b7, 0, none⟩, 7, 3, by unfold Hse.v Hse.sg Hse.ss htl; rw [Zae hk]; rfl, hk, rfl, rfl⟩ (fun w h9 => St.sub (h9.del b2))
theorem Zdk : cal Try.prog 91 = true := by kernel_rfl
theorem Z3T : Wth Z6F 7 := by
  intro g hg
  simp only [Z6F, List.mem_cons, List.not_mem_nil, or_false] at hg
  rcases hg with rfl | rfl | rfl | rfl | rfl | rfl | rfl <;> decide
theorem six_w : ((six 0).weeksR [0]).1 = [0, 1, 1, 2, 3, 4] ∧ ((six 0).weeksR [0]).2 = 0 := ⟨by kernel_rfl, by kernel_rfl⟩
theorem six_o : ((six 2).orgR).1 = [4] ∧ ((six 2).orgR).2 = 0 := ⟨by kernel_rfl, by kernel_rfl⟩
theorem six_s : ((six 2).surR 1).1 = [4, 5] ∧ ((six 2).surR 1).2 = 0 := ⟨by kernel_rfl, by kernel_rfl⟩
theorem six_c : ((six 3).claR).1 = [0, 1, 2] ∧ ((six 3).claR).2 = 0 := ⟨by kernel_rfl, by kernel_rfl⟩
theorem six_l : (six 0).ledR [0] [3] [[0, 2], [1, 3]] = 2 ∧ (six 0).ledE [0] [3] [[0, 2], [1, 3]] = 0 := ⟨by kernel_rfl, by kernel_rfl⟩
theorem six_b : (six 0).botE [0] [5] = 0 ∧ (six 0).botE [0] [3] = 0 ∧ (six 0).rcE [0] [1] 1 = 0 := ⟨by kernel_rfl, by kernel_rfl, by kernel_rfl⟩
theorem Zbx : plD Z6F 2 1 8 1 0 3 = true := by kernel_rfl
theorem Zcu : plD Z6F 2 1 8 1 0 2 = false := by kernel_rfl
theorem Zco : plD Z6F 8 0 8 1 0 10 = false := by kernel_rfl
theorem Zcs : plD Z6F 8 1 8 1 0 10 = true := by kernel_rfl
theorem ZbF : plD Z6F 32 10 8 1 0 1 = true := by kernel_rfl
theorem Zcf : plD Z6F 32 10 8 1 0 0 = false := by kernel_rfl
theorem six_few : Lst (Pl (six 0).gaps (msk [1]) (1 : Int).toNat (msk [0]) 0) 3 := Z6K Z3T (by decide) Zbx Zcu
theorem Za6 : Lst (Pl (six 0).gaps (msk [5]) 10 (msk [0]) 0) 1 := Z6K Z3T (by decide) ZbF Zcf
theorem Za1 {s : Nat} (h1 : ∃ n, Pl (six 0).gaps (msk [3]) s (msk [0]) 0 n) (h2 : ∀ s', s' < s → ∀ n, ¬ Pl (six 0).gaps (msk [3]) s' (msk [0]) 0 n) : s = 1 := by
  rcases Nat.lt_trichotomy s 1 with h3 | h3 | h3
  · obtain rfl : s = 0 := by omega
    obtain ⟨n, hn⟩ := h1
    have hf := hn.few
    have h4 := Z59 (n := 10) (f := 8) Z3T (by decide) (by omega) hn (by have : (six 0).gaps.length = 7 := rfl; omega)
    have h5 : plD Z6F 8 0 8 1 0 10 = true := h4
    rw [Zco] at h5
    cases h5
  · exact h3
  · obtain ⟨k, _, hk⟩ := Z3P Zcs
    exact absurd hk (h2 1 h3 k)
theorem Z6y {f : Nat → Int} {V : List (Nat × Int)} (hf : Flw f (msk [0]) (msk [5]) (six 0).gaps) (hs : Shn (six 0).gaps (fun _ => true) f (msk [0]) (msk [5]) V) : (Z1C (Z1B V) (six 0).gaps).length = 1 := by
  have hc := (hs.cut (Z81 (Z3G six_b.1)) hf).1
  have hl : (Z1C (Z1B V) (six 0).gaps).length ≤ 7 := by
    unfold Z1C
    rw [List.length_map]
    exact Nat.le_trans (List.length_filter_le _ _) (by decide)
  exact (Cut.plan (sp := 10) Z3T (by decide) hc (by omega)).unique Za6
theorem Z8W (xs ys : List Int) (a a2 : Option Addr) (c c2 : Nat) (hl : xs.length ≤ 9223372036854775807) (hl2 : ys.length ≤ 9223372036854775807) (H : Z8) (R : Z6) [hR : MemRows a 1 (Z4 xs) R] [hR2 : MemRows a2 1 (Z4 ys) R] :
    FnV Try.prog 91 [.slice a xs.length c, .slice a2 ys.length c2] H R (.bool (decide (xs = ys))) := by
 refine Zg Try.func91 rfl Try.ntmps91 rfl ?_
 refine sqt 1 rfl (pur 1 rfl (Z1 (sqt 5 rfl (pur 1 rfl (sp rfl (PE.lenSl ZC rfl) rfl (pur 1 rfl (sp rfl (PE.lenSl ZC rfl) rfl (pur 1 rfl ?_))))))))
 refine Z0 rfl ?_ ?_ <;> intro hc0
 have hne : xs ≠ ys := fun e => by subst e; simp at hc0
 refine sqt 1 rfl (pur 1 rfl (Z5 ?_))
 exact rtA rfl rfl rfl ⟨by first | (simp only [ZV]; rw [dT heq]; done) | (simp only [ZV]; rw [dF hne]), rfl, rfl⟩ idH
 have hle : xs.length = ys.length := by simp only [cS] at hc0; omega
 refine Z2 (Z1 (sqt 3 rfl (pur 1 rfl (sp rfl (PE.lenSl ZC rfl) rfl (pur 1 rfl (Z3 ?_))))))
 refine Ze (ι := {k : Nat // k ≤ xs.length ∧ xs.take k = ys.take k}) (fun k => ⟨[(0, .slice a xs.length c), (1, .slice a2 ys.length c2), (12, .int .i64 xs.length), (13, .int .i64 k.1)], H, R⟩) (fun k => xs.length - k.1) ⟨0, by simp⟩ ?_ (fun k => ?_)
 exact Zn idH
 obtain ⟨k, hk, hn⟩ := k
 dsimp only
 refine sqt 1 rfl (pur 1 rfl (Z1 ?_))
 refine Z0 rfl ?_ ?_ <;> intro hc1
 simp only [cS] at hc1
 obtain ⟨x, hx⟩ : ∃ x, xs[k]? = some x := ⟨_, List.getElem?_eq_getElem (by omega)⟩
 obtain ⟨z, hz⟩ : ∃ z, ys[k]? = some z := ⟨_, List.getElem?_eq_getElem (by omega)⟩
 refine Zm (a := a) (sz := 1) (rows := Z4 xs) (by intro h0; simp [Z4] at h0; simp [h0] at hx) (fun b off he => ?_)
 subst he
 refine Zm (a := a2) (sz := 1) (rows := Z4 ys) (by intro h0; simp [Z4] at h0; simp [h0] at hz) (fun b2 off2 he => ?_)
 subst he
 refine Z2 (Z1 (Z3 (sqt 2 rfl (pur 2 rfl (Z1 ?_)))))
 refine Zc [0, 0, 3, 7, 0, 0, 48, 112, 255] (tks 0 3 (.ld 3 (tks 4 3 (.ld 7 (.tk 8 .done))))) Zw (by kernel_rfl) ?_
 refine Zr 2 rfl (tk rfl (PE.indexAddr Z1c rfl rfl (by omega) (by omega)) rfl (ld rfl rfl (lf0 sc3 (by simp [Z4, hx]; rfl) rfl) rfl (Zr 2 rfl (tk rfl (PE.indexAddr Z1c rfl rfl (by omega) (by omega)) rfl (ld rfl rfl (lf0 sc3 (by simp [Z4, hz]; rfl) rfl) rfl (Zr 1 rfl ?_))))))
 refine Z0 rfl ?_ ?_ <;> intro hc2
 have hne : xs ≠ ys := fun e => by subst e; rw [hx] at hz; cases hz; simp at hc2
 refine sqt 1 rfl (pur 1 rfl (Z5 ?_))
 exact rtA rfl rfl rfl ⟨by first | (simp only [ZV]; rw [dT heq]; done) | (simp only [ZV]; rw [dF hne]), rfl, rfl⟩ idH
 have hxz : x = z := by simpa using hc2
 refine Z2 (sqr 2 rfl (sp rfl (PE.add rfl rfl (by omega)) rfl (pur 1 rfl ?_)))
 exact Z7 ⟨k + 1, by omega, by rw [List.take_add_one, List.take_add_one, hn, hx, hz, hxz]⟩ idH
 simp only [cS] at hc1
 obtain rfl : k = xs.length := by omega
 have heq : xs = ys := by
   rw [List.take_length] at hn
   exact hn.trans (by rw [hle]; exact List.take_length)
 refine Z9 (Za (Za (Zo (sqt 1 rfl (pur 1 rfl (Z5 ?_))))))
 exact rtA rfl rfl rfl ⟨by first | (simp only [ZV]; rw [dT heq]; done) | (simp only [ZV]; rw [dF hne]), rfl, rfl⟩ idH
theorem Z2w (xs ys : List Int) (a a2 : Option Addr) (c c2 : Nat) (hl : xs.length ≤ 9223372036854775807) (hl2 : ys.length ≤ 9223372036854775807) (H : Z8) (R : Z6) [hR : MemRows a 1 (Z4 xs) R] [hR2 : MemRows a2 1 (Z4 ys) R] :
    FnV Try.prog 49 [.slice a xs.length c, .slice a2 ys.length c2] H R (.bool (decide (xs = ys))) := by
 refine Zg Try.func49 rfl Try.ntmps49 rfl ?_
 refine sqt 1 rfl (pur 1 rfl (sqt 4 rfl (pur 2 rfl ?_)))
 refine clV rfl Zdk rfl rfl (Z8W xs ys a a2 c c2 hl hl2 _ _) ?_
 refine pur 1 rfl (Z5 ?_)
 exact rtA rfl rfl rfl ⟨rfl, rfl, rfl⟩ drp
theorem Zd3 : cal Try.prog 12 = true := by kernel_rfl
theorem ZbI : cal Try.prog 14 = true := by kernel_rfl
theorem ZbX : cal Try.prog 15 = true := by kernel_rfl
theorem ZdF : cal Try.prog 18 = true := by kernel_rfl
theorem ZdT : cal Try.prog 22 = true := by kernel_rfl
theorem ZcV : cal Try.prog 23 = true := by kernel_rfl
theorem ZdK : cal Try.prog 25 = true := by kernel_rfl
theorem Z4L : cal Try.prog 47 = true := by kernel_rfl
theorem ZdC : cal Try.prog 48 = true := by kernel_rfl
theorem Z8B : cal Try.prog 49 = true := by kernel_rfl
set_option maxHeartbeats 1000000 in
theorem Zal (H : Z8) (R : Z6) :
    FnV Try.prog 16 [] H R (.bool true) := by
 refine Zg Try.func16 rfl Try.ntmps16 rfl ?_
 refine sqt 1 rfl (pur 1 rfl (sqt 8 rfl ?_))
 refine cl rfl Z4L rfl rfl (Z4s 0 (by decide) _ _) ?_
 rintro _ _ R1 ⟨ag18, as18, cg18, cs18, rfl, _, rfl, hR1⟩
 obtain rfl := hR1.symm
 clear hR1
 refine bsl (out := [_]) rfl Z0E zl3 rfl rfl rfl rfl rfl rfl (fun b19 => ?_)
 refine Sy.heap (fun w h9 => St.rows (sz := 1) (rows := Z4 [0]) (rest := []) (h9.pull b19) (by simp)) ?_
 refine cl rfl ZdF rfl rfl (Zbc (six 0) ag18 as18 cg18 cs18 (by decide) (by decide) [0] (some ⟨b19, 0, none⟩) 1 (by decide) (by decide) _ _) ?_
 rintro _ _ R1 ⟨a1, c1, _, rfl, rfl, hR1⟩
 obtain rfl := hR1.symm
 clear hR1
 rw [six_w.1, six_w.2]
 refine pur 5 rfl (sqt 7 rfl ?_)
 refine cl rfl Z4L rfl rfl (Z4s 2 (by decide) _ _) ?_
 rintro _ _ R1 ⟨ag24, as24, cg24, cs24, rfl, _, rfl, hR1⟩
 obtain rfl := hR1.symm
 clear hR1
 refine cl rfl ZbI rfl rfl (Z4C (six 2) ag24 as24 cg24 cs24 (by decide) (by decide) _ _) ?_
 rintro _ _ R1 ⟨a2, c2, _, rfl, rfl, hR1⟩
 obtain rfl := hR1.symm
 clear hR1
 rw [six_o.1, six_o.2]
 refine pur 5 rfl (sqt 7 rfl ?_)
 refine cl rfl Z4L rfl rfl (Z4s 2 (by decide) _ _) ?_
 rintro _ _ R1 ⟨ag29, as29, cg29, cs29, rfl, _, rfl, hR1⟩
 obtain rfl := hR1.symm
 clear hR1
 refine cl rfl ZbX rfl rfl (Z5W (six 2) ag29 as29 cg29 cs29 (by decide) (by decide) 1 _ _) ?_
 rintro _ _ R1 ⟨a3, c3, _, rfl, rfl, hR1⟩
 obtain rfl := hR1.symm
 clear hR1
 rw [six_s.1, six_s.2]
 refine pur 5 rfl (sqt 7 rfl ?_)
 refine cl rfl Z4L rfl rfl (Z4s 3 (by decide) _ _) ?_
 rintro _ _ R1 ⟨ag34, as34, cg34, cs34, rfl, _, rfl, hR1⟩
 obtain rfl := hR1.symm
 clear hR1
 refine cl rfl Zd3 rfl rfl (Z9U (six 3) ag34 as34 cg34 cs34 (by decide) (by decide) _ _) ?_
 rintro _ _ R1 ⟨a4, c4, _, rfl, rfl, hR1⟩
 obtain rfl := hR1.symm
 clear hR1
 rw [six_c.1, six_c.2]
 refine pur 5 rfl (sqt 9 rfl ?_)
 refine cl rfl Z4L rfl rfl (Z4s 0 (by decide) _ _) ?_
 rintro _ _ R1 ⟨ag39, as39, cg39, cs39, rfl, _, rfl, hR1⟩
 obtain rfl := hR1.symm
 clear hR1
 refine bsl (out := [_]) rfl Z0E zl3 rfl rfl rfl rfl rfl rfl (fun b40 => ?_)
 refine bsl (out := [_]) rfl Z0E zl3 rfl rfl rfl rfl rfl rfl (fun b41 => ?_)
 refine Sy.heap (fun w h9 => St.rows (sz := 1) (rows := Z4 [0]) (rest := []) (h9.pull b40) (by simp)) ?_
 refine Sy.heap (fun w h9 => St.rows (sz := 1) (rows := Z4 [1]) (rest := []) (h9.pull b41) (by simp)) ?_
 refine cl rfl ZdK rfl rfl (Z8C (six 0) ag39 as39 cg39 cs39 (by decide) (by decide) [0] [1] (some ⟨b40, 0, none⟩) (some ⟨b41, 0, none⟩) 1 1 (by decide) (by decide) (by decide) (by decide) 1 _ _) ?_
 rintro _ _ R1 ⟨rfl, hR1, hq⟩
 obtain rfl := hR1.symm
 clear hR1
 rcases hq with ⟨h9, _⟩ | ⟨_, hn, _⟩ | ⟨_, n, _, hn, rfl⟩
 · exact absurd six_b.2.2 h9
 · exact absurd six_few.1 (hn 3)
 obtain rfl := hn.unique six_few
 refine pur 5 rfl (sqt 12 rfl ?_)
 refine cl rfl Z4L rfl rfl (Z4s 0 (by decide) _ _) ?_
 rintro _ _ R1 ⟨Z5S, as46, cg46, cs46, rfl, _, rfl, hR1⟩
 obtain rfl := hR1.symm
 clear hR1
 refine bsl (out := [_]) rfl Z0E zl3 rfl rfl rfl rfl rfl rfl (fun b47 => ?_)
 refine bsl (out := [_]) rfl Z0E zl3 rfl rfl rfl rfl rfl rfl (fun b48 => ?_)
 refine bsl (out := [_, _]) rfl Z0E zl3 rfl rfl rfl rfl rfl rfl (fun b49 => ?_)
 refine bsl (out := [_, _]) rfl Z0E zl3 rfl rfl rfl rfl rfl rfl (fun b50 => ?_)
 refine bsl (out := [_, _]) rfl ZcL Z8h rfl rfl rfl rfl rfl rfl (fun b51 => ?_)
 refine Sy.heap (fun w h9 => St.rows (sz := 1) (rows := Z4 [0]) (rest := []) (h9.pull b47) (by simp)) ?_
 refine Sy.heap (fun w h9 => St.rows (sz := 1) (rows := Z4 [3]) (rest := []) (h9.pull b48) (by simp)) ?_
 refine Sy.heap (fun w h9 => St.rows (sz := 1) (rows := Z4 [0, 2]) (rest := []) (h9.pull b49) (by simp)) ?_
 refine Sy.heap (fun w h9 => St.rows (sz := 1) (rows := Z4 [1, 3]) (rest := []) (h9.pull b50) (by simp)) ?_
 refine Sy.heap (fun w h9 => St.rows (sz := 1) (rows := ZG [⟨some ⟨b49, 0, none⟩, 2, [0, 2]⟩, ⟨some ⟨b50, 0, none⟩, 2, [1, 3]⟩]) (rest := []) (h9.pull b51) (by simp [ZG, Z6h])) ?_
 refine Sy.heap (fun w h9 => St.inn0 h9) ?_
 refine Sy.heap (fun w h9 => (show St _ (Inn [⟨some ⟨b49, 0, none⟩, 2, [0, 2]⟩] :: _) w from St.innSnoc (l := []) ⟨some ⟨b49, 0, none⟩, 2, [0, 2]⟩ h9)) ?_
 refine Sy.heap (fun w h9 => (show St _ (Inn [⟨some ⟨b49, 0, none⟩, 2, [0, 2]⟩, ⟨some ⟨b50, 0, none⟩, 2, [1, 3]⟩] :: _) w from St.innSnoc (l := [⟨some ⟨b49, 0, none⟩, 2, [0, 2]⟩]) ⟨some ⟨b50, 0, none⟩, 2, [1, 3]⟩ h9)) ?_
 refine cl rfl ZdC rfl rfl (Zad (six 0) Z5S as46 cg46 cs46 (by decide) (by decide) [0] [3] (some ⟨b47, 0, none⟩) (some ⟨b48, 0, none⟩) 1 1 (by decide) (by decide) (by decide) (by decide) [⟨some ⟨b49, 0, none⟩, 2, [0, 2]⟩, ⟨some ⟨b50, 0, none⟩, 2, [1, 3]⟩] (some ⟨b51, 0, none⟩) 2 (by show 2 ≤ 1000000; decide) (by show 4 ≤ 1000000; decide) _ _) ?_
 rintro _ _ _ ⟨rfl, rfl, rfl⟩
 rw [show lls [⟨some ⟨b49, 0, none⟩, 2, [0, 2]⟩, ⟨some ⟨b50, 0, none⟩, 2, [1, 3]⟩] = [[0, 2], [1, 3]] from rfl, six_l.1, six_l.2]
 refine pur 5 rfl (sqt 9 rfl ?_)
 refine cl rfl Z4L rfl rfl (Z4s 0 (by decide) _ _) ?_
 rintro _ _ R1 ⟨ag56, as56, cg56, cs56, rfl, _, rfl, hR1⟩
 obtain rfl := hR1.symm
 clear hR1
 refine bsl (out := [_]) rfl Z0E zl3 rfl rfl rfl rfl rfl rfl (fun b57 => ?_)
 refine bsl (out := [_]) rfl Z0E zl3 rfl rfl rfl rfl rfl rfl (fun b58 => ?_)
 refine Sy.heap (fun w h9 => St.rows (sz := 1) (rows := Z4 [0]) (rest := []) (h9.pull b57) (by simp)) ?_
 refine Sy.heap (fun w h9 => St.rows (sz := 1) (rows := Z4 [5]) (rest := []) (h9.pull b58) (by simp)) ?_
 refine cl rfl ZcV rfl rfl (ZcX (six 0) ag56 as56 cg56 cs56 (by decide) (by decide) [0] [5] (some ⟨b57, 0, none⟩) (some ⟨b58, 0, none⟩) 1 1 (by decide) (by decide) (by decide) (by decide) _ _) ?_
 rintro _ _ R1 ⟨rfl, hq⟩
 rcases hq with ⟨h9, _⟩ | ⟨_, f, V, a5, c5, hf, hs, _, rfl, hR1⟩
 · exact absurd six_b.1 h9
 obtain rfl := hR1.symm
 clear hR1
 rw [Z6y hf hs]
 refine pur 5 rfl (sqt 9 rfl ?_)
 refine cl rfl Z4L rfl rfl (Z4s 0 (by decide) _ _) ?_
 rintro _ _ R1 ⟨ag63, as63, cg63, cs63, rfl, _, rfl, hR1⟩
 obtain rfl := hR1.symm
 clear hR1
 refine bsl (out := [_]) rfl Z0E zl3 rfl rfl rfl rfl rfl rfl (fun b64 => ?_)
 refine bsl (out := [_]) rfl Z0E zl3 rfl rfl rfl rfl rfl rfl (fun b65 => ?_)
 refine Sy.heap (fun w h9 => St.rows (sz := 1) (rows := Z4 [0]) (rest := []) (h9.pull b64) (by simp)) ?_
 refine Sy.heap (fun w h9 => St.rows (sz := 1) (rows := Z4 [3]) (rest := []) (h9.pull b65) (by simp)) ?_
 refine cl rfl ZdT rfl rfl (Zam (six 0) ag63 as63 cg63 cs63 (by decide) (by decide) [0] [3] (some ⟨b64, 0, none⟩) (some ⟨b65, 0, none⟩) 1 1 (by decide) (by decide) (by decide) (by decide) _ _) ?_
 rintro _ _ R1 ⟨rfl, hR1, hq⟩
 obtain rfl := hR1.symm
 clear hR1
 rcases hq with ⟨h9, _⟩ | ⟨_, n, _, hn1, hn2, rfl⟩
 · exact absurd six_b.2.1 h9
 obtain rfl := Za1 hn1 hn2
 refine pur 5 rfl (sqt 68 rfl (pur 3 rfl ?_))
 refine Zl 71 rfl ?_ ?_ <;> intro g71
 refine pur 4 rfl ?_
 refine Zl 75 rfl ?_ ?_ <;> intro g75
 refine pur 4 rfl ?_
 refine Zl 79 rfl ?_ ?_ <;> intro g79
 refine pur 4 rfl ?_
 refine Zl 83 rfl ?_ ?_ <;> intro g83
 refine pur 4 rfl ?_
 refine Zl 87 rfl ?_ ?_ <;> intro g87
 refine pur 4 rfl ?_
 refine Zl 91 rfl ?_ ?_ <;> intro g91
 refine pur 4 rfl ?_
 refine Zl 95 rfl ?_ ?_ <;> intro g95
 refine pur 4 rfl ?_
 refine Zl 99 rfl ?_ ?_ <;> intro g99
 refine pur 1 rfl ?_
 refine ZcR (out := [_, _, _, _, _, _]) rfl rfl rfl rfl Z0E zl3 rfl rfl rfl rfl rfl rfl (fun b101 => ?_)
 refine Sy.heap (fun w h9 => St.rows (sz := 1) (rows := Z4 [0, 1, 1, 2, 3, 4]) (rest := []) (h9.pull b101) (by simp)) ?_
 refine Z1f rfl rfl rfl rfl Z8B rfl rfl (Z2w [0, 1, 1, 2, 3, 4] [0, 1, 1, 2, 3, 4] a1 (some ⟨b101, 0, none⟩) c1 6 (by decide) (by decide) _ _) ?_
 refine pur 2 rfl ?_
 refine Zl 104 rfl ?_ ?_ <;> intro g104
 refine pur 1 rfl ?_
 refine ZcR (out := [_]) rfl rfl rfl rfl Z0E zl3 rfl rfl rfl rfl rfl rfl (fun b106 => ?_)
 refine Sy.heap (fun w h9 => St.rows (sz := 1) (rows := Z4 [4]) (rest := []) (h9.pull b106) (by simp)) ?_
 refine Z1f rfl rfl rfl rfl Z8B rfl rfl (Z2w [4] [4] a2 (some ⟨b106, 0, none⟩) c2 1 (by decide) (by decide) _ _) ?_
 refine pur 2 rfl ?_
 refine Zl 109 rfl ?_ ?_ <;> intro g109
 refine pur 1 rfl ?_
 refine ZcR (out := [_, _]) rfl rfl rfl rfl Z0E zl3 rfl rfl rfl rfl rfl rfl (fun b111 => ?_)
 refine Sy.heap (fun w h9 => St.rows (sz := 1) (rows := Z4 [4, 5]) (rest := []) (h9.pull b111) (by simp)) ?_
 refine Z1f rfl rfl rfl rfl Z8B rfl rfl (Z2w [4, 5] [4, 5] a3 (some ⟨b111, 0, none⟩) c3 2 (by decide) (by decide) _ _) ?_
 refine pur 2 rfl ?_
 refine Zl 114 rfl ?_ ?_ <;> intro g114
 refine pur 1 rfl ?_
 refine ZcR (out := [_, _, _]) rfl rfl rfl rfl Z0E zl3 rfl rfl rfl rfl rfl rfl (fun b116 => ?_)
 refine Sy.heap (fun w h9 => St.rows (sz := 1) (rows := Z4 [0, 1, 2]) (rest := []) (h9.pull b116) (by simp)) ?_
 refine Z1f rfl rfl rfl rfl Z8B rfl rfl (Z2w [0, 1, 2] [0, 1, 2] a4 (some ⟨b116, 0, none⟩) c4 3 (by decide) (by decide) _ _) ?_
 refine pur 2 rfl ?_
 refine Zl 119 rfl ?_ ?_ <;> intro g119
 refine pur 4 rfl ?_
 refine Zl 123 rfl ?_ ?_ <;> intro g123
 refine pur 4 rfl ?_
 refine Zl 127 rfl ?_ ?_ <;> intro g127
 refine pur 1 rfl ?_
 refine spG rfl rfl rfl rfl (PE.lenSl ZC rfl) rfl ?_
 refine pur 3 rfl ?_
 refine Zl 132 rfl ?_ ?_ <;> intro g132
 refine pur 4 rfl (Z5 ?_)
 exact rtA rfl rfl rfl ⟨rfl, rfl, rfl⟩ (fun w h9 => St.sub h9)
 exact absurd g132 (by decide)
 exact absurd g127 (by decide)
 exact absurd g123 (by decide)
 exact absurd g119 (by decide)
 exact absurd g114 (by decide)
 exact absurd g109 (by decide)
 exact absurd g104 (by decide)
 exact absurd g99 (by decide)
 exact absurd g95 (by decide)
 exact absurd g91 (by decide)
 exact absurd g87 (by decide)
 exact absurd g83 (by decide)
 exact absurd g79 (by decide)
 exact absurd g75 (by decide)
 exact absurd g71 (by decide)
theorem Ze8 : apT Try.prog 23 = some (46, 2, 16) := by kernel_rfl
theorem Z34 : cal Try.prog 36 = true := by kernel_rfl
theorem ZdP : cal Try.prog 77 = true := by kernel_rfl
theorem Zds : Z0i Try.prog 70 = some 1 := by kernel_rfl
theorem Zev : elN Try.prog 22 = some 1 := by kernel_rfl
theorem Z5Z : Z2f Try.prog 72 0 = some 0 := by kernel_rfl
theorem Z32 : Z2f Try.prog 72 1 = some 1 := by kernel_rfl
theorem Z0y : Z2f Try.prog 72 2 = some 2 := by kernel_rfl
theorem Ze9 : Z9e Try.prog 70 = some .u32 := by kernel_rfl
theorem Z8R : Z69 Try.prog 22 = true := by kernel_rfl
theorem Zep : Z1g Try.prog 72 = some [(0, 1), (1, 1), (2, 1)] := by kernel_rfl
theorem ZcJ : Z2l Try.prog 22 = true := by kernel_rfl
theorem sc5 : Z2l Try.prog 5 = true := by kernel_rfl
theorem Z7y : Z2l Try.prog 70 = true := by kernel_rfl
theorem us3 : (Try.prog.underlying 3).isSome = true := by kernel_rfl
theorem us5 : (Try.prog.underlying 5).isSome = true := by kernel_rfl
theorem ZcI : (Try.prog.underlying 70).isSome = true := by kernel_rfl
theorem Zes : ZM Try.prog 72 = some ([.slice none 0 0, .int .i64 0, .int .u32 0]) := by kernel_rfl
def Z9l (x : Int) : List Value := [.int .u8 x]
def Z2O (l : List Int) : List (List Value) := l.map Z9l
theorem Z9v (g : List Int) (ag : Option Addr) (cg : Nat) (hgl : g.length ≤ 9223372036854775807) (H : Z8) (R : Z6) :
    Fn Try.prog 10 [.slice ag g.length cg] H R (fun v H' R' => ∃ bk, ∃ mx : Int, (0 ≤ mx ∧ mx ≤ 4294967295) ∧ v = .pointer (some ⟨bk, 0, none⟩) ∧ H' = (bk, cel 72 [.slice ag g.length cg, .int .i64 (0), .int .u32 (mx)]) :: H ∧ R' = R) := by
 refine Zg Try.func10 rfl Try.ntmps10 rfl ?_
 refine sqt 1 rfl (pur 1 rfl (sqt 8 rfl (pur 2 rfl (sp rfl (PE.lenSl Z8R rfl) rfl ?_))))
 refine spE rfl (PE.convU us3 Ze9 rfl) rfl ?_
 rintro _ ⟨u6, rfl, hu6⟩
 refine spE rfl (PE.xorU rfl rfl) rfl ?_
 rintro _ ⟨u7, rfl, hu7⟩
 refine sp rfl (PE.build (out := [_, _, _]) Zep Zes rfl rfl) rfl (bx rfl rfl rfl (fun b9 => pur 1 rfl (Z5 ?_)))
 exact rtA rfl rfl rfl ⟨b9, u7, hu7, rfl, rfl, rfl⟩ idH
theorem Z7u (g : List Int) (ag : Option Addr) (cg bk : Nat) (hgl : g.length ≤ 9223372036854775807) (tq mx : Int) (htq : 0 ≤ tq ∧ tq ≤ 1000000000) (hmx : 0 ≤ mx ∧ mx ≤ 4294967295) (H : Z8) (R : Z6) [hG : MemRows ag 1 (Z2O g) R] :
    Fn Try.prog 77 [.pointer (some ⟨bk, 0, none⟩)] ((bk, cel 72 [.slice ag g.length cg, .int .i64 (tq), .int .u32 (mx)]) :: H) R (fun v H' R' => ∃ x m' : Int, (0 ≤ x ∧ x ≤ 65535) ∧ v = .int .i64 x ∧ (0 ≤ m' ∧ m' ≤ 4294967295) ∧ H' = (bk, cel 72 [.slice ag g.length cg, .int .i64 (tq + 1), .int .u32 (m')]) :: H ∧ R' = R) := by
 refine Zg Try.func77 rfl Try.ntmps77 rfl ?_
 refine sqt 1 rfl (pur 1 rfl (Z1 (sqt 6 rfl (pur 1 rfl (sp rfl (PE.nilCheck rfl) rfl (sp rfl (PE.fA Z5Z rfl) rfl (spL rfl rfl (lh ZcJ rfl rfl) rfl (sp rfl (PE.lenSl Z8R rfl) rfl (pur 1 rfl (sqt 2 rfl (pur 2 rfl ?_)))))))))))
 refine Z0 rfl ?_ ?_ <;> intro hc0 <;> try simp only [cS] at hc0
 obtain ⟨y, hy⟩ : ∃ y, g[(tq % g.length).toNat]? = some y := ⟨_, List.getElem?_eq_getElem (by have := Int.emod_lt_of_pos tq hc0; have := Int.emod_nonneg tq (show (g.length : Int) ≠ 0 by omega); omega)⟩
 refine Zm (a := ag) (sz := 1) (rows := Z2O g) (by intro h0; simp [Z2O] at h0; simp [h0] at hy) (fun bgr ogr he => ?_)
 subst he
 refine Zc [0, 0, 2, 6, 14, 0, 32, 96, 224, 0, 512, 1536, 3584, 0, 15872, 32736, 65504, 131040, 262142, 524286, 1048575, 2097151, 4194303] (tks 0 4 (.ld 4 (tks 5 3 (.ld 8 (tks 9 3 (.ld 12 (tks 13 3 (.ld 16 (tks 17 5 (.big 22 .done)))))))))) Zw (by kernel_rfl) ?_
 refine Zr 2 rfl (tk rfl (PE.nilCheck rfl) rfl (tk rfl (PE.fA Z0y rfl) rfl (ld rfl rfl (lh Z7y rfl rfl) rfl (Zr 1 rfl (tk rfl (PE.nilCheck rfl) rfl (tk rfl (PE.fA Z5Z rfl) rfl (ld rfl rfl (lh ZcJ rfl rfl) rfl (Zr 1 rfl (tk rfl (PE.nilCheck rfl) rfl (tk rfl (PE.fA Z32 rfl) rfl (ld rfl rfl (lh sc3 rfl rfl) rfl (Zr 1 rfl (tk rfl (PE.rem rfl rfl (by omega)) rfl (tk rfl (PE.indexAddr Zev rfl rfl (by exact Int.emod_nonneg tq (by omega)) (by exact Int.emod_lt_of_pos tq hc0)) rfl (ld rfl rfl (lf0 (x := .int .u8 y) sc5 (by simp [Z2O, Z9l, hy]; rfl) rfl) rfl ?_)))))))))))))))
 refine tkE rfl (PE.convU us5 Ze9 rfl) rfl ?_
 rintro _ ⟨u28, rfl, hu28⟩
 refine tkE rfl (PE.xorU rfl rfl) rfl ?_
 rintro _ ⟨u29, rfl, hu29⟩
 refine tkE rfl (PE.mulU rfl rfl) rfl ?_
 rintro _ ⟨u30, rfl, hu30⟩
 refine tk rfl (PE.nilCheck rfl) rfl (tk rfl (PE.fA Z0y rfl) rfl ?_)
 refine sto rfl rfl rfl Zds rfl rfl rfl rfl ?_
 refine bgT (sqt 8 rfl (pur 1 rfl (sp rfl (PE.nilCheck rfl) rfl (sp rfl (PE.fA Z32 rfl) rfl (spL rfl rfl (lh sc3 rfl rfl) rfl (sp rfl (PE.add rfl rfl (by omega)) rfl (sp rfl (PE.nilCheck rfl) rfl (sp rfl (PE.fA Z32 rfl) rfl ?_))))))))
 refine sto rfl rfl rfl cn3 rfl rfl rfl rfl ?_
 refine Z1 (Z1 ?_)
 refine Zc [0, 1, 3, 7, 0, 16, 48, 112, 240, 511] (tks 0 3 (.ld 3 (tks 4 3 (.ld 7 (.tk 8 (.tk 9 .done)))))) Zw (by kernel_rfl) ?_
 refine Zr 1 rfl (tk rfl (PE.nilCheck rfl) rfl (tk rfl (PE.fA Z32 rfl) rfl (ld rfl rfl (lh sc3 rfl rfl) rfl (Zr 1 rfl (tk rfl (PE.nilCheck rfl) rfl (tk rfl (PE.fA Z5Z rfl) rfl (ld rfl rfl (lh ZcJ rfl rfl) rfl (tk rfl (PE.lenSl Z8R rfl) rfl (Zr 1 rfl ?_)))))))))
 refine Z0 rfl ?_ ?_ <;> intro hc1 <;> try simp only [cS] at hc1
 refine sqr 10 rfl (pur 2 rfl (sp rfl (PE.nilCheck rfl) rfl (sp rfl (PE.fA Z0y rfl) rfl (spL rfl rfl (lh Z7y rfl rfl) rfl ?_))))
 refine spE rfl (PE.mulU rfl rfl) rfl ?_
 rintro _ ⟨u55, rfl, hu55⟩
 refine spE rfl (PE.addU rfl rfl) rfl ?_
 rintro _ ⟨u56, rfl, hu56⟩
 refine sp rfl (PE.nilCheck rfl) rfl (sp rfl (PE.fA Z0y rfl) rfl ?_)
 refine sto rfl rfl rfl Zds rfl rfl rfl rfl ?_
 refine Z1 ?_
 refine Zc [0, 1, 3, 7, 0, 16, 48, 112, 240, 511, 1023, 2047, 4095, 8191] (tks 0 3 (.ld 3 (tks 4 3 (.ld 7 (tks 8 6 .done))))) Zw (by kernel_rfl) ?_
 refine Zr 1 rfl (tk rfl (PE.nilCheck rfl) rfl (tk rfl (PE.fA Z0y rfl) rfl (ld rfl rfl (lh Z7y rfl rfl) rfl (Zr 1 rfl (tk rfl (PE.nilCheck rfl) rfl (tk rfl (PE.fA Z0y rfl) rfl (ld rfl rfl (lh Z7y rfl rfl) rfl ?_)))))))
 refine tkE rfl (PE.shrU rfl rfl (by decide) (by omega) (by omega)) rfl ?_
 rintro _ ⟨u67, rfl, hu67⟩
 refine tkE rfl (PE.xorU rfl rfl) rfl ?_
 rintro _ ⟨u68, rfl, hu68⟩
 refine tkE rfl (PE.shrU rfl rfl (by decide) (by omega) (by omega)) rfl ?_
 rintro _ ⟨u69, rfl, hu69⟩
 refine tkE rfl (PE.andU rfl rfl (by decide) (by decide)) rfl ?_
 rintro _ ⟨u70, rfl, hu70⟩
 refine tk rfl (PE.conv64 ZcI ik3 rfl (by omega)) rfl (Zr 1 rfl (Z5 ?_))
 first
   | exact rtA rfl rfl rfl ⟨u70, _, hu70, rfl, hu56, rfl, rfl⟩ idH
   | exact rtA rfl rfl rfl ⟨u70, _, hu70, rfl, hu30, rfl, rfl⟩ idH
   | exact rtA rfl rfl rfl ⟨u70, _, hu70, rfl, hmx, rfl, rfl⟩ idH
 refine Z2 (Z1 ?_)
 refine Zc [0, 1, 3, 7, 0, 16, 48, 112, 240, 511, 1023, 2047, 4095, 8191] (tks 0 3 (.ld 3 (tks 4 3 (.ld 7 (tks 8 6 .done))))) Zw (by kernel_rfl) ?_
 refine Zr 1 rfl (tk rfl (PE.nilCheck rfl) rfl (tk rfl (PE.fA Z0y rfl) rfl (ld rfl rfl (lh Z7y rfl rfl) rfl (Zr 1 rfl (tk rfl (PE.nilCheck rfl) rfl (tk rfl (PE.fA Z0y rfl) rfl (ld rfl rfl (lh Z7y rfl rfl) rfl ?_)))))))
 refine tkE rfl (PE.shrU rfl rfl (by decide) (by omega) (by omega)) rfl ?_
 rintro _ ⟨u67, rfl, hu67⟩
 refine tkE rfl (PE.xorU rfl rfl) rfl ?_
 rintro _ ⟨u68, rfl, hu68⟩
 refine tkE rfl (PE.shrU rfl rfl (by decide) (by omega) (by omega)) rfl ?_
 rintro _ ⟨u69, rfl, hu69⟩
 refine tkE rfl (PE.andU rfl rfl (by decide) (by decide)) rfl ?_
 rintro _ ⟨u70, rfl, hu70⟩
 refine tk rfl (PE.conv64 ZcI ik3 rfl (by omega)) rfl (Zr 1 rfl (Z5 ?_))
 first
   | exact rtA rfl rfl rfl ⟨u70, _, hu70, rfl, hu56, rfl, rfl⟩ idH
   | exact rtA rfl rfl rfl ⟨u70, _, hu70, rfl, hu30, rfl, rfl⟩ idH
   | exact rtA rfl rfl rfl ⟨u70, _, hu70, rfl, hmx, rfl, rfl⟩ idH
 refine Z2 (sqt 8 rfl (pur 1 rfl (sp rfl (PE.nilCheck rfl) rfl (sp rfl (PE.fA Z32 rfl) rfl (spL rfl rfl (lh sc3 rfl rfl) rfl (sp rfl (PE.add rfl rfl (by omega)) rfl (sp rfl (PE.nilCheck rfl) rfl (sp rfl (PE.fA Z32 rfl) rfl ?_))))))))
 refine sto rfl rfl rfl cn3 rfl rfl rfl rfl ?_
 refine Z1 (Z1 ?_)
 refine Zc [0, 1, 3, 7, 0, 16, 48, 112, 240, 511] (tks 0 3 (.ld 3 (tks 4 3 (.ld 7 (.tk 8 (.tk 9 .done)))))) Zw (by kernel_rfl) ?_
 refine Zr 1 rfl (tk rfl (PE.nilCheck rfl) rfl (tk rfl (PE.fA Z32 rfl) rfl (ld rfl rfl (lh sc3 rfl rfl) rfl (Zr 1 rfl (tk rfl (PE.nilCheck rfl) rfl (tk rfl (PE.fA Z5Z rfl) rfl (ld rfl rfl (lh ZcJ rfl rfl) rfl (tk rfl (PE.lenSl Z8R rfl) rfl (Zr 1 rfl ?_)))))))))
 refine Z0 rfl ?_ ?_ <;> intro hc1 <;> try simp only [cS] at hc1
 refine sqr 10 rfl (pur 2 rfl (sp rfl (PE.nilCheck rfl) rfl (sp rfl (PE.fA Z0y rfl) rfl (spL rfl rfl (lh Z7y rfl rfl) rfl ?_))))
 refine spE rfl (PE.mulU rfl rfl) rfl ?_
 rintro _ ⟨u55, rfl, hu55⟩
 refine spE rfl (PE.addU rfl rfl) rfl ?_
 rintro _ ⟨u56, rfl, hu56⟩
 refine sp rfl (PE.nilCheck rfl) rfl (sp rfl (PE.fA Z0y rfl) rfl ?_)
 refine sto rfl rfl rfl Zds rfl rfl rfl rfl ?_
 refine Z1 ?_
 refine Zc [0, 1, 3, 7, 0, 16, 48, 112, 240, 511, 1023, 2047, 4095, 8191] (tks 0 3 (.ld 3 (tks 4 3 (.ld 7 (tks 8 6 .done))))) Zw (by kernel_rfl) ?_
 refine Zr 1 rfl (tk rfl (PE.nilCheck rfl) rfl (tk rfl (PE.fA Z0y rfl) rfl (ld rfl rfl (lh Z7y rfl rfl) rfl (Zr 1 rfl (tk rfl (PE.nilCheck rfl) rfl (tk rfl (PE.fA Z0y rfl) rfl (ld rfl rfl (lh Z7y rfl rfl) rfl ?_)))))))
 refine tkE rfl (PE.shrU rfl rfl (by decide) (by omega) (by omega)) rfl ?_
 rintro _ ⟨u67, rfl, hu67⟩
 refine tkE rfl (PE.xorU rfl rfl) rfl ?_
 rintro _ ⟨u68, rfl, hu68⟩
 refine tkE rfl (PE.shrU rfl rfl (by decide) (by omega) (by omega)) rfl ?_
 rintro _ ⟨u69, rfl, hu69⟩
 refine tkE rfl (PE.andU rfl rfl (by decide) (by decide)) rfl ?_
 rintro _ ⟨u70, rfl, hu70⟩
 refine tk rfl (PE.conv64 ZcI ik3 rfl (by omega)) rfl (Zr 1 rfl (Z5 ?_))
 first
   | exact rtA rfl rfl rfl ⟨u70, _, hu70, rfl, hu56, rfl, rfl⟩ idH
   | exact rtA rfl rfl rfl ⟨u70, _, hu70, rfl, hu30, rfl, rfl⟩ idH
   | exact rtA rfl rfl rfl ⟨u70, _, hu70, rfl, hmx, rfl, rfl⟩ idH
 refine Z2 (Z1 ?_)
 refine Zc [0, 1, 3, 7, 0, 16, 48, 112, 240, 511, 1023, 2047, 4095, 8191] (tks 0 3 (.ld 3 (tks 4 3 (.ld 7 (tks 8 6 .done))))) Zw (by kernel_rfl) ?_
 refine Zr 1 rfl (tk rfl (PE.nilCheck rfl) rfl (tk rfl (PE.fA Z0y rfl) rfl (ld rfl rfl (lh Z7y rfl rfl) rfl (Zr 1 rfl (tk rfl (PE.nilCheck rfl) rfl (tk rfl (PE.fA Z0y rfl) rfl (ld rfl rfl (lh Z7y rfl rfl) rfl ?_)))))))
 refine tkE rfl (PE.shrU rfl rfl (by decide) (by omega) (by omega)) rfl ?_
 rintro _ ⟨u67, rfl, hu67⟩
 refine tkE rfl (PE.xorU rfl rfl) rfl ?_
 rintro _ ⟨u68, rfl, hu68⟩
 refine tkE rfl (PE.shrU rfl rfl (by decide) (by omega) (by omega)) rfl ?_
 rintro _ ⟨u69, rfl, hu69⟩
 refine tkE rfl (PE.andU rfl rfl (by decide) (by decide)) rfl ?_
 rintro _ ⟨u70, rfl, hu70⟩
 refine tk rfl (PE.conv64 ZcI ik3 rfl (by omega)) rfl (Zr 1 rfl (Z5 ?_))
 first
   | exact rtA rfl rfl rfl ⟨u70, _, hu70, rfl, hu56, rfl, rfl⟩ idH
   | exact rtA rfl rfl rfl ⟨u70, _, hu70, rfl, hu30, rfl, rfl⟩ idH
   | exact rtA rfl rfl rfl ⟨u70, _, hu70, rfl, hmx, rfl, rfl⟩ idH
theorem Z0u (g : List Int) (ag : Option Addr) (cg bk : Nat) (hgl : g.length ≤ 9223372036854775807) (tq mx : Int) (htq : 0 ≤ tq ∧ tq ≤ 1000000000) (hmx : 0 ≤ mx ∧ mx ≤ 4294967295) (n : Int) (H : Z8) (R : Z6) [hG : MemRows ag 1 (Z2O g) R] :
    Fn Try.prog 36 [.pointer (some ⟨bk, 0, none⟩), .int .i64 n] ((bk, cel 72 [.slice ag g.length cg, .int .i64 (tq), .int .u32 (mx)]) :: H) R (fun v H' R' => ∃ x m' : Int, (0 ≤ x ∧ x < max 1 n) ∧ v = .int .i64 x ∧ (0 ≤ m' ∧ m' ≤ 4294967295) ∧ H' = (bk, cel 72 [.slice ag g.length cg, .int .i64 (tq + 1), .int .u32 (m')]) :: H ∧ R' = R) := by
 refine Zg Try.func36 rfl Try.ntmps36 rfl ?_
 refine sqt 1 rfl (pur 1 rfl (sqt 6 rfl (pur 1 rfl ?_)))
 refine cl rfl ZdP rfl rfl (Z7u g ag cg bk hgl tq mx htq hmx _ _) ?_
 rintro _ _ _ ⟨x, m', hx, rfl, hm', rfl, rfl⟩
 refine pur 1 rfl (sp rfl (PE.max rfl rfl) rfl (sp rfl (PE.rem rfl rfl (by omega)) rfl (pur 1 rfl (Z5 ?_))))
 exact rtA rfl rfl rfl ⟨_, m', ⟨Int.emod_nonneg _ (by omega), Int.emod_lt_of_pos _ (by omega)⟩, rfl, hm', rfl, rfl⟩ idH
theorem Za8 (g : List Int) (ag : Option Addr) (cg bk : Nat) (hgl : g.length ≤ 9223372036854775807) (tq mx : Int) (htq : 0 ≤ tq ∧ tq ≤ 1000000000) (hmx : 0 ≤ mx ∧ mx ≤ 4294967295) (lo hi : Int) (hb : -1000000 ≤ lo ∧ lo ≤ 1000000 ∧ -1000000 ≤ hi ∧ hi ≤ 1000000) (H : Z8) (R : Z6) [hG : MemRows ag 1 (Z2O g) R] :
    Fn Try.prog 35 [.pointer (some ⟨bk, 0, none⟩), .int .i64 lo, .int .i64 hi] ((bk, cel 72 [.slice ag g.length cg, .int .i64 (tq), .int .u32 (mx)]) :: H) R (fun v H' R' => ∃ x m' : Int, (lo ≤ x ∧ x < lo + max 1 (hi - lo + 1)) ∧ v = .int .i64 x ∧ (0 ≤ m' ∧ m' ≤ 4294967295) ∧ H' = (bk, cel 72 [.slice ag g.length cg, .int .i64 (tq + 1), .int .u32 (m')]) :: H ∧ R' = R) := by
 refine Zg Try.func35 rfl Try.ntmps35 rfl ?_
 refine sqt 1 rfl (pur 1 rfl (sqt 9 rfl (pur 4 rfl (sp rfl (PE.sub rfl rfl (by omega)) rfl (sp rfl (PE.add rfl rfl (by omega)) rfl ?_)))))
 refine cl rfl Z34 rfl rfl (Z0u g ag cg bk hgl tq mx htq hmx (hi - lo + 1) _ _) ?_
 rintro _ _ _ ⟨x, m', hx, rfl, hm', rfl, rfl⟩
 refine sp rfl (PE.add rfl rfl (by omega)) rfl (pur 1 rfl (Z5 ?_))
 exact rtA rfl rfl rfl ⟨lo + x, m', ⟨by omega, by omega⟩, rfl, hm', rfl, rfl⟩ idH
theorem Z7o (g : List Int) (ag : Option Addr) (cg bk : Nat) (hgl : g.length ≤ 9223372036854775807) (tq mx : Int) (htq : 0 ≤ tq ∧ tq ≤ 1000000000) (hmx : 0 ≤ mx ∧ mx ≤ 4294967295) (n : Int) (H : Z8) (R : Z6) [hG : MemRows ag 1 (Z2O g) R] :
    Fn Try.prog 13 [.pointer (some ⟨bk, 0, none⟩), .int .i64 n] ((bk, cel 72 [.slice ag g.length cg, .int .i64 (tq), .int .u32 (mx)]) :: H) R (fun v H' R' => ∃ (x : Bool) (m' : Int), v = .bool x ∧ (0 ≤ m' ∧ m' ≤ 4294967295) ∧ H' = (bk, cel 72 [.slice ag g.length cg, .int .i64 (tq + 1), .int .u32 (m')]) :: H ∧ R' = R) := by
 refine Zg Try.func13 rfl Try.ntmps13 rfl ?_
 refine sqt 1 rfl (pur 1 rfl (sqt 5 rfl (pur 2 rfl ?_)))
 refine cl rfl Z34 rfl rfl (Z0u g ag cg bk hgl tq mx htq hmx n _ _) ?_
 rintro _ _ _ ⟨x, m', hx, rfl, hm', rfl, rfl⟩
 refine pur 2 rfl (Z5 ?_)
 exact rtA rfl rfl rfl ⟨_, m', rfl, hm', rfl, rfl⟩ idH
theorem ZaG : cal Try.prog 13 = true := by kernel_rfl
theorem ZdQ : cal Try.prog 35 = true := by kernel_rfl
theorem Zea : Z0i Try.prog 23 = some 1 := by kernel_rfl
theorem Z6B {p q : Nat → Bool} {k : Nat} (h : ∀ j < k, p j = q j) : Z0h p k = Z0h q k := by
  unfold Z0h
  rw [List.filter_congr fun j hj => h j (List.mem_range.1 hj)]
theorem Z62 (p : Nat → Bool) (k : Nat) (b : Bool) : Z0h (fun j => bif decide (j = k) then b else p j) (k + 1) = Z0h p k ++ bif b then [(k : Int)] else [] := by
  rw [Z37, Z6B (q := p) fun j hj => by rw [decide_eq_false (show ¬ j = k by omega)]; rfl, decide_eq_true rfl]; rfl
theorem fltK_mem {p : Nat → Bool} {n : Nat} {j : Int} : j ∈ Z0h p n ↔ ∃ k : Nat, k < n ∧ p k = true ∧ j = k := by
  unfold Z0h
  rw [List.mem_map]
  constructor
  · rintro ⟨k, h1, h2⟩
    rw [List.mem_filter, List.mem_range] at h1
    exact ⟨k, h1.1, h1.2, h2.symm⟩
  · rintro ⟨k, h1, h2, rfl⟩; exact ⟨k, List.mem_filter.2 ⟨List.mem_range.2 h1, h2⟩, rfl⟩
theorem Z41 (p : Nat → Bool) (n : Nat) : (Z0h p n).Pairwise (· < ·) := (List.pairwise_lt_range.filter _).map _ fun a b h => by omega
theorem Z6r (p : Nat → Bool) (n : Nat) : (Z0h p n).Nodup := List.nodup_iff_pairwise_ne.2 ((Z41 p n).imp fun h => by omega)
theorem Z5f (p : Nat → Bool) {n : Int} (hn : 0 ≤ n) : ∀ x ∈ Z0h p n.toNat, 0 ≤ x ∧ x < n := fun x hx => by
  obtain ⟨k, h1, _, rfl⟩ := fltK_mem.1 hx; omega
theorem Z82 (p : Nat → Bool) {n : Int} (hn : 0 ≤ n) : ZT n (Z0h p n.toNat) = 0 := Z68 (Z5f p hn) (Z6r p _)
structure MadeW (h : Hse) (nb ng : Int) : Prop where
  bins : 2 ≤ h.bins ∧ h.bins ≤ nb
  gl : (h.gaps.length : Int) ≤ ng
  gaps : ∀ g ∈ h.gaps, (0 ≤ g.a ∧ g.a < h.bins) ∧ (0 ≤ g.b ∧ g.b < h.bins) ∧ g.a ≠ g.b
  none : h.sights = []
theorem MadeW.ok {h : Hse} {nb ng : Int} (hm : MadeW h nb ng) (h1 : nb ≤ 7) (h2 : ng ≤ 10) : h.ok := ⟨by have := hm.bins; omega, by have := hm.gl; omega, by rw [hm.none]; exact Nat.zero_le _, hm.gaps, by rw [hm.none]; simp⟩
def ini (f : Nat → Int) (n k : Nat) : List Int := (List.range n).map fun j => bif decide (j < k) then f j else 0
theorem ZS (f : Nat → Int) (n k : Nat) : (ini f n k).length = n := by simp [ini]
theorem Z5u {f : Nat → Int} {n k j : Nat} (hj : j < n) : na (ini f n k) j = bif decide (j < k) then f j else 0 := by
  unfold na ini
  rw [List.getD_eq_getElem?_getD, List.getElem?_map, List.getElem?_range hj]; rfl
theorem Z8m (f : Nat → Int) (n : Nat) : List.replicate n 0 = ini f n 0 := by
  apply List.ext_getElem?
  intro j
  rcases Nat.lt_or_ge j n with h | h
  · rw [Z07 (l := ini f n 0) (by rw [ZS]; exact h), Z5u h, List.getElem?_replicate, if_pos h]; rfl
  · rw [List.getElem?_eq_none (by simpa using h), List.getElem?_eq_none (by rw [ZS]; exact h)]
theorem Z6I {f : Nat → Int} {n k : Nat} (hk : k < n) {v : Int} (hv : f k = v) : (ini f n k).set k v = ini f n (k + 1) := by
  apply List.ext_getElem?
  intro j
  rcases Nat.lt_or_ge j n with hj | hj
  · rw [Z07 (l := (ini f n k).set k _) (by rw [List.length_set, ZS]; exact hj), Z07 (by rw [ZS]; exact hj), Z20 (by rw [ZS]; exact hk), Z5u hj, Z5u hj]
    by_cases e : k = j
    · subst e; rw [decide_eq_true rfl, decide_eq_true (Nat.lt_succ_self k), ← hv]; rfl
    · rw [decide_eq_false e, show decide (j < k + 1) = decide (j < k) from decide_eq_decide.2 (by omega)]; rfl
  · rw [List.getElem?_eq_none (by rw [List.length_set, ZS]; exact hj), List.getElem?_eq_none (by rw [ZS]; exact hj)]
def clP (pl : List PL) (t : Nat) : Nat := msk (Z3J pl (t + 1))
def in0 (fr : List Int) (j : Nat) : Int := bif Z02 fr j then 0 else 100
theorem Z4X {l : List Int} (h : ∀ x ∈ l, 0 ≤ x) (j : Nat) : Z02 l (j : Int) = (msk l).testBit j := by rw [Bool.eq_iff_iff, hasI_iff, Zs h]
theorem FolI.start {gs : List Gp} {cl : Nat → Nat} {fr : List Int} (h : ∀ x ∈ fr, 0 ≤ x) (n : Nat) : FolI gs cl (msk fr) n 0 (Z2B gs (cl 0) (lvp gs cl (msk fr) 0) 0) (ini (in0 fr) n n) := ⟨ZS _ _ _, fun k hk => by
  rw [Z5u hk, decide_eq_true hk, cond_true]
  unfold in0
  rw [Z4X h]
  show _ = bif (msk fr).testBit k then fol gs cl (msk fr) 0 k else bif (msk fr).testBit k then _ else 100
  cases hb : (msk fr).testBit k with
  | false => rfl
  | true =>
    rw [cond_true, cond_true]
    exact (Z5K (t := 0) (Nat.le_refl _) hb (fun i hi => absurd hi (Nat.not_lt_zero _))).symm⟩
def ZcS (s acc : Nat) (g : Gp) : Nat → Nat
  | 0 => acc
  | 1 => acc ||| (bif s.testBit g.a.toNat then 2 ^ g.b.toNat else 0)
  | _ => (acc ||| (bif s.testBit g.a.toNat then 2 ^ g.b.toNat else 0)) ||| (bif s.testBit g.b.toNat then 2 ^ g.a.toNat else 0)
def Ze3 (g : Gp) : List Value := [.int .i64 g.a, .int .i64 g.b, .int .i64 g.b, .int .i64 g.a]
theorem Z9Y {s acc n : Nat} {g : Gp} (ha : 0 ≤ g.a ∧ g.a < n) (hb : 0 ≤ g.b ∧ g.b < n) {j : Nat} (hj : j < 2) : ∃ u v : Nat, ∃ rest : List Value, u < n ∧ v < n ∧ (Ze3 g).drop (j * 2) = [.int .i64 u, .int .i64 v] ++ rest ∧ ZcS s acc g (j + 1) = ZcS s acc g j ||| (bif s.testBit u then 2 ^ v else 0) := by
  have h1 : ((g.a.toNat : Nat) : Int) = g.a := by omega
  have h2 : ((g.b.toNat : Nat) : Int) = g.b := by omega
  match j, hj with
  | 0, _ => exact ⟨g.a.toNat, g.b.toNat, [.int .i64 g.b, .int .i64 g.a], by omega, by omega, by rw [h1, h2]; rfl, rfl⟩
  | 1, _ => exact ⟨g.b.toNat, g.a.toNat, [], by omega, by omega, by rw [h1, h2]; rfl, rfl⟩
theorem Z5r {pl : List PL} {k : Nat} (h : pl.length ≤ k) : Z3J pl (k + 1) = Z3J pl k := by unfold Z3J; rw [List.take_of_length_le (by omega), List.take_of_length_le h]
theorem Z5F {pl : List PL} {k : Nat} {x : Int} (h : x ∈ Z3J pl k) : x ∈ (lls pl).flatten := by
  unfold Z3J at h
  obtain ⟨l, h1, h2⟩ := List.mem_flatten.1 h
  obtain ⟨y, h3, rfl⟩ := List.mem_map.1 h1
  exact List.mem_flatten.2 ⟨_, List.mem_map_of_mem (List.mem_of_mem_take h3), h2⟩
theorem ZbQ (l0 : List Int) (a0 : Option Addr) (c0 bk : Nat) (hgl : l0.length ≤ 9223372036854775807) (tq mx : Int) (htq : 0 ≤ tq ∧ tq ≤ 1000000) (hmx : 0 ≤ mx ∧ mx ≤ 4294967295) (nb ng : Int) (hnb : 2 ≤ nb ∧ nb ≤ 7) (hng : 0 ≤ ng ∧ ng ≤ 10) (H : Z8) (R : Z6) [hG : MemRows a0 1 (Z2O l0) R] :
    Fn Try.prog 9 [.pointer (some ⟨bk, 0, none⟩), .int .i64 nb, .int .i64 ng] ((bk, cel 72 [.slice a0 l0.length c0, .int .i64 (tq), .int .u32 (mx)]) :: H) R (fun v H' R' => ∃ (h : Hse) (p : Nat → Bool) (ag ar : Option Addr) (cg cr : Nat) (tq' mx' : Int), MadeW h nb ng ∧ h.gaps.length ≤ cg ∧ (Z0h p h.bins.toNat).length ≤ cr ∧ v = .tuple #[h.v (h.sg ag cg) (h.ss none 0), .slice ar (Z0h p h.bins.toNat).length cr] ∧ (tq ≤ tq' ∧ tq' ≤ tq + 100) ∧ (0 ≤ mx' ∧ mx' ≤ 4294967295) ∧ H' = (bk, cel 72 [.slice a0 l0.length c0, .int .i64 (tq'), .int .u32 (mx')]) :: H ∧ R' = RowsA none 3 (Zh h.sights) :: RowsA ar 1 (Z4 (Z0h p h.bins.toNat)) :: RowsA ag 2 (Zi h.gaps) :: R) := by
 refine Zg Try.func9 rfl Try.ntmps9 rfl ?_
 refine sqt 2 rfl (alc rfl Zbb rfl (fun b6 => pur 1 rfl (sqt 6 rfl (pur 2 rfl ?_))))
 refine ZA bk ?_
 refine cl rfl ZdQ rfl rfl (Za8 l0 a0 c0 bk hgl _ _ (by omega) (by assumption) (2) (nb) (by first | omega | (dsimp only; omega)) _ _) ?_
 rintro _ _ R1 ⟨x15, m15, hx15, rfl, hm15, rfl, hR1⟩
 obtain rfl := hR1.symm
 refine sp rfl (PE.build (out := htl ⟨x15, [], []⟩ (.slice none 0 0) (.slice none 0 0)) Ze4 Zbb rfl rfl) rfl (alc rfl Zbb rfl (fun b8 => ?_))
 refine sto rfl rfl rfl Zbk rfl rfl rfl rfl ?_
 refine Z1 (sqt 5 rfl ?_)
 refine ZA bk ?_
 refine pur 2 rfl (sp rfl (PE.add rfl rfl (by omega)) rfl ?_)
 refine cl rfl Z34 rfl rfl (Z0u l0 a0 c0 bk hgl _ _ (by omega) (by assumption) (ng + 1) _ _) ?_
 rintro _ _ R1 ⟨x20, m20, hx20, rfl, hm20, rfl, hR1⟩
 obtain rfl := hR1.symm
 refine pur 1 rfl (Z3 ?_)
 obtain ⟨n20, rfl⟩ : ∃ n : Nat, x20 = n := ⟨x20.toNat, by omega⟩
 refine Ze (ι := (x : {x : Nat × List Gp × Int × Int // x.1 ≤ n20 ∧ (x.2.1.length = x.1 ∧ ∀ g ∈ x.2.1, ((0 ≤ g.a ∧ g.a < x15) ∧ (0 ≤ g.b ∧ g.b < x15) ∧ g.a ≠ g.b)) ∧ (tq ≤ x.2.2.1 ∧ x.2.2.1 ≤ tq + 2 + 2 * x.1) ∧ (0 ≤ x.2.2.2 ∧ x.2.2.2 ≤ 4294967295)}) × OSl 46 2 (Zi x.1.2.1)) (fun x => ⟨[(0, .pointer (some ⟨bk, 0, none⟩)), (6, .pointer (some ⟨b6, 0, none⟩)), (8, .pointer (some ⟨b8, 0, none⟩)), (20, .int .i64 n20), (21, .int .i64 x.1.1.1)],
   (bk, cel 72 [.slice a0 l0.length c0, .int .i64 (x.1.1.2.2.1), .int .u32 (x.1.1.2.2.2)]) :: (x.2.G ++ (b8, cel 26 (htl ⟨x15, x.1.1.2.1, []⟩ x.2.fs (.slice none 0 0))) :: (b6, cel 26 [.int .i64 0, .slice none 0 0, .slice none 0 0]) :: H), R⟩) (fun x => n20 - x.1.1.1) ⟨⟨(0, [], tq + 1 + 1, m20), by omega, ⟨rfl, by simp⟩, by dsimp only; omega, by assumption⟩, OSl.nil _ _⟩ ?_ (fun x => ?_)
 exact Zn idH
 ·
  obtain ⟨⟨⟨k, l, tq2, mx2⟩, hk, ⟨hll, hlg⟩, htq2, hmx2⟩, o⟩ := x
  dsimp only at hk hll hlg htq2 hmx2 o ⊢
  refine sqt 1 rfl (pur 1 rfl (Z1 ?_))
  refine Z0 rfl ?_ ?_ <;> intro hc0 <;> try simp only [cS] at hc0
  ·
   have hrm : 0 ≤ (k : Int) % x15 ∧ (k : Int) % x15 < x15 := ⟨Int.emod_nonneg _ (by omega), Int.emod_lt_of_pos _ (by omega)⟩
   refine Z2 (Z1 (Z3 (sqt 2 rfl (pur 2 rfl (Z1 ?_)))))
   refine Zc [0, 0, 2, 7, 0, 0, 32, 112, 255, 0, 1023] (.tk 0 (.tk 1 (.ld 2 (tks 3 3 (.ld 6 (.any (.alt 7 (.tk 8 (.big 9 (.big 10 .done))) (.alt 9 (.big 7 (.tk 8 (.big 10 .done))) .stop)))))))) Zw (by kernel_rfl) ?_
   refine Zr 1 rfl (tk rfl (PE.fA Z05 rfl) rfl (ld rfl rfl (lh (v := .int .i64 x15) sc3 rfl rfl) rfl (tk rfl (PE.rem rfl rfl (by omega)) rfl (Zr 1 rfl (tk rfl (PE.fA Z05 rfl) rfl (ld rfl rfl (lh (v := .int .i64 x15) sc3 rfl rfl) rfl ?_))))))
   refine Z1e ?_ ?_
   ·
    refine ZA bk ?_
    refine cl rfl Z34 rfl rfl (Z0u l0 a0 c0 bk hgl _ _ (by omega) (by assumption) (x15) _ _) ?_
    rintro _ _ R1 ⟨x31, m31, hx31, rfl, hm31, rfl, hR1⟩
    obtain rfl := hR1.symm
    refine bg (fun w hs => ⟨trivial, (lh (v := .int .i64 x15) sc3 rfl rfl) w hs, trivial⟩) ?_
    refine tk rfl (PE.build (out := [.int .i64 ((k : Int) % x15), .int .i64 x31]) Z8d Z3o rfl rfl) rfl (alc rfl Z3o rfl (fun b10 => ?_))
    refine bg (fun w hs => ⟨(lh (v := .int .i64 x15) sc3 rfl rfl) w hs, trivial⟩) ?_
    refine sto rfl rfl rfl Z9y rfl rfl rfl rfl ?_
    refine bgT (Z1 (sqt 5 rfl (sp rfl (PE.fA ZR rfl) rfl (spL rfl rfl (lh sc3 rfl rfl) rfl (sp rfl (PE.fA ZE rfl) rfl (spL rfl rfl (lh sc3 rfl rfl) rfl (pur 1 rfl ?_)))))))
    refine Z3a (ι := {x : Int × Int // ((0 ≤ x.1 ∧ x.1 < x15) ∧ (0 ≤ x.2 ∧ x.2 < x15) ∧ x.1 ≠ x.2)}) (fun x => ⟨[(0, .pointer (some ⟨bk, 0, none⟩)), (6, .pointer (some ⟨b6, 0, none⟩)), (8, .pointer (some ⟨b8, 0, none⟩)), (10, .pointer (some ⟨b10, 0, none⟩)), (20, .int .i64 n20), (21, .int .i64 k)], (b10, cel 46 [.int .i64 (x.1.1), .int .i64 (x.1.2)]) :: (bk, cel 72 [.slice a0 l0.length c0, .int .i64 (tq2 + 1), .int .u32 (m31)]) :: (o.G ++ (b8, cel 26 (htl ⟨x15, l, []⟩ o.fs (.slice none 0 0))) :: (b6, cel 26 [.int .i64 0, .slice none 0 0, .slice none 0 0]) :: H), R⟩) ?_ ?_
    ·
     refine Z0 rfl ?_ ?_ <;> intro hc1 <;> try simp only [cS] at hc1
     ·
      have hr2 : 0 ≤ (x31 + 1) % x15 ∧ (x31 + 1) % x15 < x15 := ⟨Int.emod_nonneg _ (by omega), Int.emod_lt_of_pos _ (by omega)⟩
      have hne : (x31 + 1) % x15 ≠ x31 := by
        rcases Int.lt_or_le (x31 + 1) x15 with h9 | h9
        · rw [Int.emod_eq_of_lt (by omega) h9]; omega
        · rw [show x31 + 1 = x15 by omega, Int.emod_self]; omega
      refine sqr 8 rfl (sp rfl (PE.fA ZE rfl) rfl (spL rfl rfl (lh sc3 rfl rfl) rfl (sp rfl (PE.add rfl rfl (by omega)) rfl (sp rfl (PE.fA Z05 rfl) rfl (spL rfl rfl (lh (v := .int .i64 x15) sc3 rfl rfl) rfl (sp rfl (PE.rem rfl rfl (by omega)) rfl (sp rfl (PE.fA ZE rfl) rfl ?_)))))))
      refine ZF (l' := [.int .i64 ((k : Int) % x15), .int .i64 ((x31 + 1) % x15)]) rfl rfl rfl cn3 rfl rfl rfl rfl (nl rfl) ?_
      exact ZB ⟨((k : Int) % x15, (x31 + 1) % x15), ⟨hrm, hr2, by dsimp only; omega⟩⟩ (fun w h9 => h9.perm (by first | exact .refl _ | exact List.Perm.swap _ _ _))
     ·
      refine Z2 ?_
      exact ZB ⟨((k : Int) % x15, x31), ⟨hrm, by dsimp only; omega, by dsimp only; omega⟩⟩ (fun w h9 => h9.perm (by first | exact .refl _ | exact List.Perm.swap _ _ _))
    rintro ⟨⟨ga, gb⟩, hgo⟩
    dsimp only at hgo ⊢
    refine Z1 (sqt 2 rfl ?_)
    refine ZA bk ?_
    refine pur 1 rfl ?_
    refine cl rfl ZaG rfl rfl (Z7o l0 a0 c0 bk hgl _ _ (by omega) (by assumption) (2) _ _) ?_
    rintro _ _ R1 ⟨x46, m46, rfl, hm46, rfl, hR1⟩
    obtain rfl := hR1.symm
    refine Z3a (ι := {x : Int × Int // ((0 ≤ x.1 ∧ x.1 < x15) ∧ (0 ≤ x.2 ∧ x.2 < x15) ∧ x.1 ≠ x.2)}) (fun x => ⟨[(0, .pointer (some ⟨bk, 0, none⟩)), (6, .pointer (some ⟨b6, 0, none⟩)), (8, .pointer (some ⟨b8, 0, none⟩)), (10, .pointer (some ⟨b10, 0, none⟩)), (20, .int .i64 n20), (21, .int .i64 k)], (bk, cel 72 [.slice a0 l0.length c0, .int .i64 (tq2 + 1 + 1), .int .u32 (m46)]) :: (b10, cel 46 [.int .i64 (x.1.1), .int .i64 (x.1.2)]) :: (o.G ++ (b8, cel 26 (htl ⟨x15, l, []⟩ o.fs (.slice none 0 0))) :: (b6, cel 26 [.int .i64 0, .slice none 0 0, .slice none 0 0]) :: H), R⟩) ?_ ?_
    refine Z0 rfl ?_ ?_ <;> intro hc2
    refine sqr 8 rfl (sp rfl (PE.fA ZE rfl) rfl (spL rfl rfl (lh sc3 rfl rfl) rfl (sp rfl (PE.fA ZR rfl) rfl (spL rfl rfl (lh sc3 rfl rfl) rfl (sp rfl (PE.fA ZR rfl) rfl ?_)))))
    refine ZF (l' := [.int .i64 (gb), .int .i64 (gb)]) rfl rfl rfl cn3 rfl rfl rfl rfl (nl rfl) ?_
    refine sp rfl (PE.fA ZE rfl) rfl ?_
    refine ZF (l' := [.int .i64 (gb), .int .i64 (ga)]) rfl rfl rfl cn3 rfl rfl rfl rfl (nl rfl) ?_
    first | exact ZB ⟨(gb, ga), ⟨hgo.2.1, hgo.1, Ne.symm hgo.2.2⟩⟩ idH | exact ZB ⟨(ga, gb), hgo⟩ idH
    refine Z2 ?_
    first | exact ZB ⟨(gb, ga), ⟨hgo.2.1, hgo.1, Ne.symm hgo.2.2⟩⟩ idH | exact ZB ⟨(ga, gb), hgo⟩ idH
    rintro ⟨⟨ua, ub⟩, hgo2⟩
    dsimp only at hgo2 ⊢
    refine sqr 7 rfl (sp rfl (PE.fA Z0e rfl) rfl (spL rfl rfl (lh Z4Q rfl rfl) rfl (spL rfl rfl (lhA [.int .i64 ua, .int .i64 ub] Z5S rfl rfl rfl) rfl ?_)))
    refine bsl (out := [_, _]) rfl Zdm Z3o rfl rfl rfl rfl rfl rfl (fun b56 => ?_)
    refine apO (o) rfl Ze8 rfl rfl (Z0r (row := Z1N ⟨ua, ub⟩) rfl) rfl rfl ((by rw [Z18]; simp only [List.length_singleton]; omega)) rfl (fun o57 => ?_)
    refine sp rfl (PE.fA Z0e rfl) rfl ?_
    refine ZF (l' := htl ⟨x15, l ++ [⟨ua, ub⟩], []⟩ o57.fs (.slice none 0 0)) rfl rfl rfl Zea rfl (by rw [o57.cells.1]; first | done | rfl) (by rw [o57.cells.1]; simp [o57.cells.2]) (by rw [o57.cells.1]; first | done | rfl) (by rw [o57.cells.1]; first | done | exact Nat.le_of_ble_eq_true rfl) ?_
    refine sqr 2 rfl (sp rfl (PE.add rfl rfl (by omega)) rfl (pur 1 rfl ?_))
    exact Z7 ⟨⟨(k + 1, l ++ [⟨ua, ub⟩], tq2 + 1 + 1, m46), by dsimp only; omega, ⟨by simp [hll], fun g hg => (List.mem_append.1 hg).elim (hlg g) (fun h9 => by rw [List.mem_singleton.1 h9]; exact hgo2)⟩, by dsimp only; omega, by assumption⟩, o57.cast (by simp [Zi])⟩ (fun w h9 => ((h9.del b56).del b10).perm (by first | exact .refl _ | exact (Zj _ [_] _).symm))
   refine Z1e ?_ ?_
   ·
    refine alc rfl Z3o rfl (fun b10 => ?_)
    refine bg (fun w hs => ⟨(lh (v := .int .i64 x15) sc3 rfl rfl) w hs, (lh (v := .int .i64 x15) sc3 rfl rfl) w hs, trivial⟩) ?_
    refine ZA bk ?_
    refine cl rfl Z34 rfl rfl (Z0u l0 a0 c0 bk hgl _ _ (by omega) (by assumption) (x15) _ _) ?_
    rintro _ _ R1 ⟨x31, m31, hx31, rfl, hm31, rfl, hR1⟩
    obtain rfl := hR1.symm
    refine bg (fun w hs => ⟨trivial, (lh (v := .int .i64 x15) sc3 rfl rfl) w hs, trivial⟩) ?_
    refine tk rfl (PE.build (out := [.int .i64 ((k : Int) % x15), .int .i64 x31]) Z8d Z3o rfl rfl) rfl ?_
    refine sto rfl rfl rfl Z9y rfl rfl rfl rfl ?_
    refine bgT (Z1 (sqt 5 rfl (sp rfl (PE.fA ZR rfl) rfl (spL rfl rfl (lh sc3 rfl rfl) rfl (sp rfl (PE.fA ZE rfl) rfl (spL rfl rfl (lh sc3 rfl rfl) rfl (pur 1 rfl ?_)))))))
    refine Z3a (ι := {x : Int × Int // ((0 ≤ x.1 ∧ x.1 < x15) ∧ (0 ≤ x.2 ∧ x.2 < x15) ∧ x.1 ≠ x.2)}) (fun x => ⟨[(0, .pointer (some ⟨bk, 0, none⟩)), (6, .pointer (some ⟨b6, 0, none⟩)), (8, .pointer (some ⟨b8, 0, none⟩)), (10, .pointer (some ⟨b10, 0, none⟩)), (20, .int .i64 n20), (21, .int .i64 k)], (b10, cel 46 [.int .i64 (x.1.1), .int .i64 (x.1.2)]) :: (bk, cel 72 [.slice a0 l0.length c0, .int .i64 (tq2 + 1), .int .u32 (m31)]) :: (o.G ++ (b8, cel 26 (htl ⟨x15, l, []⟩ o.fs (.slice none 0 0))) :: (b6, cel 26 [.int .i64 0, .slice none 0 0, .slice none 0 0]) :: H), R⟩) ?_ ?_
    ·
     refine Z0 rfl ?_ ?_ <;> intro hc1 <;> try simp only [cS] at hc1
     ·
      have hr2 : 0 ≤ (x31 + 1) % x15 ∧ (x31 + 1) % x15 < x15 := ⟨Int.emod_nonneg _ (by omega), Int.emod_lt_of_pos _ (by omega)⟩
      have hne : (x31 + 1) % x15 ≠ x31 := by
        rcases Int.lt_or_le (x31 + 1) x15 with h9 | h9
        · rw [Int.emod_eq_of_lt (by omega) h9]; omega
        · rw [show x31 + 1 = x15 by omega, Int.emod_self]; omega
      refine sqr 8 rfl (sp rfl (PE.fA ZE rfl) rfl (spL rfl rfl (lh sc3 rfl rfl) rfl (sp rfl (PE.add rfl rfl (by omega)) rfl (sp rfl (PE.fA Z05 rfl) rfl (spL rfl rfl (lh (v := .int .i64 x15) sc3 rfl rfl) rfl (sp rfl (PE.rem rfl rfl (by omega)) rfl (sp rfl (PE.fA ZE rfl) rfl ?_)))))))
      refine ZF (l' := [.int .i64 ((k : Int) % x15), .int .i64 ((x31 + 1) % x15)]) rfl rfl rfl cn3 rfl rfl rfl rfl (nl rfl) ?_
      exact ZB ⟨((k : Int) % x15, (x31 + 1) % x15), ⟨hrm, hr2, by dsimp only; omega⟩⟩ (fun w h9 => h9.perm (by first | exact .refl _ | exact List.Perm.swap _ _ _))
     ·
      refine Z2 ?_
      exact ZB ⟨((k : Int) % x15, x31), ⟨hrm, by dsimp only; omega, by dsimp only; omega⟩⟩ (fun w h9 => h9.perm (by first | exact .refl _ | exact List.Perm.swap _ _ _))
    rintro ⟨⟨ga, gb⟩, hgo⟩
    dsimp only at hgo ⊢
    refine Z1 (sqt 2 rfl ?_)
    refine ZA bk ?_
    refine pur 1 rfl ?_
    refine cl rfl ZaG rfl rfl (Z7o l0 a0 c0 bk hgl _ _ (by omega) (by assumption) (2) _ _) ?_
    rintro _ _ R1 ⟨x46, m46, rfl, hm46, rfl, hR1⟩
    obtain rfl := hR1.symm
    refine Z3a (ι := {x : Int × Int // ((0 ≤ x.1 ∧ x.1 < x15) ∧ (0 ≤ x.2 ∧ x.2 < x15) ∧ x.1 ≠ x.2)}) (fun x => ⟨[(0, .pointer (some ⟨bk, 0, none⟩)), (6, .pointer (some ⟨b6, 0, none⟩)), (8, .pointer (some ⟨b8, 0, none⟩)), (10, .pointer (some ⟨b10, 0, none⟩)), (20, .int .i64 n20), (21, .int .i64 k)], (bk, cel 72 [.slice a0 l0.length c0, .int .i64 (tq2 + 1 + 1), .int .u32 (m46)]) :: (b10, cel 46 [.int .i64 (x.1.1), .int .i64 (x.1.2)]) :: (o.G ++ (b8, cel 26 (htl ⟨x15, l, []⟩ o.fs (.slice none 0 0))) :: (b6, cel 26 [.int .i64 0, .slice none 0 0, .slice none 0 0]) :: H), R⟩) ?_ ?_
    refine Z0 rfl ?_ ?_ <;> intro hc2
    refine sqr 8 rfl (sp rfl (PE.fA ZE rfl) rfl (spL rfl rfl (lh sc3 rfl rfl) rfl (sp rfl (PE.fA ZR rfl) rfl (spL rfl rfl (lh sc3 rfl rfl) rfl (sp rfl (PE.fA ZR rfl) rfl ?_)))))
    refine ZF (l' := [.int .i64 (gb), .int .i64 (gb)]) rfl rfl rfl cn3 rfl rfl rfl rfl (nl rfl) ?_
    refine sp rfl (PE.fA ZE rfl) rfl ?_
    refine ZF (l' := [.int .i64 (gb), .int .i64 (ga)]) rfl rfl rfl cn3 rfl rfl rfl rfl (nl rfl) ?_
    first | exact ZB ⟨(gb, ga), ⟨hgo.2.1, hgo.1, Ne.symm hgo.2.2⟩⟩ idH | exact ZB ⟨(ga, gb), hgo⟩ idH
    refine Z2 ?_
    first | exact ZB ⟨(gb, ga), ⟨hgo.2.1, hgo.1, Ne.symm hgo.2.2⟩⟩ idH | exact ZB ⟨(ga, gb), hgo⟩ idH
    rintro ⟨⟨ua, ub⟩, hgo2⟩
    dsimp only at hgo2 ⊢
    refine sqr 7 rfl (sp rfl (PE.fA Z0e rfl) rfl (spL rfl rfl (lh Z4Q rfl rfl) rfl (spL rfl rfl (lhA [.int .i64 ua, .int .i64 ub] Z5S rfl rfl rfl) rfl ?_)))
    refine bsl (out := [_, _]) rfl Zdm Z3o rfl rfl rfl rfl rfl rfl (fun b56 => ?_)
    refine apO (o) rfl Ze8 rfl rfl (Z0r (row := Z1N ⟨ua, ub⟩) rfl) rfl rfl ((by rw [Z18]; simp only [List.length_singleton]; omega)) rfl (fun o57 => ?_)
    refine sp rfl (PE.fA Z0e rfl) rfl ?_
    refine ZF (l' := htl ⟨x15, l ++ [⟨ua, ub⟩], []⟩ o57.fs (.slice none 0 0)) rfl rfl rfl Zea rfl (by rw [o57.cells.1]; first | done | rfl) (by rw [o57.cells.1]; simp [o57.cells.2]) (by rw [o57.cells.1]; first | done | rfl) (by rw [o57.cells.1]; first | done | exact Nat.le_of_ble_eq_true rfl) ?_
    refine sqr 2 rfl (sp rfl (PE.add rfl rfl (by omega)) rfl (pur 1 rfl ?_))
    exact Z7 ⟨⟨(k + 1, l ++ [⟨ua, ub⟩], tq2 + 1 + 1, m46), by dsimp only; omega, ⟨by simp [hll], fun g hg => (List.mem_append.1 hg).elim (hlg g) (fun h9 => by rw [List.mem_singleton.1 h9]; exact hgo2)⟩, by dsimp only; omega, by assumption⟩, o57.cast (by simp [Zi])⟩ (fun w h9 => ((h9.del b56).del b10).perm (by first | exact .refl _ | exact (Zj _ [_] _).symm))
   exact Z26
  obtain rfl : k = n20 := by omega
  obtain ⟨ag, cg, he, hcg, hf⟩ := o.freezeC
  rw [Z18] at hcg
  rw [he, Z18]
  refine ZA bk ?_
  refine Sy.heap (H' := _) (fun w h9 => hf (h9.perm (List.perm_middle (l₁ := o.G) (a := _)).symm)) ?_
  clear he hf
  obtain ⟨B, rfl⟩ : ∃ B : Nat, x15 = B := ⟨x15.toNat, by omega⟩
  refine Z9 (Za (Za (Zo (sqt 1 rfl (pur 1 rfl (Z1 (sqt 3 rfl (sp rfl (PE.fA Z05 rfl) rfl (spL rfl rfl (lh sc3 rfl rfl) rfl (pur 1 rfl (Z3 ?_)))))))))))
  refine Ze (ι := (x : {x : Nat × (Nat → Bool) × Int × Int // x.1 ≤ B ∧ (tq ≤ x.2.2.1 ∧ x.2.2.1 ≤ tq + 40 + x.1) ∧ (0 ≤ x.2.2.2 ∧ x.2.2.2 ≤ 4294967295)}) × OSl 3 1 (Z4 (Z0h x.1.2.1 x.1.1))) (fun x => ⟨[(0, .pointer (some ⟨bk, 0, none⟩)), (6, .pointer (some ⟨b6, 0, none⟩)), (8, .pointer (some ⟨b8, 0, none⟩)), (11, x.2.fs), (61, .int .i64 B), (62, .int .i64 x.1.1.1)],
    (bk, cel 72 [.slice a0 l0.length c0, .int .i64 (x.1.1.2.2.1), .int .u32 (x.1.1.2.2.2)]) :: (x.2.G ++ (b8, cel 26 (htl ⟨B, l, []⟩ (.slice ag l.length cg) (.slice none 0 0))) :: (b6, cel 26 [.int .i64 0, .slice none 0 0, .slice none 0 0]) :: H), RowsA ag 2 (Zi l) :: R⟩) (fun x => B - x.1.1.1) ⟨⟨(0, fun _ => false, tq2, mx2), by omega, by dsimp only; omega, by assumption⟩, OSl.nil _ _⟩ ?_ (fun x => ?_)
  exact Zn idH
  obtain ⟨⟨⟨i, p, tq3, mx3⟩, hi, htq3, hmx3⟩, o2⟩ := x
  dsimp only at hi htq3 hmx3 o2 ⊢
  have hfl := Z0a p i
  refine sqt 1 rfl (pur 1 rfl (Z1 ?_))
  refine Z0 rfl ?_ ?_ <;> intro hc3 <;> try simp only [cS] at hc3
  refine Z2 (Z1 (Z3 (sqt 2 rfl (pur 2 rfl (sqt 2 rfl ?_)))))
  refine ZA bk ?_
  refine pur 1 rfl ?_
  refine cl rfl ZaG rfl rfl (Z7o l0 a0 c0 bk hgl _ _ (by omega) (by assumption) (3) _ _) ?_
  rintro _ _ R1 ⟨x66, m66, rfl, hm66, rfl, hR1⟩
  obtain rfl := hR1.symm
  refine Z0 rfl ?_ ?_ <;> intro hc4 <;> try simp only [cS] at hc4
  refine sqr 5 rfl (pur 2 rfl ?_)
  refine bsl (out := [_]) rfl Z0E zl3 rfl rfl rfl rfl rfl rfl (fun b69 => ?_)
  refine apO (o2) rfl Z3l rfl rfl (Z0r (row := [.int .i64 i]) rfl) rfl rfl ((by rw [irl]; simp only [List.length_singleton]; omega)) rfl (fun o70 => ?_)
  refine pur 1 rfl (sqr 2 rfl (sp rfl (PE.add rfl rfl (by omega)) rfl (pur 1 rfl ?_)))
  have hput := Z62 p i true
  exact Z7 ⟨⟨(i + 1, fun j => bif decide (j = i) then true else p j, tq3 + 1, m66), by dsimp only; omega, by dsimp only; omega, by assumption⟩, o70.cast (by rw [hput]; simp [Z4])⟩ (fun w h9 => (h9.del b69).perm (by first | exact .refl _ | exact (Zj _ [_] _).symm))
  refine Z2 (sqr 2 rfl (sp rfl (PE.add rfl rfl (by omega)) rfl (pur 1 rfl ?_)))
  have hput := Z62 p i false
  exact Z7 ⟨⟨(i + 1, fun j => bif decide (j = i) then false else p j, tq3 + 1, m66), by dsimp only; omega, by dsimp only; omega, by assumption⟩, o2.cast (by rw [hput]; simp [Z4])⟩ idH
  obtain rfl : i = B := by omega
  obtain ⟨ar, cr, he, hcr, hf⟩ := o2.freezeC
  rw [irl] at hcr
  rw [he, irl]
  refine ZA bk ?_
  refine Sy.heap (H' := _) (fun w h9 => hf (h9.perm (List.perm_middle (l₁ := o2.G) (a := _)).symm)) ?_
  clear he hf
  refine Z9 (Za (Za (Zo (sqt 4 rfl (spL rfl rfl (lhA (htl ⟨(i : Int), l, []⟩ (.slice ag l.length cg) (.slice none 0 0)) Z0g rfl rfl rfl) rfl (pur 1 rfl ?_))))))
  refine ZF (l' := htl ⟨(i : Int), l, []⟩ (.slice ag l.length cg) (.slice none 0 0)) rfl rfl rfl Zbk rfl rfl rfl rfl (Nat.le_refl _) ?_
  refine pur 1 rfl (Z5 ?_)
  exact Zp (vs := [_, _]) rfl (.cons (RV.cell rfl (lhA [_, _, _] Z0g rfl rfl rfl)) (.cons (RV.tmp rfl) .nil)) rfl ⟨⟨(i : Int), l, []⟩, p, ag, ar, cg, cr, tq3, mx3, ⟨by dsimp only; omega, by dsimp only; omega, hlg, rfl⟩, hcg, hcr, rfl, by omega, by assumption, rfl, rfl⟩ (fun w h9 => St.norows ((h9.del b8).del b6))
theorem Zeo : Z4i Try.prog 93 = some 2 := by kernel_rfl
theorem Zbi : arN Try.prog 93 = some (2, 1) := by kernel_rfl
theorem Zeg : Z0i Try.prog 93 = some 2 := by kernel_rfl
theorem ZeB : elN Try.prog 94 = some 2 := by kernel_rfl
theorem ZdM : Z69 Try.prog 94 = true := by kernel_rfl
theorem Zeu : slE Try.prog 94 = some (93, 2) := by kernel_rfl
theorem ZcM : ZM Try.prog 93 = some ([.int .i64 0, .int .i64 0]) := by kernel_rfl
theorem FnV.lendO {P : Program} {f : FuncId} {v : Value} {e sz : Nat} {rows : List (List Value)} (o : OSl e sz rows) (mk : Value → List Value) {T : Z8} {R : Z6}
    (h : ∀ (a : Option Addr) (c : Nat) (B : World → Prop), FnV P f (mk (.slice a rows.length c)) T (RowsA a sz rows :: B :: R) v) : FnV P f (mk o.fs) (o.G ++ T) R v := fun w hw => by
  obtain ⟨fs, G, hl, his⟩ := o
  rcases his with ⟨rfl, rfl, rfl⟩ | ⟨b, cap, junk, rfl, rfl, h1, h2, h3⟩
  · have h3 : St T (RowsA none sz [] :: (fun _ => True) :: R) w := St.also (St.also hw (f := fun _ => True) (fun _ _ => trivial)) (fun w' _ i row hi => by simp at hi)
    refine CallsIn.mono (h none 0 _ w h3) ?_
    rintro e' w' ⟨u, H', R', ⟨rfl, rfl, rfl⟩, he, hs'⟩
    exact ⟨_, _, R, ⟨rfl, rfl, rfl⟩, he, hs'.ftail.ftail⟩
  · exact FnV.lend (H := (b, cel e (rows.flatten ++ junk)) :: T) (b := b) (e := e) (sz := sz) (rows := rows) (junk := junk) hl (fun B => h _ cap B) w hw
set_option maxHeartbeats 1000000 in
theorem Z4a (h : Hse) (ag as_ : Option Addr) (cg cs : Nat) (hok : h.ok) (fr : List Int) (af : Option Addr) (cf : Nat) (hfl0 : fr.length ≤ 1000000) (hfr : ∀ x ∈ fr, 0 ≤ x) (pl : List PL) (ap : Option Addr) (cp : Nat) (hpl : pl.length ≤ 1000000) (hpt : (lls pl).flatten.length ≤ 1000000) (hpx : ∀ x ∈ (lls pl).flatten, 0 ≤ x) (H : Z8) (R : Z6) [hG : MemRows ag 2 (Zi h.gaps) R] [hF : MemRows af 1 (Z4 fr) R] [hP : MemRows ap 1 (ZG pl) R] [hI : MemF (Inn pl) R] :
    Fn Try.prog 19 [h.v (h.sg ag cg) (h.ss as_ cs), .slice af fr.length cf, .slice ap pl.length cp] H R (fun v H' R' => ∃ (a : Option Addr) (c : Nat), v = .slice a h.bins.toNat c ∧ H' = H ∧ R' = RowsA a 1 (Z4 (Z1x h.gaps (clP pl) (msk fr) h.bins.toNat)) :: R) := by
 refine Zg Try.func19 rfl Try.ntmps19 rfl ?_
 refine sqt 2 rfl ?_
 have hbn := hok.bins
 have hgn := hok.gl
 obtain ⟨B, hB⟩ : ∃ B : Nat, h.bins = B := ⟨h.bins.toNat, by omega⟩
 rw [show h.bins.toNat = B by omega]
 refine bx rfl rfl rfl (fun b3 => pur 1 rfl (sqt 4 rfl (sp rfl (PE.fA Z05 rfl) rfl (spL rfl rfl (lh (v := .int .i64 h.bins) sc3 rfl rfl) rfl ?_))))
 rw [hB]
 refine mkS rfl Z3l zl3 rfl rfl (Nat.le_refl _) ⟨by omega, by omega⟩ rfl (fun b17 => ?_)
 rw [ZdH, Z8m (in0 fr)]
 refine pur 1 rfl (Z1 (sqt 3 rfl (pur 1 rfl (sp rfl (PE.lenSl ZC rfl) rfl (pur 1 rfl (Z3 ?_))))))
 refine Ze (ι := {k : Nat // k ≤ B}) (fun x => ⟨[(0, h.v (h.sg ag cg) (h.ss as_ cs)), (1, .slice af fr.length cf), (2, .slice ap pl.length cp), (3, .pointer (some ⟨b3, 0, none⟩)), (7, .slice (some ⟨b17, 0, none⟩) B B), (19, .int .i64 B), (20, .int .i64 x.1)], (b17, cel 3 (Zq (ini (in0 fr) B x.1))) :: (b3, cel 26 (htl h (h.sg ag cg) (h.ss as_ cs))) :: H, R⟩) (fun x => B - x.1) ⟨0, by omega⟩ ?_ (fun x => ?_)
 exact Zn idH
 obtain ⟨k, hk⟩ := x
 dsimp only at hk ⊢
 refine sqt 1 rfl (pur 1 rfl (Z1 ?_))
 refine Z0 rfl ?_ ?_ <;> intro hc0 <;> try simp only [cS] at hc0
 refine Z2 (Z1 (Z3 (sqt 2 rfl (pur 2 rfl (sqt 4 rfl (pur 2 rfl (sp rfl (PE.indexAddr Z1c rfl rfl (by omega) (by omega)) rfl ?_)))))))
 refine ZF (l' := Zq ((ini (in0 fr) B k).set k 100)) rfl rfl rfl cn3 rfl rfl rfl (Z1q (by rw [ZS]; omega) (by show 0 + ((k : Nat) : Int).toNat * 1 = k; omega)) (by rw [Zf]; (first | rw [ZS] | rw [List.length_set, ZS] | rw [hfl]); show 0 + ((k : Nat) : Int).toNat * 1 + 1 ≤ _; omega) ?_
 refine sqt 3 rfl (pur 2 rfl ?_)
 refine clV rfl ZJ rfl rfl (Zx fr af cf (k : Int) (by omega) _ _) ?_
 refine Z0 rfl ?_ ?_ <;> intro hc1 <;> try simp only [cS] at hc1
 refine sqr 4 rfl (pur 2 rfl (sp rfl (PE.indexAddr Z1c rfl rfl (by omega) (by omega)) rfl ?_))
 refine ZF (l' := Zq (((ini (in0 fr) B k).set k 100).set k 0)) rfl rfl rfl cn3 rfl rfl rfl (Z1q (by rw [List.length_set, ZS]; omega) (by show 0 + ((k : Nat) : Int).toNat * 1 = k; omega)) (by rw [Zf]; (first | rw [ZS] | rw [List.length_set, ZS] | rw [hfl]); show 0 + ((k : Nat) : Int).toNat * 1 + 1 ≤ _; omega) ?_
 refine sqr 2 rfl (sp rfl (PE.add rfl rfl (by omega)) rfl (pur 1 rfl ?_))
 rw [Z5y, Z6I (k := k) (by omega) (by unfold in0; rw [show Z02 fr (k : Int) = _ from hc1]; rfl)]
 exact Z7 ⟨k + 1, by omega⟩ idH
 refine Z2 (sqr 2 rfl (sp rfl (PE.add rfl rfl (by omega)) rfl (pur 1 rfl ?_)))
 rw [Z6I (k := k) (by omega) (by unfold in0; rw [show Z02 fr (k : Int) = _ from hc1]; rfl)]
 exact Z7 ⟨k + 1, by omega⟩ idH
 obtain rfl : k = B := by omega
 have hst := FolI.start (gs := h.gaps) (cl := (clP pl)) hfr k
 refine Z9 (Za (Za (Zo (sqt 1 rfl (pur 1 rfl (Z1 (sqt 1 rfl (pur 1 rfl (Z3 ?_)))))))))
 refine Ze (ι := (x : {x : Nat × List Int // x.1 ≤ 20 ∧ FolI h.gaps (clP pl) (msk fr) k x.1 (Z2B h.gaps ((clP pl) x.1) (lvp h.gaps (clP pl) (msk fr) x.1) 0) x.2}) × OSl 3 1 (Z4 (Z3J pl x.1.1))) (fun x => ⟨[(0, h.v (h.sg ag cg) (h.ss as_ cs)), (1, .slice af fr.length cf), (2, .slice ap pl.length cp), (3, .pointer (some ⟨b3, 0, none⟩)), (7, .slice (some ⟨b17, 0, none⟩) k k), (9, x.2.fs), (33, .int .i64 x.1.1.1)], x.2.G ++ ((b17, cel 3 (Zq (x.1.1.2))) :: (b3, cel 26 (htl h (h.sg ag cg) (h.ss as_ cs))) :: H), R⟩) (fun x => 20 - x.1.1.1) ⟨⟨(0, ini (in0 fr) k k), by omega, hst⟩, OSl.nil _ _⟩ ?_ (fun x => ?_)
 exact Zn idH
 obtain ⟨⟨⟨w, o⟩, hw, hfo⟩, oc⟩ := x
 dsimp only at hw hfo oc ⊢
 have hcl := Z24 pl w
 have hcl2 := Z24 pl (w + 1)
 refine sqt 1 rfl (pur 1 rfl (Z1 ?_))
 refine Z0 rfl ?_ ?_ <;> intro hc2 <;> try simp only [cS] at hc2
 refine Z2 (Z1 (Z3 (sqt 2 rfl (pur 2 rfl (Z1 (sqt 4 rfl (pur 2 rfl (sp rfl (PE.lenSl Z6C rfl) rfl (pur 1 rfl ?_)))))))))
 refine Z3a (ι := OSl 3 1 (Z4 (Z3J pl (w + 1)))) (fun oc => ⟨[(0, h.v (h.sg ag cg) (h.ss as_ cs)), (1, .slice af fr.length cf), (2, .slice ap pl.length cp), (3, .pointer (some ⟨b3, 0, none⟩)), (7, .slice (some ⟨b17, 0, none⟩) k k), (9, oc.fs), (10, .int .i64 w), (33, .int .i64 w)], oc.G ++ ((b17, cel 3 (Zq (o))) :: (b3, cel 26 (htl h (h.sg ag cg) (h.ss as_ cs))) :: H), R⟩) ?_ ?_
 refine Z0 rfl ?_ ?_ <;> intro hc3 <;> try simp only [cS] at hc3
 obtain ⟨x, hx⟩ : ∃ x, pl[w]? = some x := ⟨_, List.getElem?_eq_getElem (by omega)⟩
 have hst := Z2H hx
 have hsl := congrArg List.length hst
 rw [List.length_append] at hsl
 refine Zm (a := ap) (sz := 1) (rows := ZG pl) (ne0 (by rw [Z0n]; omega)) (fun ba oa he => ?_)
 subst he
 refine Sy.heap (fun w h9 => St.inn (x := x) h9 (List.mem_of_getElem? hx)) ?_
 refine sqr 7 rfl (pur 3 rfl (sp rfl (PE.indexAddr Zc8 rfl rfl (by omega) (by omega)) rfl (spL rfl rfl (lf0 Z2j (Z6M hx) rfl) rfl ?_)))
 refine apO (news := Z4 x.l) oc rfl Z3l rfl rfl (Z8s) (irl _) (by simp [Z0b, Z4, Value.oneCell']) (by rw [irl, irl]; omega) rfl (fun o45 => ?_)
 refine pur 1 rfl ?_
 first | exact ZB (o45.cast (by rw [hst]; simp [Z4])) (fun w h9 => h9.ftail) | exact ZB (oc.cast (by rw [Z5r (by omega)])) idH
 refine Z2 ?_
 first | exact ZB (o45.cast (by rw [hst]; simp [Z4])) (fun w h9 => h9.ftail) | exact ZB (oc.cast (by rw [Z5r (by omega)])) idH
 intro oc
 dsimp only
 refine sqt 4 rfl (sp rfl (PE.fA Z0e rfl) rfl (spL rfl rfl (lh Z4Q rfl rfl) rfl (sp rfl (PE.lenSl Z4H rfl) rfl (pur 1 rfl (Z3 ?_)))))
 refine Ze (ι := {x : Nat × List Int // x.1 ≤ h.gaps.length ∧ FolI h.gaps (clP pl) (msk fr) k w (Z2B h.gaps ((clP pl) w) (lvp h.gaps (clP pl) (msk fr) w) (x.1)) x.2}) (fun x => ⟨[(0, h.v (h.sg ag cg) (h.ss as_ cs)), (1, .slice af fr.length cf), (2, .slice ap pl.length cp), (3, .pointer (some ⟨b3, 0, none⟩)), (7, .slice (some ⟨b17, 0, none⟩) k k), (9, oc.fs), (10, .int .i64 w), (33, .int .i64 w), (47, h.sg ag cg), (48, .int .i64 h.gaps.length), (49, .int .i64 x.1.1)], oc.G ++ ((b17, cel 3 (Zq (x.1.2))) :: (b3, cel 26 (htl h (h.sg ag cg) (h.ss as_ cs))) :: H), R⟩) (fun x => h.gaps.length - x.1.1) ⟨(0, o), by omega, hfo⟩ ?_ (fun x => ?_)
 exact Zn idH
 obtain ⟨⟨i, o⟩, hi, hfo⟩ := x
 dsimp only at hi hfo ⊢
 refine sqt 1 rfl (pur 1 rfl (Z1 ?_))
 refine Z0 rfl ?_ ?_ <;> intro hc4 <;> try simp only [cS] at hc4
 obtain ⟨gg, hg⟩ : ∃ g, h.gaps[i]? = some g := ⟨_, List.getElem?_eq_getElem (by omega)⟩
 have hgo := hok.gaps gg (List.mem_of_getElem? hg)
 refine Zm (a := ag) (sz := 2) (rows := Zi h.gaps) (ne0 (by rw [Z18]; omega)) (fun ba oa he => ?_)
 subst he
 refine Z2 (Z1 (Z3 (sqt 6 rfl (pur 1 rfl (sp rfl (PE.indexAddr Z8f rfl rfl (by omega) (by omega)) rfl (spL rfl rfl (lfA Z5S (row := Z1N gg) (Z1G hg) rfl) rfl (alc rfl Z3o rfl (fun b12 => pur 1 rfl ?_))))))))
 refine ZF (l' := Z1N gg) rfl rfl rfl Z9y rfl rfl rfl rfl (nl rfl) ?_
 refine Z1 (sqt 3 rfl (pur 2 rfl ?_))
 refine Sy.heap (H' := oc.G ++ ((b12, cel 46 (Z1N gg)) :: _)) (fun w h9 => h9.perm (Zj [_] _ _)) ?_
 refine clV rfl ZJ rfl rfl (FnV.lendO oc (fun v => [v, .int .i64 i]) (fun a5 c5 _ => by rw [irl]; exact Zx (Z3J pl (w + 1)) a5 c5 (i : Int) (by omega) _ _)) ?_
 refine Z0 rfl ?_ ?_ <;> intro hc5 <;> try simp only [cS] at hc5
 have hcb : (clP pl w).testBit i = true := by unfold clP; rw [← Z4X (fun x hx => hpx x (Z5F hx))]; exact hc5
 refine Z9 (Za (Zo (sqr 2 rfl (sp rfl (PE.add rfl rfl (by omega)) rfl (pur 1 rfl ?_)))))
 exact Z7 ⟨(i + 1, o), by dsimp only; omega, hfo.shut hcb⟩ (fun w h9 => h9.del b12)
 have hcb : (clP pl w).testBit i = false := by unfold clP; rw [← Z4X (fun x hx => hpx x (Z5F hx))]; exact hc5
 refine Z2 (sqt 13 rfl (sp rfl (PE.fA ZR rfl) rfl (spL rfl rfl (lh sc3 rfl rfl) rfl (sp rfl (PE.fA ZE rfl) rfl (spL rfl rfl (lh sc3 rfl rfl) rfl (sp rfl (PE.buildArr (out := [_, _]) Zbi ZcM rfl rfl) rfl (sp rfl (PE.fA ZE rfl) rfl (spL rfl rfl (lh sc3 rfl rfl) rfl (sp rfl (PE.fA ZR rfl) rfl (spL rfl rfl (lh sc3 rfl rfl) rfl (sp rfl (PE.buildArr (out := [_, _]) Zbi ZcM rfl rfl) rfl ?_)))))))))))
 refine bsl (out := [_, _, _, _]) rfl Zeu ZcM rfl rfl rfl rfl rfl rfl (fun b67 => ?_)
 refine sp rfl (PE.lenSl ZdM rfl) rfl (pur 1 rfl (Z3 ?_))
 refine Ze (ι := {x : Nat × List Int // x.1 ≤ 2 ∧ FolI h.gaps (clP pl) (msk fr) k w (ZcS (lvp h.gaps (clP pl) (msk fr) w) (Z2B h.gaps ((clP pl) w) (lvp h.gaps (clP pl) (msk fr) w) (i)) gg x.1) x.2}) (fun x => ⟨[(0, h.v (h.sg (some ⟨ba, oa, none⟩) cg) (h.ss as_ cs)), (1, .slice af fr.length cf), (2, .slice ap pl.length cp), (3, .pointer (some ⟨b3, 0, none⟩)), (7, .slice (some ⟨b17, 0, none⟩) k k), (9, oc.fs), (10, .int .i64 w), (33, .int .i64 w), (47, h.sg (some ⟨ba, oa, none⟩) cg), (48, .int .i64 h.gaps.length), (49, .int .i64 i), (67, .slice (some ⟨b67, 0, none⟩) 2 2), (68, .int .i64 2), (69, .int .i64 x.1.1)], (b67, cel 93 (Ze3 gg)) :: (oc.G ++ ((b12, cel 46 (Z1N gg)) :: (b17, cel 3 (Zq (x.1.2))) :: (b3, cel 26 (htl h (h.sg (some ⟨ba, oa, none⟩) cg) (h.ss as_ cs))) :: H)), R⟩) (fun x => 2 - x.1.1) ⟨(0, o), by omega, hfo⟩ ?_ (fun x => ?_)
 exact Zn idH
 obtain ⟨⟨j, o⟩, hj, hfo⟩ := x
 dsimp only at hj hfo ⊢
 have hfl := hfo.len
 refine sqt 1 rfl (pur 1 rfl (Z1 ?_))
 refine Z0 rfl ?_ ?_ <;> intro hc6 <;> try simp only [cS] at hc6
 obtain ⟨u, v, rest, hu, hv, hdr, hacc⟩ := Z9Y (s := (lvp h.gaps (clP pl) (msk fr) w)) (acc := (Z2B h.gaps ((clP pl) w) (lvp h.gaps (clP pl) (msk fr) w) (i))) (n := k) (show 0 ≤ gg.a ∧ gg.a < (k : Int) by omega) (show 0 ≤ gg.b ∧ gg.b < (k : Int) by omega) (show j < 2 by omega)
 have hbu := hfo.bd (by omega) hu
 have hbv := hfo.bd (by omega) hv
 refine Z2 (Z1 (Z3 (sqt 4 rfl (sp rfl (PE.indexAddr ZeB rfl rfl (by omega) (by omega)) rfl (spL rfl rfl (lhA [.int .i64 (u : Int), .int .i64 (v : Int)] Zeo rfl (rest := rest) (by rw [← hdr]; congr 1; show 0 + ((j : Nat) : Int).toNat * 2 = j * 2; omega) rfl) rfl (alc rfl ZcM rfl (fun b14 => ?_)))))))
 refine ZF (l' := [.int .i64 (u : Int), .int .i64 (v : Int)]) rfl rfl rfl Zeg rfl rfl rfl rfl (nl rfl) ?_
 refine sqt 16 rfl (pur 1 rfl (sp rfl (PE.indexArr Zbi rfl rfl (by omega) (by omega)) rfl (spL rfl rfl (lh sc3 rfl rfl) rfl (sp rfl (PE.indexAddr Z1c rfl rfl (by omega) (by omega)) rfl (spL rfl rfl (lh sc3 rfl (Z0B (w := o) (k := u) (by omega) (by show 0 + ((u : Nat) : Int).toNat * 1 = u; omega))) rfl (pur 3 rfl ?_))))))
 refine Zl 80 rfl ?_ ?_ <;> intro g80
 simp only [decide_eq_true_eq] at g80
 refine pur 1 rfl ?_
 refine spG rfl rfl rfl rfl (PE.indexArr Zbi rfl rfl (by omega) (by omega)) rfl ?_
 refine Z2o rfl rfl rfl rfl rfl (lh sc3 rfl rfl) rfl ?_
 refine spG rfl rfl rfl rfl (PE.indexAddr Z1c rfl rfl (by omega) (by omega)) rfl ?_
 refine Z2o rfl rfl rfl rfl rfl (lh sc3 rfl (Z0B (w := o) (k := v) (by omega) (by show 0 + ((v : Nat) : Int).toNat * 1 = v; omega))) rfl (pur 3 rfl ?_)
 refine Z0 rfl ?_ ?_ <;> intro hc7 <;> try simp only [cS] at hc7
 refine Zc [0, 0, 2, 0, 0, 16, 56, 120, 0, 256, 1016, 2047, 4095] (.tk 0 (.tk 1 (.ld 2 (.tk 3 (.tk 4 (.ld 5 (.tk 6 (.ld 7 (tks 8 4 (.big 12 .done)))))))))) Zw (by kernel_rfl) ?_
 refine Zr 1 rfl (tk rfl (PE.indexArr Zbi rfl rfl (by omega) (by omega)) rfl (ld rfl rfl (lh sc3 rfl rfl) rfl (Zr 1 rfl (tk rfl (PE.indexArr Zbi rfl rfl (by omega) (by omega)) rfl (ld rfl rfl (lh sc3 rfl rfl) rfl (tk rfl (PE.indexAddr Z1c rfl rfl (by omega) (by omega)) rfl (ld rfl rfl (lh sc3 rfl (Z0B (w := o) (k := v) (by omega) (by show 0 + ((v : Nat) : Int).toNat * 1 = v; omega))) rfl (Zr 1 rfl (tk rfl (PE.add rfl rfl (by omega)) rfl (tk rfl (PE.min rfl rfl) rfl (tk rfl (PE.indexAddr Z1c rfl rfl (by omega) (by omega)) rfl ?_)))))))))))
 refine ZF (l' := Zq (o.set v (min (na o v) ((w : Int) + 1)))) rfl rfl rfl cn3 rfl rfl rfl (Z1q (by omega) (by show 0 + ((v : Nat) : Int).toNat * 1 = v; omega)) (by rw [Zf]; (first | rw [ZS] | rw [List.length_set, ZS] | rw [hfl]); show 0 + ((v : Nat) : Int).toNat * 1 + 1 ≤ _; omega) ?_
 refine bgT (sqr 2 rfl (sp rfl (PE.add rfl rfl (by omega)) rfl (pur 1 rfl ?_)))
 exact Z7 ⟨(j + 1, o.set v (min (na o v) ((w : Int) + 1))), by dsimp only; omega, by dsimp only; rw [hacc]; exact hfo.way (by omega) hu hv (by omega) (by omega)⟩ (fun w h9 => h9.del b14)
 refine Z2 (sqr 2 rfl (sp rfl (PE.add rfl rfl (by omega)) rfl (pur 1 rfl ?_)))
 exact Z7 ⟨(j + 1, o), by dsimp only; omega, by dsimp only; rw [hacc]; exact hfo.same (by omega) hu hv (fun h9 => by omega)⟩ (fun w h9 => h9.del b14)
 simp only [decide_eq_false_iff_not] at g80
 refine pur 8 rfl ?_
 refine Zv rfl ?_
 refine Z2 (sqr 2 rfl (sp rfl (PE.add rfl rfl (by omega)) rfl (pur 1 rfl ?_)))
 exact Z7 ⟨(j + 1, o), by dsimp only; omega, by dsimp only; rw [hacc]; exact hfo.same (by omega) hu hv (fun h9 => by omega)⟩ (fun w h9 => h9.del b14)
 obtain rfl : j = 2 := by omega
 refine Z9 (Za (Za (Zo (sqr 2 rfl (sp rfl (PE.add rfl rfl (by omega)) rfl (pur 1 rfl ?_))))))
 exact Z7 ⟨(i + 1, o), by dsimp only; omega, hfo.gap hg hcb⟩ (fun w h9 => (h9.del b67).del b12)
 obtain rfl : i = h.gaps.length := by omega
 have hwk := hfo.week
 refine Z9 (Za (Za (Zo (sqr 2 rfl (sp rfl (PE.add rfl rfl (by omega)) rfl (pur 1 rfl ?_))))))
 exact Z7 ⟨⟨(w + 1, o), by dsimp only; omega, hwk⟩, oc⟩ idH
 obtain rfl : w = 20 := by omega
 obtain rfl := hfo.done rfl
 refine Sy.heap (H' := _ :: (oc.G ++ _)) (fun w h9 => h9.perm (List.perm_middle (l₁ := oc.G) (a := _))) ?_
 refine Sy.heap (fun w h9 => St.rows (sz := 1) (rows := Z4 (Z1x h.gaps (clP pl) (msk fr) k)) (rest := []) (by rw [List.append_nil, show (Z4 (Z1x h.gaps (clP pl) (msk fr) k)).flatten = Zq (Z1x h.gaps (clP pl) (msk fr) k) from Z0L _]; exact h9) (fun r hr => by obtain ⟨x, _, rfl⟩ := List.mem_map.1 hr; rfl)) ?_
 refine Z9 (Za (Za (Zo (sqt 2 rfl (pur 2 rfl (Z5 ?_))))))
 exact rtA rfl rfl rfl ⟨_, k, rfl, rfl, rfl⟩ (fun w h9 => (St.drop (G := oc.G) h9).del b3)
theorem Zce : cal Try.prog 10 = true := by kernel_rfl
theorem Zda : cal Try.prog 16 = true := by kernel_rfl
theorem ZaL : cal Try.prog 19 = true := by kernel_rfl
theorem Zen : cal Try.prog 9 = true := by kernel_rfl
theorem ZdY : Z0i Try.prog 24 = some 1 := by kernel_rfl
theorem ZcO : Z0i Try.prog 38 = some 3 := by kernel_rfl
theorem cn4 : Z0i Try.prog 4 = some 1 := by kernel_rfl
theorem Tru.nil (h : Hse) (l : List Int) : Tru h l [] := ⟨(fun s hs => by cases hs), rfl⟩
set_option maxHeartbeats 400000 in
theorem Zb0 (l0 : List Int) (a0 : Option Addr) (c0 bk : Nat) (hgl : l0.length ≤ 9223372036854775807) (tq mx : Int) (htq : 0 ≤ tq ∧ tq ≤ 1000000) (hmx : 0 ≤ mx ∧ mx ≤ 4294967295) (h : Hse) (ag : Option Addr) (cg : Nat) (hok : h.ok) (hss : h.sights = []) (fr : List Int) (af : Option Addr) (cf : Nat) (hfl0 : fr.length ≤ 1000000) (hfr : ∀ x ∈ fr, 0 ≤ x ∧ x < h.bins) (most : Int) (hmost : 0 ≤ most ∧ most ≤ 8) (H : Z8) (R : Z6) [hG : MemRows a0 1 (Z2O l0) R] [hG : MemRows ag 2 (Zi h.gaps) R] [hF : MemRows af 1 (Z4 fr) R] :
    Fn Try.prog 11 [.pointer (some ⟨bk, 0, none⟩), h.v (h.sg ag cg) (h.ss none 0), .slice af fr.length cf, .int .i64 most] ((bk, cel 72 [.slice a0 l0.length c0, .int .i64 (tq), .int .u32 (mx)]) :: H) R (fun v H' R' => ∃ (ss : List Sgt) (o : OSl 38 3 (Zh ss)) (tq' mx' : Int), Tru h fr ss ∧ (ss.length : Int) ≤ most ∧ v = Hse.v ⟨h.bins, h.gaps, ss⟩ (h.sg ag cg) o.fs ∧ (tq ≤ tq' ∧ tq' ≤ tq + 20) ∧ (0 ≤ mx' ∧ mx' ≤ 4294967295) ∧ H' = (bk, cel 72 [.slice a0 l0.length c0, .int .i64 (tq'), .int .u32 (mx')]) :: (o.G ++ H) ∧ R' = R) := by
 refine Zg Try.func11 rfl Try.ntmps11 rfl ?_
 refine sqt 2 rfl ?_
 have hbn := hok.bins
 refine bx rfl rfl rfl (fun b5 => alc rfl Zbb rfl (fun b8 => sqt 4 rfl (spL rfl rfl (lhA (htl h (h.sg ag cg) (h.ss none 0)) Z0g rfl rfl rfl) rfl (pur 1 rfl ?_))))
 refine Sy.heap (fun w h9 => St.norows9 (sz := 1) h9) ?_
 refine cl rfl ZaL rfl rfl (Z4a h ag none cg 0 hok fr af cf hfl0 (fun x hx => (hfr x hx).1) [] none 0 (by decide) (by decide) (by simp [lls]) _ _) ?_
 rintro _ _ R1 ⟨af2, cf2, rfl, rfl, hR1⟩
 obtain rfl := hR1.symm
 clear hR1
 refine pur 1 rfl (Z1 (sqt 5 rfl ?_))
 refine ZA bk ?_
 refine pur 2 rfl (sp rfl (PE.add rfl rfl (by omega)) rfl ?_)
 refine cl rfl Z34 rfl rfl (Z0u l0 a0 c0 bk hgl _ _ (by omega) (by assumption) (most + 1) _ _) ?_
 rintro _ _ R1 ⟨x17, m17, hx17, rfl, hm17, rfl, hR1⟩
 obtain rfl := hR1.symm
 obtain ⟨n17, rfl⟩ : ∃ n : Nat, x17 = n := ⟨x17.toNat, by omega⟩
 refine pur 1 rfl (Z3 ?_)
 refine Sy.heap (H' := (bk, cel 72 [.slice a0 l0.length c0, .int .i64 (tq + 1), .int .u32 (m17)]) :: (b5, cel 26 (htl ⟨h.bins, h.gaps, []⟩ (h.sg ag cg) (.slice none 0 0))) :: (b8, cel 26 [.int .i64 0, .slice none 0 0, .slice none 0 0]) :: H) (fun w h9 => by
   have e : (htl h (h.sg ag cg) (h.ss none 0)) = (htl ⟨h.bins, h.gaps, []⟩ (h.sg ag cg) (.slice none 0 0)) := by unfold Hse.ss; rw [hss]; rfl
   rw [← e]
   exact h9.perm (by first | exact .refl _ | exact List.Perm.cons _ (List.Perm.swap _ _ _))) ?_
 refine Ze (ι := (x : {x : Nat × List Sgt × Int × Int // x.1 ≤ n17 ∧ (x.2.1.length = x.1 ∧ Tru h fr x.2.1) ∧ (tq ≤ x.2.2.1 ∧ x.2.2.1 ≤ tq + 1 + 2 * x.1) ∧ (0 ≤ x.2.2.2 ∧ x.2.2.2 ≤ 4294967295)}) × OSl 38 3 (Zh x.1.2.1)) (fun x => ⟨[(0, .pointer (some ⟨bk, 0, none⟩)), (5, .pointer (some ⟨b5, 0, none⟩)), (8, .pointer (some ⟨b8, 0, none⟩)), (9, .slice af2 h.bins.toNat cf2), (17, .int .i64 n17), (18, .int .i64 x.1.1.1)],
   (bk, cel 72 [.slice a0 l0.length c0, .int .i64 (x.1.1.2.2.1), .int .u32 (x.1.1.2.2.2)]) :: (x.2.G ++ (b5, cel 26 (htl ⟨h.bins, h.gaps, x.1.1.2.1⟩ (h.sg ag cg) x.2.fs)) :: (b8, cel 26 [.int .i64 0, .slice none 0 0, .slice none 0 0]) :: H), RowsA af2 1 (Z4 (Z1x h.gaps (clP []) (msk fr) h.bins.toNat)) :: R⟩) (fun x => n17 - x.1.1.1) ⟨⟨(0, [], tq + 1, m17), by omega, ⟨rfl, Tru.nil _ _⟩, by dsimp only; omega, by assumption⟩, OSl.nil _ _⟩ ?_ (fun x => ?_)
 exact Zn (fun w h9 => h9.facts (fun g hg => by simp only [List.mem_cons] at hg ⊢; rcases hg with h8 | h8 <;> simp [h8]))
 obtain ⟨⟨⟨k, ss, tq2, mx2⟩, hk, ⟨hsl, htr⟩, htq2, hmx2⟩, o⟩ := x
 dsimp only at hk hsl htr htq2 hmx2 o ⊢
 refine sqt 1 rfl (pur 1 rfl (Z1 ?_))
 refine Z0 rfl ?_ ?_ <;> intro hc0 <;> try simp only [cS] at hc0
 refine Z2 (Z1 (Z3 (Z1 ?_)))
 refine Zc [0, 1, 0, 0, 8, 31, 63, 0, 255] (.tk 0 (.tk 2 (.tk 3 (.ld 4 (.any (.alt 1 (.any (.alt 5 (.tk 6 (.big 7 (.big 8 .done))) (.alt 7 (.big 5 (.tk 6 (.big 8 .done))) .stop))) (.alt 7 (.big 1 (.big 5 (.tk 6 (.big 8 .done)))) .stop))))))) Zw (by kernel_rfl) ?_
 refine Zr 2 rfl (tk rfl (PE.fA Z05 rfl) rfl (ld rfl rfl (lh (v := .int .i64 h.bins) sc3 rfl rfl) rfl ?_))
 refine Z1e ?_ ?_
 refine ZA bk ?_
 refine cl rfl Z34 rfl rfl (Z0u l0 a0 c0 bk hgl _ _ (by omega) (by assumption) (5) _ _) ?_
 rintro _ _ R1 ⟨x21, m21, hx21, rfl, hm21, rfl, hR1⟩
 obtain rfl := hR1.symm
 refine bg (fun w hs => ⟨(lh (v := .int .i64 h.bins) sc3 rfl rfl) w hs, trivial⟩) ?_
 refine Z1e ?_ ?_
 refine ZA bk ?_
 refine cl rfl Z34 rfl rfl (Z0u l0 a0 c0 bk hgl _ _ (by omega) (by assumption) (h.bins) _ _) ?_
 rintro _ _ R1 ⟨x25, m25, hx25, rfl, hm25, rfl, hR1⟩
 obtain rfl := hR1.symm
 refine bgT (tk rfl (PE.build (out := [.int .i64 x21, .int .i64 x25, .bool (false)]) Zbj Z4P rfl rfl) rfl (alc rfl Z4P rfl (fun b10 => bgT ?_)))
 refine sto rfl rfl rfl ZcO rfl rfl rfl rfl ?_
 refine bgT (Z1 ?_)
 refine Zc [0, 0, 2, 7, 15, 0, 32, 127, 255, 511] (.tk 0 (.tk 1 (.ld 2 (.tk 3 (.ld 4 (.tk 5 (.ld 6 (.tk 7 (.tk 8 (.big 9 .done)))))))))) Zw (by kernel_rfl) ?_
 have hgf := Z07 (l := (Z1x h.gaps (clP []) (msk fr) h.bins.toNat)) (k := x25.toNat) (by rw [Z04]; omega)
 have hft := Z2W (gs := h.gaps) (cl := clP []) (m := msk fr) (n := h.bins.toNat) (k := x25.toNat) (by omega)
 generalize hfv : na (Z1x h.gaps (clP []) (msk fr) h.bins.toNat) x25.toNat = fv at *
 have hes : exS h.gaps (msk fr) ⟨x21, x25, decide (fv ≤ x21)⟩ = true := Z4U hok hfr (s := ⟨x21, x25, decide (fv ≤ x21)⟩) (by dsimp only; omega) (by dsimp only; rw [hft]; rfl)
 refine Zm (a := af2) (sz := 1) (rows := Z4 (Z1x h.gaps (clP []) (msk fr) h.bins.toNat)) (by intro h0; have := congrArg List.length h0; rw [irl, Z04] at this; simp only [List.length_nil] at this; omega) (fun bf bfo hebf => ?_)
 subst hebf
 refine Zr 1 rfl (tk rfl (PE.fA Z3q rfl) rfl (ld rfl rfl (lh sc3 rfl rfl) rfl (tk rfl (PE.indexAddr Z1c rfl rfl (by omega) (by omega)) rfl (ld rfl rfl (lf0 sc3 (ZQ hgf) rfl) rfl (tk rfl (PE.fA Z3D rfl) rfl (ld rfl rfl (lh sc3 rfl rfl) rfl (Zr 1 rfl (tk rfl (PE.fA Z3x rfl) rfl ?_))))))))
 refine ZF (l' := [.int .i64 x21, .int .i64 x25, .bool (decide (fv ≤ x21))]) rfl rfl rfl cn4 rfl rfl rfl rfl (nl rfl) ?_
 refine bgT (sqr 7 rfl (sp rfl (PE.fA ZN rfl) rfl (spL rfl rfl (lh Z2U rfl rfl) rfl (spL rfl rfl (lhA [.int .i64 x21, .int .i64 x25, .bool (decide (fv ≤ x21))] Z9F rfl rfl rfl) rfl ?_))))
 refine bsl (out := [_, _, _]) rfl Z9P Z4P rfl rfl rfl rfl rfl rfl (fun b39 => ?_)
 refine apO (o) rfl ZcN rfl rfl (Z0r (row := Z1S ⟨x21, x25, decide (fv ≤ x21)⟩) rfl) rfl rfl ((by rw [Z1E]; simp only [List.length_singleton]; omega)) rfl (fun o40 => ?_)
 refine sp rfl (PE.fA ZN rfl) rfl ?_
 refine ZF (l' := htl ⟨h.bins, h.gaps, ss ++ [⟨x21, x25, decide (fv ≤ x21)⟩]⟩ (h.sg ag cg) o40.fs) rfl rfl rfl ZdY rfl (by rw [o40.cells.1]; first | done | rfl) (by rw [o40.cells.1]; simp [o40.cells.2]) (by rw [o40.cells.1]; first | done | rfl) (by rw [o40.cells.1]; first | done | exact Nat.le_of_ble_eq_true rfl) ?_
 refine sqr 2 rfl (sp rfl (PE.add rfl rfl (by omega)) rfl (pur 1 rfl ?_))
 exact Z7 ⟨⟨(k + 1, ss ++ [⟨x21, x25, decide (fv ≤ x21)⟩], tq2 + 1 + 1, m25), by dsimp only; omega, ⟨by simp [hsl], htr.snoc (by dsimp only; omega) hes⟩, by dsimp only; omega, by assumption⟩, o40.cast (by simp [Zh])⟩ (fun w h9 => ((h9.del b39).del b10).perm (by first | exact .refl _ | exact (Zj _ [_] _).symm))
 refine Z1e ?_ ?_
 refine alc rfl Z4P rfl (fun b10 => ?_)
 refine bg (fun w hs => ⟨(lh (v := .int .i64 h.bins) sc3 rfl rfl) w hs, trivial⟩) ?_
 refine ZA bk ?_
 refine cl rfl Z34 rfl rfl (Z0u l0 a0 c0 bk hgl _ _ (by omega) (by assumption) (h.bins) _ _) ?_
 rintro _ _ R1 ⟨x25, m25, hx25, rfl, hm25, rfl, hR1⟩
 obtain rfl := hR1.symm
 refine bgT (tk rfl (PE.build (out := [.int .i64 x21, .int .i64 x25, .bool (false)]) Zbj Z4P rfl rfl) rfl ?_)
 refine sto rfl rfl rfl ZcO rfl rfl rfl rfl ?_
 refine bgT (Z1 ?_)
 refine Zc [0, 0, 2, 7, 15, 0, 32, 127, 255, 511] (.tk 0 (.tk 1 (.ld 2 (.tk 3 (.ld 4 (.tk 5 (.ld 6 (.tk 7 (.tk 8 (.big 9 .done)))))))))) Zw (by kernel_rfl) ?_
 have hgf := Z07 (l := (Z1x h.gaps (clP []) (msk fr) h.bins.toNat)) (k := x25.toNat) (by rw [Z04]; omega)
 have hft := Z2W (gs := h.gaps) (cl := clP []) (m := msk fr) (n := h.bins.toNat) (k := x25.toNat) (by omega)
 generalize hfv : na (Z1x h.gaps (clP []) (msk fr) h.bins.toNat) x25.toNat = fv at *
 have hes : exS h.gaps (msk fr) ⟨x21, x25, decide (fv ≤ x21)⟩ = true := Z4U hok hfr (s := ⟨x21, x25, decide (fv ≤ x21)⟩) (by dsimp only; omega) (by dsimp only; rw [hft]; rfl)
 refine Zm (a := af2) (sz := 1) (rows := Z4 (Z1x h.gaps (clP []) (msk fr) h.bins.toNat)) (by intro h0; have := congrArg List.length h0; rw [irl, Z04] at this; simp only [List.length_nil] at this; omega) (fun bf bfo hebf => ?_)
 subst hebf
 refine Zr 1 rfl (tk rfl (PE.fA Z3q rfl) rfl (ld rfl rfl (lh sc3 rfl rfl) rfl (tk rfl (PE.indexAddr Z1c rfl rfl (by omega) (by omega)) rfl (ld rfl rfl (lf0 sc3 (ZQ hgf) rfl) rfl (tk rfl (PE.fA Z3D rfl) rfl (ld rfl rfl (lh sc3 rfl rfl) rfl (Zr 1 rfl (tk rfl (PE.fA Z3x rfl) rfl ?_))))))))
 refine ZF (l' := [.int .i64 x21, .int .i64 x25, .bool (decide (fv ≤ x21))]) rfl rfl rfl cn4 rfl rfl rfl rfl (nl rfl) ?_
 refine bgT (sqr 7 rfl (sp rfl (PE.fA ZN rfl) rfl (spL rfl rfl (lh Z2U rfl rfl) rfl (spL rfl rfl (lhA [.int .i64 x21, .int .i64 x25, .bool (decide (fv ≤ x21))] Z9F rfl rfl rfl) rfl ?_))))
 refine bsl (out := [_, _, _]) rfl Z9P Z4P rfl rfl rfl rfl rfl rfl (fun b39 => ?_)
 refine apO (o) rfl ZcN rfl rfl (Z0r (row := Z1S ⟨x21, x25, decide (fv ≤ x21)⟩) rfl) rfl rfl ((by rw [Z1E]; simp only [List.length_singleton]; omega)) rfl (fun o40 => ?_)
 refine sp rfl (PE.fA ZN rfl) rfl ?_
 refine ZF (l' := htl ⟨h.bins, h.gaps, ss ++ [⟨x21, x25, decide (fv ≤ x21)⟩]⟩ (h.sg ag cg) o40.fs) rfl rfl rfl ZdY rfl (by rw [o40.cells.1]; first | done | rfl) (by rw [o40.cells.1]; simp [o40.cells.2]) (by rw [o40.cells.1]; first | done | rfl) (by rw [o40.cells.1]; first | done | exact Nat.le_of_ble_eq_true rfl) ?_
 refine sqr 2 rfl (sp rfl (PE.add rfl rfl (by omega)) rfl (pur 1 rfl ?_))
 exact Z7 ⟨⟨(k + 1, ss ++ [⟨x21, x25, decide (fv ≤ x21)⟩], tq2 + 1 + 1, m25), by dsimp only; omega, ⟨by simp [hsl], htr.snoc (by dsimp only; omega) hes⟩, by dsimp only; omega, by assumption⟩, o40.cast (by simp [Zh])⟩ (fun w h9 => ((h9.del b39).del b10).perm (by first | exact .refl _ | exact (Zj _ [_] _).symm))
 exact Z26
 refine Z1e ?_ ?_
 refine alc rfl Z4P rfl (fun b10 => ?_)
 refine bg (fun w hs => ⟨(lh (v := .int .i64 h.bins) sc3 rfl rfl) w hs, trivial⟩) ?_
 refine ZA bk ?_
 refine cl rfl Z34 rfl rfl (Z0u l0 a0 c0 bk hgl _ _ (by omega) (by assumption) (5) _ _) ?_
 rintro _ _ R1 ⟨x21, m21, hx21, rfl, hm21, rfl, hR1⟩
 obtain rfl := hR1.symm
 refine bg (fun w hs => ⟨(lh (v := .int .i64 h.bins) sc3 rfl rfl) w hs, trivial⟩) ?_
 refine ZA bk ?_
 refine cl rfl Z34 rfl rfl (Z0u l0 a0 c0 bk hgl _ _ (by omega) (by assumption) (h.bins) _ _) ?_
 rintro _ _ R1 ⟨x25, m25, hx25, rfl, hm25, rfl, hR1⟩
 obtain rfl := hR1.symm
 refine bgT (tk rfl (PE.build (out := [.int .i64 x21, .int .i64 x25, .bool (false)]) Zbj Z4P rfl rfl) rfl ?_)
 refine sto rfl rfl rfl ZcO rfl rfl rfl rfl ?_
 refine bgT (Z1 ?_)
 refine Zc [0, 0, 2, 7, 15, 0, 32, 127, 255, 511] (.tk 0 (.tk 1 (.ld 2 (.tk 3 (.ld 4 (.tk 5 (.ld 6 (.tk 7 (.tk 8 (.big 9 .done)))))))))) Zw (by kernel_rfl) ?_
 have hgf := Z07 (l := (Z1x h.gaps (clP []) (msk fr) h.bins.toNat)) (k := x25.toNat) (by rw [Z04]; omega)
 have hft := Z2W (gs := h.gaps) (cl := clP []) (m := msk fr) (n := h.bins.toNat) (k := x25.toNat) (by omega)
 generalize hfv : na (Z1x h.gaps (clP []) (msk fr) h.bins.toNat) x25.toNat = fv at *
 have hes : exS h.gaps (msk fr) ⟨x21, x25, decide (fv ≤ x21)⟩ = true := Z4U hok hfr (s := ⟨x21, x25, decide (fv ≤ x21)⟩) (by dsimp only; omega) (by dsimp only; rw [hft]; rfl)
 refine Zm (a := af2) (sz := 1) (rows := Z4 (Z1x h.gaps (clP []) (msk fr) h.bins.toNat)) (by intro h0; have := congrArg List.length h0; rw [irl, Z04] at this; simp only [List.length_nil] at this; omega) (fun bf bfo hebf => ?_)
 subst hebf
 refine Zr 1 rfl (tk rfl (PE.fA Z3q rfl) rfl (ld rfl rfl (lh sc3 rfl rfl) rfl (tk rfl (PE.indexAddr Z1c rfl rfl (by omega) (by omega)) rfl (ld rfl rfl (lf0 sc3 (ZQ hgf) rfl) rfl (tk rfl (PE.fA Z3D rfl) rfl (ld rfl rfl (lh sc3 rfl rfl) rfl (Zr 1 rfl (tk rfl (PE.fA Z3x rfl) rfl ?_))))))))
 refine ZF (l' := [.int .i64 x21, .int .i64 x25, .bool (decide (fv ≤ x21))]) rfl rfl rfl cn4 rfl rfl rfl rfl (nl rfl) ?_
 refine bgT (sqr 7 rfl (sp rfl (PE.fA ZN rfl) rfl (spL rfl rfl (lh Z2U rfl rfl) rfl (spL rfl rfl (lhA [.int .i64 x21, .int .i64 x25, .bool (decide (fv ≤ x21))] Z9F rfl rfl rfl) rfl ?_))))
 refine bsl (out := [_, _, _]) rfl Z9P Z4P rfl rfl rfl rfl rfl rfl (fun b39 => ?_)
 refine apO (o) rfl ZcN rfl rfl (Z0r (row := Z1S ⟨x21, x25, decide (fv ≤ x21)⟩) rfl) rfl rfl ((by rw [Z1E]; simp only [List.length_singleton]; omega)) rfl (fun o40 => ?_)
 refine sp rfl (PE.fA ZN rfl) rfl ?_
 refine ZF (l' := htl ⟨h.bins, h.gaps, ss ++ [⟨x21, x25, decide (fv ≤ x21)⟩]⟩ (h.sg ag cg) o40.fs) rfl rfl rfl ZdY rfl (by rw [o40.cells.1]; first | done | rfl) (by rw [o40.cells.1]; simp [o40.cells.2]) (by rw [o40.cells.1]; first | done | rfl) (by rw [o40.cells.1]; first | done | exact Nat.le_of_ble_eq_true rfl) ?_
 refine sqr 2 rfl (sp rfl (PE.add rfl rfl (by omega)) rfl (pur 1 rfl ?_))
 exact Z7 ⟨⟨(k + 1, ss ++ [⟨x21, x25, decide (fv ≤ x21)⟩], tq2 + 1 + 1, m25), by dsimp only; omega, ⟨by simp [hsl], htr.snoc (by dsimp only; omega) hes⟩, by dsimp only; omega, by assumption⟩, o40.cast (by simp [Zh])⟩ (fun w h9 => ((h9.del b39).del b10).perm (by first | exact .refl _ | exact (Zj _ [_] _).symm))
 exact Z26
 obtain rfl : k = n17 := by omega
 refine Z9 (Za (Za (Zo (sqt 2 rfl (spL rfl rfl (lhA (htl ⟨h.bins, h.gaps, ss⟩ (h.sg ag cg) o.fs) Z0g rfl rfl rfl) rfl ?_)))))
 refine ZF (l' := htl ⟨h.bins, h.gaps, ss⟩ (h.sg ag cg) o.fs) rfl rfl rfl Zbk rfl rfl (by show (htl _ _ o.fs).all (·.oneCell') = true; simp only [htl, List.all_cons, List.all_nil, o.cells.2, Bool.and_true]; rfl) rfl (Nat.le_refl _) ?_
 refine Z5 ?_
 exact Zp (vs := [_]) rfl (.cons (RV.cell rfl (lhA [_, _, _] Z0g rfl rfl rfl)) .nil) rfl ⟨ss, o, tq2, mx2, htr, by omega, rfl, by omega, by assumption, rfl, rfl⟩ (fun w h9 => St.ftail ((h9.del b8).del b5))
theorem Zdl : cal Try.prog 11 = true := by kernel_rfl
def Hse.add (h : Hse) (s : Sgt) : Hse := ⟨h.bins, h.gaps, h.sights ++ [s]⟩
theorem Z7L {y : List Nat} {n : Nat} (hp : y.Pairwise (· < ·)) (hn : ∀ j ∈ y, j < n) : cnt n (msk (y.map fun (j : Nat) => (j : Int))) = y.length := by
  rw [← Z1y]
  congr 1
  refine Z3X (List.pairwise_lt_range.filter _) hp fun x => ?_
  rw [List.mem_filter, List.mem_range, Zs (fun j hj => by obtain ⟨k, _, rfl⟩ := List.mem_map.1 hj; omega)]
  constructor
  · rintro ⟨_, h⟩
    obtain ⟨k, hk, e⟩ := List.mem_map.1 h
    obtain rfl : k = x := by omega
    exact hk
  · intro h; exact ⟨hn x h, List.mem_map.2 ⟨x, h, rfl⟩⟩
theorem Z8i {n m : Nat} (h : m < 2 ^ n) : msk (((List.range n).filter fun i => m.testBit i).map fun (j : Nat) => (j : Int)) = m := ZW fun k => by
  rw [Bool.eq_iff_iff, Zs (fun j hj => by obtain ⟨k, _, rfl⟩ := List.mem_map.1 hj; omega)]
  constructor
  · intro h1
    obtain ⟨j, hj, e⟩ := List.mem_map.1 h1
    obtain rfl : j = k := by omega
    exact (List.mem_filter.1 hj).2
  · intro h1; exact List.mem_map.2 ⟨k, List.mem_filter.2 ⟨List.mem_range.2 (Z1p h h1), h1⟩, rfl⟩
structure Org (h : Hse) (few : List Int) : Prop where
  lt : ∀ x ∈ few, 0 ≤ x ∧ x < h.bins
  srt : few.Pairwise (· < ·)
  ex : Z19 h.gaps (msk few) h.sights = true
  len : few.length = cnt h.bins.toNat (msk few)
  min : ∀ m, m < 2 ^ h.bins.toNat → Z19 h.gaps m h.sights = true → few.length ≤ cnt h.bins.toNat m
theorem Zbv {h : Hse} (hk : h.ok) (ha : h.agr h.sights = true) : ∃ few, h.orgR = (few, 0) ∧ Org h few := by
  have hb := hk.bins
  obtain ⟨m, hm, he⟩ := (Z3U hk hk.sights).1 ha
  have hset : ∀ m, m < 2 ^ h.bins.toNat → Z19 h.gaps m h.sights = true → (fun l => Z19 h.gaps (msk l) h.sights) (((List.range h.bins.toNat).filter fun i => m.testBit i).map fun (j : Nat) => (j : Int)) = true := fun m hm he => by
    dsimp only; rw [Z8i hm]; exact he
  obtain ⟨x, hx⟩ := Z6A (has := fun l => Z19 h.gaps (msk l) h.sights) (n := h.bins.toNat) (y := (List.range h.bins.toNat).filter fun i => m.testBit i) (List.pairwise_lt_range.filter _) (fun j hj => List.mem_range.1 (List.mem_filter.1 hj).1) (hset m hm he)
  refine ⟨x, ?_, ?_⟩
  · unfold Hse.orgR
    rw [hse_ok.2 hk, ha, hx]; rfl
  · obtain ⟨⟨y, rfl, h1, h2, h3⟩, h4⟩ := Z3g hx
    refine ⟨fun z hz => ?_, h1.map _ (fun a b hab => by omega), h3, by rw [Z7L h1 h2, List.length_map], fun m' hm' he' => ?_⟩
    · obtain ⟨j, hj, rfl⟩ := List.mem_map.1 hz
      have := h2 j hj; omega
    · have h5 := h4 ((List.range h.bins.toNat).filter fun i => m'.testBit i) (Nat.le_trans (List.length_filter_le _ _) (by simp)) (List.pairwise_lt_range.filter _) (fun j hj => List.mem_range.1 (List.mem_filter.1 hj).1) (hset m' hm' he')
      unfold ahB at h5
      rw [List.length_map, List.length_map, Z1y] at h5
      rw [List.length_map]
      rcases Nat.lt_or_ge (cnt h.bins.toNat m') y.length with h6 | h6
      · rw [decide_eq_true (show cnt h.bins.toNat m' ≠ y.length by omega), decide_eq_true h6] at h5; cases h5
      · exact h6
theorem Z9u {h : Hse} (hk : h.ok) (ha : h.agr h.sights = true) {w : Int} (hw : 0 ≤ w ∧ w ≤ 9) : (h.surR w).2 = 0 ∧ ∀ x : Int, x ∈ (h.surR w).1 ↔ ∃ k : Nat, k < h.bins.toNat ∧ x = k ∧ ∀ m, m < 2 ^ h.bins.toNat → Z19 h.gaps m h.sights = true → (lv h.gaps 0 m w.toNat).testBit k = true := by
  have hi : (!inB w 0 9) = false := by simp [inB]; omega
  have e := Z71 (Z61 (hse_ok.2 hk) hi ha)
  rw [e]
  refine ⟨rfl, fun x => ?_⟩
  dsimp only
  rw [fltK_mem]
  refine exists_congr fun k => ?_
  have h1 := Z8F hk hk.sights (k := k) hw
  unfold Hse.surB
  constructor
  · rintro ⟨h2, h3, h4⟩; exact ⟨h2, h4, h1.1 (by simpa using h3)⟩
  · rintro ⟨h2, h4, h3⟩; exact ⟨h2, by rw [h1.2 h3]; rfl, h4⟩
theorem Z7m {h : Hse} (hk : h.ok) (ha : h.agr h.sights = true) {w : Int} (hw : 0 ≤ w ∧ w ≤ 9) : (h.perR w).2 = 0 ∧ ∀ x : Int, x ∈ (h.perR w).1 ↔ ∃ k : Nat, k < h.bins.toNat ∧ x = k ∧ ∃ m, m < 2 ^ h.bins.toNat ∧ Z19 h.gaps m h.sights = true ∧ (lv h.gaps 0 m w.toNat).testBit k = true := by
  have hi : (!inB w 0 9) = false := by simp [inB]; omega
  have e := Z88 (Z61 (hse_ok.2 hk) hi ha)
  have hl := hk.lt
  rw [e]
  refine ⟨rfl, fun x => ?_⟩
  dsimp only
  rw [fltK_mem]
  refine exists_congr fun k => ?_
  have h1 := Z5A hk hk.sights ha (k := k) (week := w)
  have h5 := Z6g (k := k) hk.wth (ZaH (Hse.ok.lt h hk).1 (Z3z hk (ss := h.sights) (but := -1) (week := 0))) (cl := 0) (t := w.toNat) (by unfold far; omega)
  rw [show ((w.toNat : Nat) : Int) = w by omega] at h5
  unfold Hse.perB
  constructor
  · rintro ⟨h2, h3, h4⟩; exact ⟨h2, h4, h1.1 (h5.1 (of_decide_eq_true h3))⟩
  · rintro ⟨h2, h4, h3⟩; exact ⟨h2, decide_eq_true (h5.2 (h1.2 h3)), h4⟩
theorem Zbd (h : Hse) (w : Int) : (h.surR w).1.length ≤ h.bins.toNat := by
  unfold Hse.surR
  cases decide (h.wkE w = 0) with
  | true => exact Z0a _ _
  | false => exact Nat.zero_le _
theorem Za0 (h : Hse) (w : Int) : (h.perR w).1.length ≤ h.bins.toNat := by
  unfold Hse.perR
  cases decide (h.wkE w = 0) with
  | true => exact Z0a _ _
  | false => exact Nat.zero_le _
theorem Zbt : cal Try.prog 102 = true := by kernel_rfl
theorem Zdb : cal Try.prog 27 = true := by kernel_rfl
theorem ZdN : cal Try.prog 76 = true := by kernel_rfl
theorem Z8p {xs : List Int} {junk : List Value} {k : Nat} (h : k < xs.length) (v : Int) : spl (Zq xs ++ junk) (0 + ((k : Nat) : Int).toNat * 1) [.int .i64 v] = Zq (xs.set k v) ++ junk := by
  rw [show 0 + ((k : Nat) : Int).toNat * 1 = k by omega]
  obtain ⟨A, y, B, rfl, rfl⟩ := Z9k h
  have h1 := Z9i (p := Zq A) (q := [.int .i64 y]) (s := Zq B ++ junk) (vs := [.int .i64 v]) rfl
  rw [show (Zq A).length = A.length by simp [Zq]] at h1
  rw [show Zq (A ++ y :: B) ++ junk = Zq A ++ ([.int .i64 y] ++ (Zq B ++ junk)) by simp [Zq], h1]
  simp [Zq]
def Ze6 (g : Nat) (cap : List Value) (p : Int → Bool) (l : List Int) (R0 : Z6) : Prop := cal Try.prog g = true ∧ ∀ x ∈ l, ∀ (H : Z8) (R : Z6), (∀ f ∈ R0, f ∈ R) → FnV Try.prog g ([] ++ [.int .i64 x] ++ cap) H R (.bool (p x))
structure DelI (l : List Int) (p : Int → Bool) (i j : Nat) (c : List Int) : Prop where
  len : c.length = l.length
  le : i < j ∧ j ≤ l.length
  pre : c.take i = (l.take j).filter (fun x => !p x)
  suf : ∀ q, j ≤ q → c[q]? = l[q]?
theorem Z1u {l : List Int} {j : Nat} {x : Int} (h : l[j]? = some x) : l.take (j + 1) = l.take j ++ [x] := by rw [List.take_add_one, h]; rfl
theorem DelI.start {l : List Int} {p : Int → Bool} {k : Nat} (h : l.findIdx? p = some k) : DelI l p k (k + 1) l := by
  obtain ⟨h1, h2, h3⟩ := List.findIdx?_eq_some_iff_getElem.1 h
  refine ⟨rfl, ⟨by omega, by omega⟩, ?_, fun _ _ => rfl⟩
  rw [Z1u (List.getElem?_eq_getElem h1), List.filter_append, List.filter_cons, h2]
  have : (l.take k).filter (fun x => !p x) = l.take k := List.filter_eq_self.2 fun x hx => by
    obtain ⟨q, hq, rfl⟩ := List.mem_iff_getElem.1 hx
    rw [List.length_take] at hq
    rw [List.getElem_take]
    have := h3 q (by omega)
    simpa using this
  rw [this]; simp
theorem DelI.skip {l : List Int} {p : Int → Bool} {i j : Nat} {c : List Int} (h : DelI l p i j c) {x : Int} (hx : l[j]? = some x) (hp : p x = true) : DelI l p i (j + 1) c := by
  have hj := (List.getElem?_eq_some_iff.1 hx).1
  refine ⟨h.len, ⟨by have := h.le; omega, by omega⟩, ?_, fun q hq => h.suf q (by omega)⟩
  rw [h.pre, Z1u hx, List.filter_append, List.filter_cons, hp]; simp
theorem DelI.keep {l : List Int} {p : Int → Bool} {i j : Nat} {c : List Int} (h : DelI l p i j c) {x : Int} (hx : l[j]? = some x) (hp : p x = false) : DelI l p (i + 1) (j + 1) (c.set i x) := by
  have hj := (List.getElem?_eq_some_iff.1 hx).1
  have hl := h.le
  have hn := h.len
  refine ⟨by rw [List.length_set]; exact hn, ⟨by omega, by omega⟩, ?_, fun q hq => by rw [List.getElem?_set_ne (by omega)]; exact h.suf q (by omega)⟩
  rw [Z1u hx, List.filter_append, List.filter_cons, hp, ← h.pre, Z1u (l := c.set i x) (x := x) (by rw [List.getElem?_set_self (by omega)]), List.take_set_of_le (Nat.le_refl _)]; rfl
theorem DelI.done {l : List Int} {p : Int → Bool} {i : Nat} {c : List Int} (h : DelI l p i l.length c) : c.take i = l.filter (fun x => !p x) ∧ i = (l.filter (fun x => !p x)).length := by
  have h1 := h.pre
  rw [List.take_length] at h1
  refine ⟨h1, ?_⟩
  rw [← h1, List.length_take, h.len]
  have := h.le; omega
theorem Z1K {l : List Int} {p : Int → Bool} (h : l.findIdx? p = none) : l.filter (fun x => !p x) = l := List.filter_eq_self.2 fun x hx => by
  have := List.findIdx?_eq_none_iff.1 h x hx
  simp [this]
theorem Z87 {c : List Int} {junk : List Value} {i n : Nat} (hi : i ≤ c.length) (hn : n = c.length - i) : spl (Zq c ++ junk) (0 + i * 1) (Z0I n [Value.int .i64 0]) = Zq (c.take i) ++ (Z0I n [Value.int .i64 0] ++ junk) := by
  subst hn
  rw [Nat.zero_add, Nat.mul_one]
  unfold spl
  have e1 : (Zq c ++ junk).take i = Zq (c.take i) := by
    rw [List.take_append_of_le_length (by rw [Zf]; exact hi)]
    unfold Zq; rw [List.map_take]
  have e2 : i + (Z0I (c.length - i) [Value.int .i64 0]).length = (Zq c).length := by rw [Z4E, Zf]; omega
  rw [e1, e2, List.drop_left]; simp
set_option maxHeartbeats 400000 in
theorem Z4k (l : List Int) (o : OSl 3 1 (Z4 l)) (hl : l.length ≤ 1000000) (g : Nat) (cap : List Value) (p : Int → Bool) (R0 : Z6) (hask : Ze6 g cap p l R0) (H : Z8) (R : Z6) [sR : SubF R0 R] :
    Fn Try.prog 70 [o.fs, .func (.func g) #[] cap.toArray] (o.G ++ H) R (fun v H' R' => ∃ a c, (l.filter (fun x => !p x)).length ≤ c ∧ v = .slice a (l.filter (fun x => !p x)).length c ∧ H' = H ∧ R' = RowsA a 1 (Z4 (l.filter (fun x => !p x))) :: R) := by
 refine Zg Try.func70 rfl Try.ntmps70 rfl ?_
 refine sqt 1 rfl (pur 1 rfl (sqt 4 rfl (pur 2 rfl ?_)))
 refine cl rfl Z9z rfl rfl (FnV.lendO o (fun v => [v, .func (.func g) #[] cap.toArray]) (fun a5 c5 B9 => by rw [irl]; exact Z4p l a5 c5 g [] cap p hask.1 (by omega) _ _ (fun x hx => hask.2 x hx _ _ (fun f hf => by simp [sR.sub f hf])))) ?_
 rintro _ _ R1 ⟨rfl, rfl, hR1⟩
 obtain rfl := hR1.symm
 clear hR1
 rcases hfi : l.findIdx? p with _ | k
 all_goals dsimp only
 refine pur 1 rfl (Z1 (sqt 2 rfl (pur 2 rfl ?_)))
 refine Z0 rfl ?_ ?_ <;> intro hc0
 refine sqt 2 rfl (pur 2 rfl (Z5 ?_))
 obtain ⟨ac, cc, he, hcc, hz⟩ := o.freezeC
 rw [irl] at hcc
 rw [he, irl]
 refine Sy.heap (fun w h9 => hz h9) ?_
 exact rtA rfl rfl rfl ⟨ac, cc, by rw [Z1K hfi]; exact hcc, by rw [Z1K hfi]; rfl, rfl, by rw [Z1K hfi]⟩ drp
 exact absurd hc0 (by simp)
 refine pur 1 rfl (Z1 (sqt 2 rfl (pur 2 rfl ?_)))
 refine Z0 rfl ?_ ?_ <;> intro hc0
 exact absurd hc0 (by simp <;> omega)
 have hst := DelI.start hfi
 have hstl := hst.le
 have hlp : 0 < l.length := by have := hst.le; omega
 obtain ⟨b, cp, junk, hfs, hG, hj, hcap, hmx⟩ := o.is.resolve_left (fun h9 => by have := congrArg List.length h9.1; rw [irl] at this; simp only [List.length_nil] at this; omega)
 rw [irl] at hfs hj hcap
 rw [show (Z4 l).flatten = Zq l from Z0L l] at hG
 rw [hfs, hG]
 refine Sy.heap (H' := (b, cel 3 (Zq (l) ++ junk)) :: H) (fun w h9 => h9) ?_
 refine Z2 (Z1 (sqt 3 rfl (pur 1 rfl (sp rfl (PE.add rfl rfl (by omega)) rfl (pur 1 rfl (Z3 ?_))))))
 refine Ze (ι := {y : Nat × Nat × List Int // DelI l p y.1 y.2.1 y.2.2}) (fun y => ⟨[(0, .slice (some ⟨b, 0, none⟩) l.length cp), (1, .func (.func g) #[] cap.toArray), (5, .int .i64 (y.1.1 : Int)), (6, .int .i64 (y.1.2.1 : Int))], (b, cel 3 (Zq (y.1.2.2) ++ junk)) :: H, R⟩) (fun y => l.length - y.1.2.1) ⟨(k, k + 1, l), hst⟩ ?_ (fun y => ?_)
 exact Zn idH
 clear hst
 obtain ⟨⟨i, j, c⟩, hd⟩ := y
 dsimp only at hd ⊢
 have hle := hd.le
 have hcl := hd.len
 refine Z1 (sqt 4 rfl (pur 2 rfl (sp rfl (PE.lenSl ZC rfl) rfl (pur 1 rfl ?_))))
 refine Z0 rfl ?_ ?_ <;> intro hc1 <;> try simp only [cS] at hc1
 obtain ⟨x, hx⟩ : ∃ x, l[j]? = some x := ⟨_, List.getElem?_eq_getElem (by omega)⟩
 have hcx : c[j]? = some x := by rw [hd.suf j (Nat.le_refl _)]; exact hx
 refine Z2 (Z1 (Z3 (sqt 5 rfl (pur 2 rfl (sp rfl (PE.indexAddr Z1c rfl rfl (by omega) (by omega)) rfl ?_)))))
 refine spL rfl rfl (lh (v := .int .i64 x) sc3 rfl (by rw [List.getElem?_append_left (by rw [Zf]; show 0 + ((j : Nat) : Int).toNat * 1 < c.length; omega), show 0 + ((j : Nat) : Int).toNat * 1 = j by omega]; exact Z4b hcx)) rfl ?_
 refine pur 1 rfl (sqt 4 rfl (pur 2 rfl ?_))
 refine Z6o rfl rfl (hask.1) rfl rfl (hask.2 x (List.mem_of_getElem? hx) _ _ sR.sub) ?_
 refine pur 1 rfl ?_
 refine Z0 rfl ?_ ?_ <;> intro hc2 <;> try simp only [cS] at hc2
 refine sqt 5 rfl (pur 3 rfl (sp rfl (PE.indexAddr Z1c rfl rfl (by omega) (by omega)) rfl ?_))
 refine ZF (l' := Zq (c.set i x) ++ junk) rfl rfl rfl cn3 rfl rfl rfl (Z8p (by omega) _) (by rw [List.length_append, Zf]; show 0 + ((i : Nat) : Int).toNat * 1 + 1 ≤ _; omega) ?_
 refine sqr 3 rfl (pur 1 rfl (sp rfl (PE.add rfl rfl (by omega)) rfl (pur 1 rfl (sqr 3 rfl (pur 1 rfl (sp rfl (PE.add rfl rfl (by omega)) rfl (pur 1 rfl ?_)))))))
 exact Z7 ⟨(i + 1, j + 1, c.set i x), hd.keep hx (by simpa using hc2)⟩ idH
 refine Z2 (sqr 3 rfl (pur 1 rfl (sp rfl (PE.add rfl rfl (by omega)) rfl (pur 1 rfl ?_))))
 exact Z7 ⟨(i, j + 1, c), hd.skip hx (by simpa using hc2)⟩ idH
 obtain rfl : j = l.length := by omega
 obtain ⟨hdt, hdi⟩ := hd.done
 refine Z9 (Za (Za (Zo (sqt 4 rfl (pur 2 rfl (sp rfl (PE.slLo Z0E rfl rfl (by omega) (by omega)) rfl ?_))))))
 refine ZeA rfl rfl Z0E zl3 rfl rfl rfl (by rw [List.length_append, Zf]; omega) ?_
 rw [Z87 (by omega) (by omega), hdt]
 obtain ⟨jk, hjk⟩ : ∃ jk, jk = Z0I (l.length - i) [Value.int .i64 0] ++ junk := ⟨_, rfl⟩
 rw [← hjk]
 refine sqt 4 rfl (pur 2 rfl (sp rfl (PE.slHi Z0E rfl rfl (by omega)) rfl (pur 1 rfl (Z5 ?_))))
 refine Sy.heap (fun w h9 => St.rows (sz := 1) (rows := Z4 (l.filter (fun x => !p x))) (rest := jk) (by rw [show (Z4 (l.filter (fun x => !p x))).flatten = Zq (l.filter (fun x => !p x)) from Z0L _]; exact h9) (fun r hr => by obtain ⟨x, _, rfl⟩ := List.mem_map.1 hr; rfl)) ?_
 exact rtA rfl rfl rfl ⟨_, cp, by omega, by rw [hdi]; rfl, rfl, rfl⟩ drp
theorem ZaC (n : Int) (H : Z8) (R : Z6) :
    FnV Try.prog 102 [.int .i64 n] H R (.bool false) := by
 refine Zg Try.func102 rfl Try.ntmps102 rfl ?_
 refine sqt 1 rfl (pur 1 rfl (sqt 4 rfl (pur 4 rfl (Z5 ?_))))
 exact rtA rfl rfl rfl ⟨by simp [ZV], rfl, rfl⟩ drp
theorem ZbL (x y : Int) (H : Z8) (R : Z6) :
    FnV Try.prog 76 [.int .i64 x, .int .i64 y] H R (.bool (decide (x < y))) := by
 refine Zg Try.func76 rfl Try.ntmps76 rfl ?_
 refine sqt 1 rfl (pur 1 rfl (sqt 13 rfl (pur 1 rfl ?_)))
 refine clV rfl Zbt rfl rfl (ZaC x _ _) ?_
 refine pur 11 rfl (Z5 ?_)
 exact rtA rfl rfl rfl ⟨rfl, rfl, rfl⟩ drp
theorem Z1M (xs : List Int) (a : Option Addr) (c : Nat) (hl : xs.length ≤ 9223372036854775807) (hs : xs.Pairwise (· < ·)) (H : Z8) (R : Z6) [hR : MemRows a 1 (Z4 xs) R] :
    FnV Try.prog 34 [.slice a xs.length c] H R (.bool true) := by
 refine Zg Try.func34 rfl Try.ntmps34 rfl ?_
 refine sqt 1 rfl (pur 1 rfl (Z1 (sqt 4 rfl (pur 1 rfl (sp rfl (PE.lenSl ZC rfl) rfl (sp rfl (PE.sub rfl rfl (by omega)) rfl (pur 1 rfl (Z3 ?_))))))))
 refine Ze (ι := {k : Nat // k ≤ xs.length}) (fun k => ⟨[(0, .slice a xs.length c), (3, .int .i64 ((k.1 : Int) - 1))], H, R⟩) (fun k => k.1) ⟨xs.length, Nat.le_refl _⟩ ?_ (fun k => ?_)
 exact Zn idH
 obtain ⟨k, hk⟩ := k
 dsimp only at hk ⊢
 refine Z1 (sqt 2 rfl (pur 2 rfl ?_))
 refine Z0 rfl ?_ ?_ <;> intro hc0 <;> try simp only [cS] at hc0
 obtain ⟨k, rfl⟩ : ∃ j, k = j + 2 := ⟨k - 2, by omega⟩
 obtain ⟨y, hy⟩ : ∃ y, xs[k + 1]? = some y := ⟨_, List.getElem?_eq_getElem (by omega)⟩
 obtain ⟨x, hx⟩ : ∃ x, xs[k]? = some x := ⟨_, List.getElem?_eq_getElem (by omega)⟩
 have hxy : x < y := by
   have h8 := List.pairwise_iff_getElem.1 hs k (k + 1) (by omega) (by omega) (by omega)
   rw [(List.getElem?_eq_some_iff.1 hx).2, (List.getElem?_eq_some_iff.1 hy).2] at h8; exact h8
 rw [show (((k + 2 : Nat) : Int) - 1) = (k + 1 : Nat) from by omega]
 refine Zm (a := a) (sz := 1) (rows := Z4 xs) (ne0 (by rw [irl]; omega)) (fun b off he => ?_)
 subst he
 refine Z2 (Z1 (Z3 (Z1 ?_)))
 refine Zc [0, 0, 3, 7, 0, 0, 32, 112, 240, 511] (tks 0 3 (.ld 3 (tks 4 4 (.ld 8 (.big 9 .done))))) Zw (by kernel_rfl) ?_
 refine Zr 2 rfl (tk rfl (PE.indexAddr Z1c rfl rfl (by omega) (by omega)) rfl (ld rfl rfl (lf0 (x := .int .i64 y) sc3 (ZQ hy) rfl) rfl (Zr 2 rfl (tk rfl (PE.sub rfl rfl (by omega)) rfl (tk rfl (PE.indexAddr Z1c rfl rfl (by omega) (by omega)) rfl (ld rfl rfl (lf0 (x := .int .i64 x) sc3 (by rw [show (((k + 1 : Nat) : Int) - 1).toNat = k from by omega]; exact ZQ hx) rfl) rfl ?_))))))
 refine clV rfl ZdN rfl rfl (ZbL y x _ _) ?_
 refine bgT ?_
 refine Z0 rfl ?_ ?_ <;> intro hc1
 exact absurd hc1 (by simp; omega)
 refine Z2 (sqr 3 rfl (pur 1 rfl (sp rfl (PE.sub rfl rfl (by omega)) rfl (pur 1 rfl ?_))))
 exact Z7 ⟨k + 1, by omega⟩ idH
 refine Z9 (Za (Za (Zo (sqt 1 rfl (pur 1 rfl (Z5 ?_))))))
 exact rtA rfl rfl rfl ⟨rfl, rfl, rfl⟩ drp
theorem Zcq : cal Try.prog 69 = true := by kernel_rfl
theorem ZdA : cal Try.prog 70 = true := by kernel_rfl
theorem Zdi : cal Try.prog 72 = true := by kernel_rfl
theorem Zdj : cal Try.prog 73 = true := by kernel_rfl
theorem Zdq : cal Try.prog 75 = true := by kernel_rfl
theorem Zef : Z0i Try.prog 63 = some 1 := by kernel_rfl
theorem Ze5 : Z2l Try.prog 63 = true := by kernel_rfl
theorem Zeh : ZM Try.prog 63 = some ([.nilFunc]) := by kernel_rfl
def Hse.byP (h : Hse) (s : Sgt) (k : Int) : Bool := !Z19 h.gaps (msk [k]) [s]
def Hse.byL (h : Hse) (s : Sgt) : List Int := (h.clr h.sights (-1) 0).filter fun x => !h.byP s x
def Hse.aptB (h : Hse) : List Int → List Int → Bool
  | _, [] => true
  | met, i :: l => match h.sights[i.toNat]? with
    | some s => s.seen && !(h.byL s).any (Z02 met) && h.aptB (met ++ h.byL s) l
    | none => false
def Hse.aptH (h : Hse) (m : Nat) (l : List Int) : Bool := decide (l.length = m) && h.aptB [] l
def Hse.aptK (h : Hse) : Nat → List Int
  | 0 => []
  | k + 1 => match Z0A (h.aptH k) h.sights.length with
    | some x => x
    | none => h.aptK k
def Hse.aptR (h : Hse) : List Int × Int := bif decide (h.check ≠ 0) then ([], h.check) else bif !h.agr h.sights then ([], 7) else (h.aptK (h.sights.length + 1), 0)
theorem Z3B {h : Hse} {met l : List Int} {k : Nat} {i : Int} {s : Sgt} (hi : l[k]? = some i) (hs : h.sights[i.toNat]? = some s) (hf : s.seen = false ∨ (h.byL s).any (Z02 met) = true) : h.aptB met (l.drop k) = false := by
  rw [List.drop_eq_getElem_cons (List.getElem?_eq_some_iff.1 hi).1, (List.getElem?_eq_some_iff.1 hi).2]
  unfold Hse.aptB
  rw [hs]
  dsimp only
  rcases hf with h1 | h1 <;> rw [h1]
  · rfl
  · cases s.seen <;> rfl
theorem Za4 {h : Hse} {met l : List Int} {k : Nat} {i : Int} {s : Sgt} (hi : l[k]? = some i) (hs : h.sights[i.toNat]? = some s) (h1 : s.seen = true) (h2 : (h.byL s).any (Z02 met) = false) : h.aptB met (l.drop k) = h.aptB (met ++ h.byL s) (l.drop (k + 1)) := by
  rw [List.drop_eq_getElem_cons (List.getElem?_eq_some_iff.1 hi).1, (List.getElem?_eq_some_iff.1 hi).2, Hse.aptB, hs]
  dsimp only
  rw [h1, h2]; rfl
theorem Zav (h : Hse) (met l : List Int) : h.aptB met (l.drop l.length) = true := by rw [List.drop_length]; rfl
theorem Z9S (h : Hse) (s : Sgt) : (h.byL s).length ≤ h.bins.toNat := Nat.le_trans (List.length_filter_le _ _) (Z1J _ _ _ _)
theorem Zas (h : Hse) (ag as_ : Option Addr) (cg cs : Nat) (hok : h.ok) (bd bx bs : Nat) (s : Sgt) (hs : SOk h [s]) (k : Int) (hk : 0 ≤ k ∧ k < 7) (H : Z8) (R : Z6) [hG : MemRows ag 2 (Zi h.gaps) R] [hS : MemRows as_ 3 (Zh h.sights) R] [mD : MemRows (some ⟨bd, 0, none⟩) 4 [(dkA h ag as_ cg cs bd).row] R] [mX : MemRows (some ⟨bx, 0, none⟩) 1 [[.pointer (some ⟨bd, 0, none⟩)]] R] [mS : MemRows (some ⟨bs, 0, none⟩) 3 [Z1S s] R] :
    FnV Try.prog 72 [.int .i64 k, .pointer (some ⟨bx, 0, none⟩), .pointer (some ⟨bs, 0, none⟩)] H R (.bool (h.byP s k)) := by
 refine Zg Try.func72 rfl Try.ntmps72 rfl ?_
 refine sqt 1 rfl (pur 1 rfl (sqt 8 rfl (spL rfl rfl (lfB (sz := 1) Z6k rfl) rfl (pur 1 rfl ?_))))
 refine bsl (out := [_]) rfl Z0E zl3 rfl rfl rfl rfl rfl rfl (fun b7 => ?_)
 refine spL rfl rfl (Zeq (sz := 3) (row := Z1S s) (Z1S s) Z9F (rest := []) (by simp) rfl) rfl ?_
 refine bsl (out := [_, _, _]) rfl Z9P Z4P rfl rfl rfl rfl rfl rfl (fun b9 => ?_)
 refine Sy.heap (fun w h9 => St.rows (sz := 1) (rows := Z4 [k]) (rest := []) (h9.pull b7) (by simp)) ?_
 refine Sy.heap (fun w h9 => St.rows (sz := 3) (rows := Zh [s]) (rest := []) (h9.pull b9) (by simp [Zh, Z1S])) ?_
 refine clV rfl Z7q rfl rfl (Z0S (dkA h ag as_ cg cs bd) (Z03 h ag as_ cg cs hok bd) rfl [k] (some ⟨b7, 0, none⟩) 1 (by simp) (fun x hx => by rw [List.mem_singleton.1 hx]; exact hk) [s] (some ⟨b9, 0, none⟩) 1 (by simp) hs _ _) ?_
 refine pur 2 rfl (Z5 ?_)
 exact rtA rfl rfl rfl ⟨rfl, rfl, rfl⟩ (fun w h9 => h9.ftail.ftail)
set_option maxHeartbeats 400000 in
theorem Ze7 (h : Hse) (ag as_ : Option Addr) (cg cs : Nat) (hok : h.ok) (bd bx b1 bf : Nat) (aF : Option Addr) (cF : Nat) (i : Nat) (s : Sgt) (hs : h.sights[i]? = some s) (H : Z8) (R : Z6) [hG : MemRows ag 2 (Zi h.gaps) R] [hS : MemRows as_ 3 (Zh h.sights) R] [mD : MemRows (some ⟨bd, 0, none⟩) 4 [(dkA h ag as_ cg cs bd).row] R] [mX : MemRows (some ⟨bx, 0, none⟩) 1 [[.pointer (some ⟨bd, 0, none⟩)]] R] [mB : MemRows (some ⟨b1, 0, none⟩) 3 [htl h (h.sg ag cg) (h.ss as_ cs)] R] [mF : MemRows (some ⟨bf, 0, none⟩) 1 [[.slice aF (h.clr h.sights (-1) 0).length cF]] R] [hFr : MemRows aF 1 (Z4 (h.clr h.sights (-1) 0)) R] :
    Fn Try.prog 69 [.int .i64 (i : Int), .pointer (some ⟨b1, 0, none⟩), .pointer (some ⟨bf, 0, none⟩), .pointer (some ⟨bx, 0, none⟩)] H R (fun v H' R' => ∃ a c, (h.byL s).length ≤ c ∧ v = .slice a (h.byL s).length c ∧ H' = H ∧ R' = RowsA a 1 (Z4 (h.byL s)) :: R) := by
 refine Zg Try.func69 rfl Try.ntmps69 rfl ?_
 refine sqt 1 rfl ?_
 have hil := (List.getElem?_eq_some_iff.1 hs).1
 have hsl := hok.sl
 have hcl := Z1J h h.sights (-1) 0
 have hbn := hok.bins
 refine Zm (a := as_) (sz := 3) (rows := Zh h.sights) (ne0 (by rw [Z1E]; omega)) (fun bas bao he => ?_)
 subst he
 refine pur 1 rfl (sqt 7 rfl (sp rfl (PE.fA ZN rfl) rfl (spL rfl rfl (lfB (sz := 3) Z2U rfl) rfl (pur 1 rfl (sp rfl (PE.indexAddr ZcP rfl rfl (by omega) (by omega)) rfl (spL rfl rfl (lfA Z9F (row := Z1S s) (Z7c hs) rfl) rfl (alc rfl Z4P rfl (fun b6 => ?_))))))))
 refine ZF (l' := Z1S s) rfl rfl rfl ZcO rfl rfl rfl rfl (nl rfl) ?_
 refine sqt 5 rfl ?_
 refine Sy.heap (fun w h9 => St.rows (sz := 3) (rows := [Z1S s]) (rest := []) (h9.pull b6) (by simp [Z1S])) ?_
 refine spL rfl rfl (lfB (sz := 1) Z2j rfl) rfl ?_
 refine cl rfl Z8U rfl rfl (Z0V (h.clr h.sights (-1) 0) aF cF (by omega) _ _) ?_
 rintro _ _ R1 ⟨o, rfl, rfl, hR1, _⟩
 obtain rfl := hR1.symm
 clear hR1
 refine sp rfl (PE.makeFunc rfl rfl) rfl ?_
 have hso : SOk h [s] := fun x hx => by rw [List.mem_singleton.1 hx]; exact hok.sights s (List.mem_of_getElem? hs)
 have hask : Ze6 72 [.pointer (some ⟨bx, 0, none⟩), .pointer (some ⟨b6, 0, none⟩)] (h.byP s) (h.clr h.sights (-1) 0) [RowsA (some ⟨bd, 0, none⟩) 4 [(dkA h ag (some ⟨bas, bao, none⟩) cg cs bd).row], RowsA (some ⟨bx, 0, none⟩) 1 [[.pointer (some ⟨bd, 0, none⟩)]], RowsA (some ⟨b6, 0, none⟩) 3 [Z1S s], RowsA ag 2 (Zi h.gaps), RowsA (some ⟨bas, bao, none⟩) 3 (Zh h.sights)] := ⟨Zdi, fun x hx H R hf => by
   haveI : MemRows (some ⟨bd, 0, none⟩) 4 [(dkA h ag (some ⟨bas, bao, none⟩) cg cs bd).row] R := ⟨hf _ (by simp)⟩
   haveI : MemRows (some ⟨bx, 0, none⟩) 1 [[.pointer (some ⟨bd, 0, none⟩)]] R := ⟨hf _ (by simp)⟩
   haveI : MemRows (some ⟨b6, 0, none⟩) 3 [Z1S s] R := ⟨hf _ (by simp)⟩
   haveI : MemRows ag 2 (Zi h.gaps) R := ⟨hf _ (by simp)⟩
   haveI : MemRows (some ⟨bas, bao, none⟩) 3 (Zh h.sights) R := ⟨hf _ (by simp)⟩
   exact Zas h ag (some ⟨bas, bao, none⟩) cg cs hok bd bx b6 s hso x (by have := Z1F x hx; omega) _ _⟩
 refine cl rfl ZdA rfl rfl (Z4k (h.clr h.sights (-1) 0) o (by omega) 72 [.pointer (some ⟨bx, 0, none⟩), .pointer (some ⟨b6, 0, none⟩)] (h.byP s) _ hask _ _) ?_
 rintro _ _ R1 ⟨a9, c9, hc9, rfl, rfl, hR1⟩
 obtain rfl := hR1.symm
 clear hR1
 refine pur 1 rfl (Z5 ?_)
 exact rtA rfl rfl rfl ⟨a9, c9, hc9, rfl, rfl, rfl⟩ (fun w h9 => h9.facts (fun g hg => by simp only [List.mem_cons] at hg ⊢; rcases hg with h8 | h8 <;> simp [h8, Hse.byL]))
theorem ZaB (met : List Int) (o : OSl 3 1 (Z4 met)) (hl : met.length ≤ 1000000) (k : Int) (bm : Nat) (T : Z8) (R : Z6) [hM : Mem1 bm (cel 27 [o.fs]) T] :
    FnV Try.prog 75 [.int .i64 k, .pointer (some ⟨bm, 0, none⟩)] (o.G ++ T) R (.bool (Z02 met k)) := by
 refine Zg Try.func75 rfl Try.ntmps75 rfl ?_
 refine sqt 1 rfl (pur 1 rfl (sqt 4 rfl (spL rfl rfl (lh (v := o.fs) Z2j rfl rfl) rfl (pur 1 rfl ?_))))
 refine clV rfl ZJ rfl rfl (FnV.lendO o (fun v => [v, .int .i64 k]) (fun a5 c5 B9 => by rw [irl]; exact Zx met a5 c5 k (by omega) _ _)) ?_
 refine pur 1 rfl (Z5 ?_)
 exact rtA rfl rfl rfl ⟨rfl, rfl, rfl⟩ drp
set_option maxHeartbeats 600000 in
theorem Zcb (h : Hse) (ag as_ : Option Addr) (cg cs : Nat) (hok : h.ok) (bd bx b1 bf bg7 bm9 : Nat) (aF : Option Addr) (cF m : Nat) (l : List Int) (al : Option Addr) (cl : Nat) (hln : l.length ≤ h.sights.length) (hlx : ∀ x ∈ l, 0 ≤ x ∧ x < (h.sights.length : Int)) (H : Z8) (R : Z6) [hG : MemRows ag 2 (Zi h.gaps) R] [hS : MemRows as_ 3 (Zh h.sights) R] [mD : MemRows (some ⟨bd, 0, none⟩) 4 [(dkA h ag as_ cg cs bd).row] R] [mX : MemRows (some ⟨bx, 0, none⟩) 1 [[.pointer (some ⟨bd, 0, none⟩)]] R] [mB : MemRows (some ⟨b1, 0, none⟩) 3 [htl h (h.sg ag cg) (h.ss as_ cs)] R] [mF : MemRows (some ⟨bf, 0, none⟩) 1 [[.slice aF (h.clr h.sights (-1) 0).length cF]] R] [mG : MemRows (some ⟨bg7, 0, none⟩) 1 [[.func (.func 69) #[] #[.pointer (some ⟨b1, 0, none⟩), .pointer (some ⟨bf, 0, none⟩), .pointer (some ⟨bx, 0, none⟩)]]] R] [mM : MemRows (some ⟨bm9, 0, none⟩) 1 [[.int .i64 (m : Int)]] R] [hFr : MemRows aF 1 (Z4 (h.clr h.sights (-1) 0)) R] [hL : MemRows al 1 (Z4 l) R] :
    FnV Try.prog 73 [.slice al l.length cl, .pointer (some ⟨bm9, 0, none⟩), .pointer (some ⟨b1, 0, none⟩), .pointer (some ⟨bg7, 0, none⟩)] H R (.bool (h.aptH m l)) := by
 refine Zg Try.func73 rfl Try.ntmps73 rfl ?_
 refine sqt 1 rfl ?_
 have hsl := hok.sl
 have hbn := hok.bins
 refine pur 1 rfl (Z1 (sqt 4 rfl (pur 1 rfl (sp rfl (PE.lenSl ZC rfl) rfl (spL rfl rfl (lfB (sz := 1) sc3 rfl) rfl (pur 1 rfl ?_))))))
 refine Z0 rfl ?_ ?_ <;> intro hc0 <;> try simp only [cS] at hc0
 refine sqt 1 rfl (pur 1 rfl (Z5 ?_))
 exact rtA rfl rfl rfl ⟨by simp only [ZV]; unfold Hse.aptH; rw [dF (show ¬ l.length = m by omega)]; rfl, rfl, rfl⟩ drp
 have hlm : l.length = m := by omega
 refine Z2 (sqt 1 rfl (alc rfl Z8h rfl (fun b6 => Z1 (sqt 3 rfl (pur 1 rfl (sp rfl (PE.lenSl ZC rfl) rfl (pur 1 rfl (Z3 ?_))))))))
 refine Ze (ι := (y : {y : Nat × List Int // y.1 ≤ l.length ∧ y.2.length ≤ 7 * y.1 ∧ h.aptB y.2 (l.drop y.1) = h.aptB [] l}) × OSl 3 1 (Z4 y.1.2)) (fun y => ⟨[(1, .pointer (some ⟨bm9, 0, none⟩)), (2, .pointer (some ⟨b1, 0, none⟩)), (3, .pointer (some ⟨bg7, 0, none⟩)), (6, .pointer (some ⟨b6, 0, none⟩)), (13, .slice al l.length cl), (14, .int .i64 l.length), (15, .int .i64 y.1.1.1)], y.2.G ++ ((b6, cel 27 [y.2.fs]) :: H), R⟩) (fun y => l.length - y.1.1.1) ⟨⟨(0, []), Nat.zero_le _, Nat.zero_le _, rfl⟩, OSl.nil _ _⟩ ?_ (fun y => ?_)
 exact Zn idH
 obtain ⟨⟨⟨k, met⟩, hk, hml, hap⟩, o⟩ := y
 dsimp only at hk hml hap o ⊢
 refine sqt 1 rfl (pur 1 rfl (Z1 ?_))
 refine Z0 rfl ?_ ?_ <;> intro hc1 <;> try simp only [cS] at hc1
 obtain ⟨z, hz⟩ : ∃ z, l[k]? = some z := ⟨_, List.getElem?_eq_getElem (by omega)⟩
 have hzr := hlx z (List.mem_of_getElem? hz)
 obtain ⟨zn, rfl⟩ : ∃ n : Nat, z = n := ⟨z.toNat, by omega⟩
 obtain ⟨s, hs⟩ : ∃ s, h.sights[zn]? = some s := ⟨_, List.getElem?_eq_getElem (by omega)⟩
 have hs2 : h.sights[((zn : Nat) : Int).toNat]? = some s := by rw [Int.toNat_natCast]; exact hs
 have hby := Z9S h s
 refine Zm (a := al) (sz := 1) (rows := Z4 l) (ne0 (by rw [irl]; omega)) (fun bl blo hebl => ?_)
 subst hebl
 refine Zm (a := as_) (sz := 3) (rows := Zh h.sights) (ne0 (by rw [Z1E]; omega)) (fun bas bao he => ?_)
 subst he
 refine Z2 (Z1 (Z3 (sqt 3 rfl (sp rfl (PE.indexAddr Z1c rfl rfl (by omega) (by omega)) rfl (spL rfl rfl (lf0 sc3 (ZQ hz) rfl) rfl (pur 1 rfl (Z1 (sqt 14 rfl (sp rfl (PE.fA ZN rfl) rfl (spL rfl rfl (lfB (sz := 3) Z2U rfl) rfl (pur 1 rfl (sp rfl (PE.indexAddr ZcP rfl rfl (by omega) (by omega)) rfl (sp rfl (PE.fA Z3x rfl) rfl (spL rfl rfl (lf (j := 2) sc4 (Z7c hs) rfl) rfl (pur 2 rfl ?_)))))))))))))))
 refine Zl 26 rfl ?_ ?_ <;> intro g26
 have hsf : s.seen = false := by simpa using g26
 refine pur 6 rfl ?_
 refine Z0l rfl ?_
 refine sqt 1 rfl (pur 1 rfl (Z5 ?_))
 first
   | exact rtA rfl rfl rfl ⟨by simp only [ZV]; unfold Hse.aptH; rw [← hap, Z3B hz hs2 (.inl hsf), Bool.and_false], rfl, rfl⟩ (fun w h9 => (St.drop (G := o.G) h9).del b6)
   | exact rtA rfl rfl rfl ⟨by simp only [ZV]; unfold Hse.aptH; rw [← hap, Z3B hz hs2 (.inr hc2), Bool.and_false], rfl, rfl⟩ (fun w h9 => ((St.drop (G := o.G) h9).del b6).ftail)
   | exact rtA rfl rfl rfl ⟨by simp only [ZV]; unfold Hse.aptH; rw [← hap, dT hlm]; rfl, rfl, rfl⟩ (fun w h9 => (St.drop (G := o.G) h9).del b6)
 have hst : s.seen = true := by simpa using g26
 refine Z2o rfl rfl rfl rfl rfl (lfB (sz := 1) Ze5 rfl) rfl (pur 1 rfl ?_)
 refine Zee rfl rfl rfl rfl rfl (Zcq) rfl rfl (Ze7 h ag (some ⟨bas, bao, none⟩) cg cs hok bd bx b1 bf aF cF zn s hs _ _) ?_
 rintro _ _ R1 ⟨a29, c29, hc29, rfl, rfl, hR1⟩
 obtain rfl := hR1.symm
 clear hR1
 refine spG rfl rfl rfl rfl (PE.makeFunc rfl rfl) rfl ?_
 refine Z1f rfl rfl rfl rfl Z8P rfl rfl (Z1U (h.byL s) a29 c29 75 [] [.pointer (some ⟨b6, 0, none⟩)] (Z02 met) Zdq (by omega) _ _ (fun x hx => ZaB met o (by omega) x b6 ((b6, cel 27 [o.fs]) :: H) _)) ?_
 refine pur 1 rfl ?_
 refine Z0 rfl ?_ ?_ <;> intro hc2 <;> try simp only [cS] at hc2
 refine sqt 1 rfl (pur 1 rfl (Z5 ?_))
 first
   | exact rtA rfl rfl rfl ⟨by simp only [ZV]; unfold Hse.aptH; rw [← hap, Z3B hz hs2 (.inl hsf), Bool.and_false], rfl, rfl⟩ (fun w h9 => (St.drop (G := o.G) h9).del b6)
   | exact rtA rfl rfl rfl ⟨by simp only [ZV]; unfold Hse.aptH; rw [← hap, Z3B hz hs2 (.inr hc2), Bool.and_false], rfl, rfl⟩ (fun w h9 => ((St.drop (G := o.G) h9).del b6).ftail)
   | exact rtA rfl rfl rfl ⟨by simp only [ZV]; unfold Hse.aptH; rw [← hap, dT hlm]; rfl, rfl, rfl⟩ (fun w h9 => (St.drop (G := o.G) h9).del b6)
 have hay := Za4 hz hs2 hst hc2
 rw [hay] at hap
 refine Z2 ?_
 refine Zc [0, 0, 0, 6, 15, 31] (.ld 0 (.ld 1 (.tk 2 (.big 3 (.big 4 (.big 5 .done)))))) Zw (by kernel_rfl) ?_
 refine ld rfl rfl (lh (v := o.fs) Z2j rfl rfl) rfl (ld rfl rfl (lfB (sz := 1) Ze5 rfl) rfl (Zr 1 rfl ?_))
 refine clF rfl rfl (Zcq) rfl rfl (Ze7 h ag (some ⟨bas, bao, none⟩) cg cs hok bd bx b1 bf aF cF zn s hs _ _) ?_
 rintro _ _ R1 ⟨a36, c36, hc36, rfl, rfl, hR1⟩
 obtain rfl := hR1.symm
 clear hR1
 refine bg (fun w hs => ⟨trivial, (lh (v := o.fs) Z2j rfl rfl) w hs, trivial⟩) ?_
 refine apO (news := Z4 (h.byL s)) o rfl Z3l rfl rfl (Z8s) (irl _) (by simp [Z0b, Z4, Value.oneCell']) (by rw [irl, irl]; omega) rfl (fun o37 => ?_)
 refine bgT ?_
 refine ZF (l' := [o37.fs]) rfl rfl rfl Z9R rfl (by rw [o37.cells.1]; first | done | rfl) (by rw [o37.cells.1]; simp [o37.cells.2]) (by rw [o37.cells.1]; first | done | rfl) (by rw [o37.cells.1]; first | done | exact Nat.le_of_ble_eq_true rfl) ?_
 refine bgT (sqr 2 rfl (sp rfl (PE.add rfl rfl (by omega)) rfl (pur 1 rfl ?_)))
 exact Z7 ⟨⟨(k + 1, met ++ h.byL s), by dsimp only; omega, by rw [List.length_append]; dsimp only; omega, hap⟩, o37.cast (by simp [Z4])⟩ (fun w h9 => St.sub h9)
 obtain rfl : k = l.length := by omega
 rw [Zav] at hap
 refine Z9 (Za (Za (Zo (sqt 1 rfl (pur 1 rfl (Z5 ?_))))))
 first
   | exact rtA rfl rfl rfl ⟨by simp only [ZV]; unfold Hse.aptH; rw [← hap, Z3B hz hs2 (.inl hsf), Bool.and_false], rfl, rfl⟩ (fun w h9 => (St.drop (G := o.G) h9).del b6)
   | exact rtA rfl rfl rfl ⟨by simp only [ZV]; unfold Hse.aptH; rw [← hap, Z3B hz hs2 (.inr hc2), Bool.and_false], rfl, rfl⟩ (fun w h9 => ((St.drop (G := o.G) h9).del b6).ftail)
   | exact rtA rfl rfl rfl ⟨by simp only [ZV]; unfold Hse.aptH; rw [← hap, dT hlm]; rfl, rfl, rfl⟩ (fun w h9 => (St.drop (G := o.G) h9).del b6)
set_option maxHeartbeats 600000 in
theorem Zb9 (h : Hse) (ag as_ : Option Addr) (cg cs : Nat) (hlg : h.gaps.length ≤ 9223372036854775807) (hls : h.sights.length ≤ 9223372036854775807) (H : Z8) (R : Z6) [hG : MemRows ag 2 (Zi h.gaps) R] [hS : MemRows as_ 3 (Zh h.sights) R] :
    Fn Try.prog 32 [h.v (h.sg ag cg) (h.ss as_ cs)] H R (fun v H' R' => ∃ a c', h.aptR.1.length ≤ c' ∧ v = .tuple #[.slice a h.aptR.1.length c', .int .i64 h.aptR.2] ∧ H' = H ∧ R' = RowsA a 1 (Z4 h.aptR.1) :: R) := by
 refine Zg Try.func32 rfl Try.ntmps32 rfl ?_
 refine sqt 3 rfl (bx rfl rfl rfl (fun b1 => pur 2 rfl (sqt 8 rfl (spL rfl rfl (lhA (htl h (h.sg ag cg) (h.ss as_ cs)) Z0g rfl rfl rfl) rfl ?_))))
 refine cl rfl Z8O rfl rfl (Z2u h ag as_ cg cs hlg hls _ _) ?_
 rintro _ _ _ ⟨rfl, ho⟩
 rcases ho with ⟨hck, rfl, rfl⟩ | ⟨hck, hag, rfl, rfl⟩ | ⟨hck, hag, bd, rfl, rfl⟩
 refine pur 3 rfl (alc rfl Z9Z rfl (fun b4 => ?_))
 refine sto rfl rfl rfl ZaX rfl rfl rfl rfl ?_
 refine pur 1 rfl (Z1 (sqt 2 rfl (pur 2 rfl ?_)))
 refine Z0 rfl ?_ ?_ <;> intro hc0
 have e : h.aptR = ([], h.check) := by unfold Hse.aptR; rw [dT hck]; rfl
 refine sqt 3 rfl (pur 3 rfl (Z5 ?_))
 rw [show h.check = (h.aptR).2 from by rw [e]]
 exact rtB rfl rfl rfl rfl ⟨none, 0, by rw [e] <;> exact Nat.le_refl _, by rw [e] <;> rfl, rfl, by rw [e] <;> rfl⟩ (fun w h9 => St.norows ((h9.del b4).del b1))
 exact absurd hc0 (by simp [hck])
 refine pur 3 rfl (alc rfl Z9Z rfl (fun b4 => ?_))
 refine sto rfl rfl rfl ZaX rfl rfl rfl rfl ?_
 refine pur 1 rfl (Z1 (sqt 2 rfl (pur 2 rfl ?_)))
 refine Z0 rfl ?_ ?_ <;> intro hc0
 have e : h.aptR = ([], 7) := by unfold Hse.aptR; rw [dF (by simp [hck]), hag]; rfl
 refine sqt 3 rfl (pur 3 rfl (Z5 ?_))
 exact rtB rfl rfl rfl rfl ⟨none, 0, by rw [e] <;> exact Nat.le_refl _, by rw [e] <;> rfl, rfl, by rw [e] <;> rfl⟩ (fun w h9 => St.norows ((h9.del b4).del b1))
 exact absurd hc0 (by simp)
 ·
  refine pur 3 rfl (alc rfl Z9Z rfl (fun b4 => ?_))
  refine sto rfl rfl rfl ZaX rfl rfl rfl rfl ?_
  refine pur 1 rfl (Z1 (sqt 2 rfl (pur 2 rfl ?_)))
  refine Z0 rfl ?_ ?_ <;> intro hc0
  exact absurd hc0 (by simp)
  ·
   have hok := hse_ok.1 hck
   have hbn := hok.bins
   have hsl := hok.sl
   have e : h.aptR = (h.aptK (h.sights.length + 1), 0) := by unfold Hse.aptR; rw [dF (by simp [hck]), hag]; rfl
   refine Sy.heap (fun w h9 => h9.perm (by first | exact .refl _ | exact List.Perm.swap _ _ _)) ?_
   refine Z2 (sqt 6 rfl (spL rfl rfl (lh Z6k rfl rfl) rfl (sp rfl (PE.fA ZN rfl) rfl (spL rfl rfl (lh Z2U rfl rfl) rfl ?_))))
   refine cl rfl Z6W rfl rfl (Z3f (dkA h ag as_ cg cs bd) (Z03 h ag as_ cg cs hok bd) rfl h.sights as_ cs hls hok.sights (-1) 0 (by decide) _ _) ?_
   rintro _ _ R1 ⟨aF, cF, rfl, rfl, hR1⟩
   obtain rfl := hR1.symm
   clear hR1
   rw [show (dkA h ag as_ cg cs bd).h = h from rfl]
   have hcl := Z1J h h.sights (-1) 0
   refine alc rfl Z8h rfl (fun b6 => ?_)
   refine ZF (l' := [.slice aF (h.clr h.sights (-1) 0).length cF]) rfl rfl rfl Z9R rfl rfl rfl rfl (nl rfl) ?_
   refine sqt 3 rfl (sp rfl (PE.makeFunc rfl rfl) rfl (alc rfl Zeh rfl (fun b7 => ?_)))
   refine ZF (l' := [.func (.func 69) #[] #[.pointer (some ⟨b1, 0, none⟩), .pointer (some ⟨b6, 0, none⟩), .pointer (some ⟨b4, 0, none⟩)]]) rfl rfl rfl Zef rfl rfl rfl rfl (nl rfl) ?_
   refine sqt 1 rfl ?_
   refine Sy.heap (fun w h9 => St.rows (sz := 3) (rows := [htl h (h.sg ag cg) (h.ss as_ cs)]) (rest := []) (h9.pull b1) (by simp [htl])) ?_
   refine Sy.heap (fun w h9 => St.rows (sz := 1) (rows := [[.pointer (some ⟨bd, 0, none⟩)]]) (rest := []) (h9.pull b4) (by simp)) ?_
   refine Sy.heap (fun w h9 => St.rows (sz := 1) (rows := [[.slice aF (h.clr h.sights (-1) 0).length cF]]) (rest := []) (h9.pull b6) (by simp)) ?_
   refine Sy.heap (fun w h9 => St.rows (sz := 1) (rows := [[.func (.func 69) #[] #[.pointer (some ⟨b1, 0, none⟩), .pointer (some ⟨b6, 0, none⟩), .pointer (some ⟨b4, 0, none⟩)]]]) (rest := []) (h9.pull b7) (by simp)) ?_
   refine Sy.heap (R' := RowsA none 1 (Z4 []) :: RowsA (some ⟨b7, 0, none⟩) 1 [[.func (.func 69) #[] #[.pointer (some ⟨b1, 0, none⟩), .pointer (some ⟨b6, 0, none⟩), .pointer (some ⟨b4, 0, none⟩)]]] :: RowsA (some ⟨b6, 0, none⟩) 1 [[.slice aF (h.clr h.sights (-1) 0).length cF]] :: RowsA aF 1 (Z4 (h.clr h.sights (-1) 0)) :: RowsA (some ⟨b4, 0, none⟩) 1 [[.pointer (some ⟨bd, 0, none⟩)]] :: RowsA (some ⟨b1, 0, none⟩) 3 [htl h (h.sg ag cg) (h.ss as_ cs)] :: RowsA (some ⟨bd, 0, none⟩) 4 [(dkA h ag as_ cg cs bd).row] :: R) (fun w h9 => St.norows (h9.facts (fun g hg => by simp only [List.mem_cons] at hg ⊢; rcases hg with h8 | h8 | h8 | h8 | h8 | h8 | h8 <;> simp [h8]))) ?_
   refine pur 1 rfl (Z1 (sqt 5 rfl (sp rfl (PE.fA ZN rfl) rfl (spL rfl rfl (lfB (sz := 3) Z2U rfl) rfl (sp rfl (PE.lenSl Z6u rfl) rfl (sp rfl (PE.add rfl rfl (by omega)) rfl (pur 1 rfl (Z3 ?_))))))))
   refine Ze (ι := {y : Nat × Option Addr × Nat // y.1 ≤ h.sights.length + 1 ∧ (h.aptK y.1).length ≤ y.2.2}) (fun y => ⟨[(1, .pointer (some ⟨b1, 0, none⟩)), (7, .pointer (some ⟨b7, 0, none⟩)), (8, .slice y.1.2.1 (h.aptK y.1.1).length y.1.2.2), (28, .int .i64 ((h.sights.length : Int) + 1)), (29, .int .i64 y.1.1)], H, RowsA y.1.2.1 1 (Z4 (h.aptK y.1.1)) :: RowsA (some ⟨b7, 0, none⟩) 1 [[.func (.func 69) #[] #[.pointer (some ⟨b1, 0, none⟩), .pointer (some ⟨b6, 0, none⟩), .pointer (some ⟨b4, 0, none⟩)]]] :: RowsA (some ⟨b6, 0, none⟩) 1 [[.slice aF (h.clr h.sights (-1) 0).length cF]] :: RowsA aF 1 (Z4 (h.clr h.sights (-1) 0)) :: RowsA (some ⟨b4, 0, none⟩) 1 [[.pointer (some ⟨bd, 0, none⟩)]] :: RowsA (some ⟨b1, 0, none⟩) 3 [htl h (h.sg ag cg) (h.ss as_ cs)] :: RowsA (some ⟨bd, 0, none⟩) 4 [(dkA h ag as_ cg cs bd).row] :: R⟩) (fun y => h.sights.length + 1 - y.1.1) ⟨(0, none, 0), Nat.zero_le _, Nat.le_refl _⟩ ?_ (fun y => ?_)
   exact Zn idH
   obtain ⟨⟨k, aB, cB⟩, hk, hcB⟩ := y
   dsimp only at hk hcB ⊢
   refine sqt 1 rfl (pur 1 rfl (Z1 ?_))
   refine Z0 rfl ?_ ?_ <;> intro hc1 <;> try simp only [cS] at hc1
   refine Z2 (Z1 (Z3 (sqt 3 rfl (pur 1 rfl (alc rfl zl3 rfl (fun b9 => ?_))))))
   refine ZF (l' := [.int .i64 (k : Int)]) rfl rfl rfl cn3 rfl rfl rfl rfl (nl rfl) ?_
   refine sqt 10 rfl ?_
   refine Sy.heap (fun w h9 => St.rows (sz := 1) (rows := [[.int .i64 (k : Int)]]) (rest := []) (h9.pull b9) (by simp)) ?_
   have hask : Zbl 73 [.pointer (some ⟨b9, 0, none⟩), .pointer (some ⟨b1, 0, none⟩), .pointer (some ⟨b7, 0, none⟩)] (h.aptH k) h.sights.length [RowsA (some ⟨b9, 0, none⟩) 1 [[.int .i64 (k : Int)]], RowsA (some ⟨b7, 0, none⟩) 1 [[.func (.func 69) #[] #[.pointer (some ⟨b1, 0, none⟩), .pointer (some ⟨b6, 0, none⟩), .pointer (some ⟨b4, 0, none⟩)]]], RowsA (some ⟨b6, 0, none⟩) 1 [[.slice aF (h.clr h.sights (-1) 0).length cF]], RowsA aF 1 (Z4 (h.clr h.sights (-1) 0)), RowsA (some ⟨b4, 0, none⟩) 1 [[.pointer (some ⟨bd, 0, none⟩)]], RowsA (some ⟨b1, 0, none⟩) 3 [htl h (h.sg ag cg) (h.ss as_ cs)], RowsA (some ⟨bd, 0, none⟩) 4 [(dkA h ag as_ cg cs bd).row], RowsA ag 2 (Zi h.gaps), RowsA as_ 3 (Zh h.sights)] := ⟨Zdj, fun l a c H R hf hr hx hl => by
     haveI : MemRows (some ⟨b9, 0, none⟩) 1 [[.int .i64 (k : Int)]] R := ⟨hf _ (by simp)⟩
     haveI : MemRows (some ⟨b7, 0, none⟩) 1 [[.func (.func 69) #[] #[.pointer (some ⟨b1, 0, none⟩), .pointer (some ⟨b6, 0, none⟩), .pointer (some ⟨b4, 0, none⟩)]]] R := ⟨hf _ (by simp)⟩
     haveI : MemRows (some ⟨b6, 0, none⟩) 1 [[.slice aF (h.clr h.sights (-1) 0).length cF]] R := ⟨hf _ (by simp)⟩
     haveI : MemRows aF 1 (Z4 (h.clr h.sights (-1) 0)) R := ⟨hf _ (by simp)⟩
     haveI : MemRows (some ⟨b4, 0, none⟩) 1 [[.pointer (some ⟨bd, 0, none⟩)]] R := ⟨hf _ (by simp)⟩
     haveI : MemRows (some ⟨b1, 0, none⟩) 3 [htl h (h.sg ag cg) (h.ss as_ cs)] R := ⟨hf _ (by simp)⟩
     haveI : MemRows (some ⟨bd, 0, none⟩) 4 [(dkA h ag as_ cg cs bd).row] R := ⟨hf _ (by simp)⟩
     haveI : MemRows ag 2 (Zi h.gaps) R := ⟨hf _ (by simp)⟩
     haveI : MemRows as_ 3 (Zh h.sights) R := ⟨hf _ (by simp)⟩
     haveI : MemRows a 1 (Z4 l) R := ⟨hr⟩
     exact Zcb h ag as_ cg cs hok bd b4 b1 b6 b7 b9 aF cF k l a c hl hx _ _⟩
   refine sp rfl (PE.fA ZN rfl) rfl (spL rfl rfl (lfB (sz := 3) Z2U rfl) rfl (sp rfl (PE.lenSl Z6u rfl) rfl (sp rfl (PE.makeFunc rfl rfl) rfl ?_)))
   refine cl rfl ZaR rfl rfl (Z27 73 [.pointer (some ⟨b9, 0, none⟩), .pointer (some ⟨b1, 0, none⟩), .pointer (some ⟨b7, 0, none⟩)] (h.aptH k) h.sights.length [RowsA (some ⟨b9, 0, none⟩) 1 [[.int .i64 (k : Int)]], RowsA (some ⟨b7, 0, none⟩) 1 [[.func (.func 69) #[] #[.pointer (some ⟨b1, 0, none⟩), .pointer (some ⟨b6, 0, none⟩), .pointer (some ⟨b4, 0, none⟩)]]], RowsA (some ⟨b6, 0, none⟩) 1 [[.slice aF (h.clr h.sights (-1) 0).length cF]], RowsA aF 1 (Z4 (h.clr h.sights (-1) 0)), RowsA (some ⟨b4, 0, none⟩) 1 [[.pointer (some ⟨bd, 0, none⟩)]], RowsA (some ⟨b1, 0, none⟩) 3 [htl h (h.sg ag cg) (h.ss as_ cs)], RowsA (some ⟨bd, 0, none⟩) 4 [(dkA h ag as_ cg cs bd).row], RowsA ag 2 (Zi h.gaps), RowsA as_ 3 (Zh h.sights)] hask (by omega) _ _) ?_
   rintro _ _ _ ⟨rfl, ho⟩
   rcases ho with ⟨hsh, rfl, rfl⟩ | ⟨x, a, c, hsh, hxc, rfl, rfl⟩
   refine pur 5 rfl (sqt 1 rfl (pur 1 rfl ?_))
   refine Z0 rfl ?_ ?_ <;> intro hc2
   exact absurd hc2 (by simp)
   have hak : h.aptK (k + 1) = h.aptK k := by rw [Hse.aptK, hsh]
   refine Z2 (sqr 2 rfl (sp rfl (PE.add rfl rfl (by omega)) rfl (pur 1 rfl ?_)))
   exact ZK ⟨(k + 1, aB, cB), by dsimp only; omega, by dsimp only; rw [hak]; exact hcB⟩ (by dsimp only; omega) (by dsimp only; rw [hak]; exact (by repeat' first | exact Sub.nil | apply Sub.cons | rfl | (simp [lk]; omega))) (fun w h9 => by dsimp only; rw [hak]; exact h9.ftail)
   refine pur 5 rfl (sqt 1 rfl (pur 1 rfl ?_))
   refine Z0 rfl ?_ ?_ <;> intro hc2
   have hak : h.aptK (k + 1) = x := by rw [Hse.aptK, hsh]
   refine sqr 2 rfl (pur 2 rfl (sqr 2 rfl (sp rfl (PE.add rfl rfl (by omega)) rfl (pur 1 rfl ?_))))
   exact ZK ⟨(k + 1, a, c), by dsimp only; omega, by dsimp only; rw [hak]; exact hxc⟩ (by dsimp only; omega) (by dsimp only; rw [hak]; exact (by repeat' first | exact Sub.nil | apply Sub.cons | rfl | (simp [lk]; omega))) (fun w h9 => by dsimp only; rw [hak]; exact h9.facts (fun g hg => by simp only [List.mem_cons] at hg ⊢; rcases hg with h8 | h8 <;> simp [h8]))
   exact absurd hc2 (by simp)
   obtain rfl : k = h.sights.length + 1 := by omega
   refine Z9 (Za (Za (Zo (sqt 3 rfl (pur 3 rfl (Z5 ?_))))))
   exact rtB rfl rfl rfl rfl ⟨aB, cB, by rw [e]; exact hcB, by rw [e] <;> rfl, rfl, rfl⟩ (fun w h9 => h9.facts (fun g hg => by rw [e] at hg; simp only [List.mem_cons] at hg ⊢; rcases hg with h8 | h8 <;> simp [h8]))
end Go.Proofs.Ythfgcnmcipcbbaa
