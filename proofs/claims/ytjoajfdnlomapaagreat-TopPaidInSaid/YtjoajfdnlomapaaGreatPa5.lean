/- Walks of the functions of the program, and the laws that join them: what the last theorem of this claim needs, in order. -/
import Derived.Test.YtjoajfdnlomapaaGreatPa4
namespace Go.Proofs.YtjoajfdnlomapaaGreat.Hn
set_option linter.unusedSimpArgs false
set_option linter.unusedVariables false
open Go
theorem Zc4 : cal Tryz.prog 107 = true := by kernel_rfl
theorem Ze5 : cal Tryz.prog 108 = true := by kernel_rfl
theorem Z6C : cal Tryz.prog 112 = true := by kernel_rfl
theorem ZdJ : cal Tryz.prog 174 = true := by kernel_rfl
theorem ZeH : cal Tryz.prog 61 = true := by kernel_rfl
theorem Zee {α : Type} {l : List α} {p : α → Bool} (h : l.any p = false) {x : α} (hx : x ∈ l) : p x = false := by
  rw [List.any_eq_false] at h
  simpa using h x hx
theorem Zbo {w : Wt} (hc : w.clash = false) {f t : Nat} (h : f < t) (ht : t < w.counts.length) : (w.cn t).lo ≤ (w.cn f).hi + w.bk f t ∧ (0 < w.gap f t → w.thr f t ≠ 0) := by
  have h1 := Zee hc (str_mem.2 ⟨h, ht⟩)
  simp only [Wt.bad, Bool.or_eq_false_iff, Bool.and_eq_false_iff, decide_eq_false_iff_not] at h1
  exact ⟨by omega, fun h2 => by rcases h1.2 with h3 | h3; exact absurd h2 h3; exact h3⟩
theorem Z0y (wt : Wt) (a1 a2 a3 : Option Addr) (k1 k2 k3 : Nat) (hw : wt.ok) (H : Z6) (R : Z3) [hR1 : MemRows a1 3 (crows wt.counts) R] [hR2 : MemRows a2 2 (bkrows wt.books) R] [hR3 : MemRows a3 3 (sprows wt.spells) R] :
    Fn Tryz.prog 107 [(wt.v a1 a2 a3 k1 k2 k3)] H R (fun v H' R' => ∃ (bd m : Nat) (kv : KV), v = .tuple #[.pointer (some ⟨bd, 0, none⟩), .int .i64 0] ∧ KvW wt kv ∧ H' = H ∧ R' = RowsA (some ⟨bd, 0, none⟩) 15 [(wtl wt a1 a2 a3 k1 k2 k3 ++ (Zd (wt.sums) ++ [.map (some m)]))] :: MpF m kv :: R) := by
 refine Z8 Tryz.func107 rfl Tryz.ntmps107 rfl ?_
 refine sqt 3 rfl (bx rfl rfl rfl (fun b1 => pur 2 rfl (Z0 (sqt 3 rfl (spL rfl rfl (lhA (wtl wt a1 a2 a3 k1 k2 k3) Z5o rfl rfl rfl) rfl ?_)))))
 refine clV rfl ZeH rfl rfl (Z1d wt a1 a2 a3 k1 k2 k3 hw _ _) ?_
 refine pur 1 rfl (sqt 2 rfl (pur 2 rfl ?_))
 refine Z2 rfl ?_ ?_ <;> intro hc0
 exact absurd hc0 (by simp)
 refine Z5 (sqt 4 rfl (spL rfl rfl (lhA (wtl wt a1 a2 a3 k1 k2 k3) Z5o rfl rfl rfl) rfl ?_))
 refine cl rfl ZdJ rfl rfl (Z8K wt a1 a2 a3 k1 k2 k3 hw _ _) ?_
 rintro _ _ R1 ⟨bd, m, kv, rfl, hkv, rfl, hR1⟩
 subst hR1
 refine pur 2 rfl (Z1 ?_)
 exact rtB rfl rfl rfl rfl ⟨bd, m, kv, rfl, hkv, rfl, rfl⟩ (fun w h => h.del b1)
theorem Z6y (wt : Wt) (a1 a2 a3 : Option Addr) (k1 k2 k3 : Nat) (hw : wt.ok) (bd m : Nat) (kv : KV) (hkv : KvW wt kv) (hcl : wt.clash = false) (H : Z6) (R : Z3) [hD : MemRows (some ⟨bd, 0, none⟩) 15 [(wtl wt a1 a2 a3 k1 k2 k3 ++ (Zd (wt.sums) ++ [.map (some m)]))] R] [hR1 : MemRows a1 3 (crows wt.counts) R] [hK : MemF (MpF m kv) R] :
    FnV Tryz.prog 108 [.pointer (some ⟨bd, 0, none⟩)] H R (.tuple #[.agg #[.int .i64 0, .int .i64 0], .bool false]) := by
 have hnc := hw.nc
 refine Z8 Tryz.func108 rfl Tryz.ntmps108 rfl ?_
 refine sqt 2 rfl (alc rfl Z28 rfl (fun b2 => pur 1 rfl (Z8E (sqt 1 rfl (alc rfl Z28 rfl (fun b4 => sqt 1 rfl (pur 1 rfl (Z0 (Z9t (Z0 (sqt 7 rfl ?_)))))))))))
 refine Zl (a := a1) (sz := 3) (rows := crows wt.counts) (by intro h0; have h9 := congrArg List.length h0; rw [Zei] at h9; have h8 : wt.counts.length = 0 := h9; omega) (fun bf of he => ?_)
 subst he
 refine pur 1 rfl (sp rfl (PE.nilCheck rfl) rfl (sp rfl (PE.fA Z0e rfl) rfl (sp rfl (PE.fA ZP rfl) rfl (spL rfl rfl (lfB (sz := 15) Z15 rfl) rfl (sp rfl (PE.lenSl Z0Q rfl) rfl (pur 1 rfl (Z4 ?_)))))))
 refine Zc (ι := {f : Nat // f ≤ wt.counts.length}) (fun f => ⟨[(0, .pointer (some ⟨bd, 0, none⟩)), (2, .pointer (some ⟨b2, 0, none⟩)), (4, .pointer (some ⟨b4, 0, none⟩)), (5, .bool false), (14, .slice (some ⟨bf, of, none⟩) wt.counts.length k1), (15, .int .i64 wt.counts.length), (16, .int .i64 f.1)], (b4, cel 195 [.int .i64 0, .int .i64 0]) :: (b2, cel 195 [.int .i64 0, .int .i64 0]) :: H, R⟩) (fun f => wt.counts.length - f.1) ⟨0, Nat.zero_le _⟩ ?_ (fun f => ?_)
 exact Zk idH
 obtain ⟨f, hf⟩ := f
 dsimp only at hf ⊢
 refine sqt 1 rfl (pur 1 rfl (Z0 ?_))
 refine Z2 rfl ?_ ?_ <;> intro hc0
 try simp only [cS] at hc0
 have hcf : wt.counts[f]? = some (wt.cn f) := Z0p (by omega)
 refine Z5 (Z0 (Z4 (sqt 6 rfl (pur 1 rfl (sp rfl (PE.indexAddr Z6c rfl rfl (by omega) (by omega)) rfl (spL rfl rfl (lfA Z33 (row := Z0t (wt.cn f)) (ZK hcf) rfl) rfl (alc rfl Z8V rfl (fun b7 => pur 1 rfl ?_))))))))
 refine sto rfl rfl rfl Zej rfl rfl rfl rfl ?_
 refine sqt 3 rfl (pur 1 rfl (sp rfl (PE.add rfl rfl (by omega)) rfl (pur 1 rfl (Z4 ?_))))
 refine Zc (ι := {t : Nat // f + 1 ≤ t ∧ t ≤ wt.counts.length}) (fun t => ⟨[(0, .pointer (some ⟨bd, 0, none⟩)), (2, .pointer (some ⟨b2, 0, none⟩)), (4, .pointer (some ⟨b4, 0, none⟩)), (5, .bool false), (14, .slice (some ⟨bf, of, none⟩) wt.counts.length k1), (15, .int .i64 wt.counts.length), (16, .int .i64 f), (6, .int .i64 f), (7, .pointer (some ⟨b7, 0, none⟩)), (8, .int .i64 t.1)], (b7, cel 89 (Z0t (wt.cn f))) :: (b4, cel 195 [.int .i64 0, .int .i64 0]) :: (b2, cel 195 [.int .i64 0, .int .i64 0]) :: H, R⟩) (fun t => wt.counts.length - t.1) ⟨f + 1, Nat.le_refl _, by omega⟩ ?_ (fun t => ?_)
 exact Zk idH
 obtain ⟨t, ht1, ht2⟩ := t
 dsimp only at ht1 ht2 ⊢
 refine Z0 (sqt 8 rfl (pur 2 rfl (sp rfl (PE.nilCheck rfl) rfl (sp rfl (PE.fA Z0e rfl) rfl (sp rfl (PE.fA ZP rfl) rfl (spL rfl rfl (lfB (sz := 15) Z15 rfl) rfl (sp rfl (PE.lenSl Z0Q rfl) rfl (pur 1 rfl ?_))))))))
 refine Z2 rfl ?_ ?_ <;> intro hc1
 try simp only [cS] at hc1
 have hct : wt.counts[t]? = some (wt.cn t) := Z0p (by omega)
 obtain ⟨hnb1, hnb2⟩ := Zbo hcl (f := f) (t := t) (by omega) (by omega)
 have hkw := hkv.at_ f t (by omega) (by omega)
 have hbd := Z98 hw (f := f) (t := t) (by omega) (by omega)
 have h2 := Z5V hw (i := f) (by omega)
 have h3 := Z5V hw (i := t) (by omega)
 refine Z5 (Z0 (Z4 (sqt 5 rfl (pur 2 rfl (sp rfl (PE.build (out := [_, _]) Z8O Z28 rfl rfl) rfl (alc rfl Z28 rfl (fun b9 => ?_)))))))
 refine sto rfl rfl rfl Z4e rfl rfl rfl rfl ?_
 refine Z0 ?_
 refine Z9 [0, 1, 3, 7, 15, 0, 63, 127, 255, 511, 0, 1024, 3072, 0, 0, 24576, 64512, 131071, 262143, 524287, 524287, 2097151, 4194303, 8388607, 16777215, 33554431, 67108863, 134217727, 16777215, 536870911, 1073741823, 2147483647, 4294967295] (tks 0 4 (.ld 4 (tks 5 4 (.ld 9 (.tk 10 (.tk 11 (.ld 12 (.tk 13 (.ld 14 (.big 15 (tks 16 4 (.ld 20 (.big 21 (tks 22 5 (.ld 27 (.ld 28 (.ld 29 (tks 30 3 .done)))))))))))))))))) Zo (by kernel_rfl) ?_
 refine Zf 1 rfl (tk rfl (PE.nilCheck rfl) rfl (tk rfl (PE.fA Z0e rfl) rfl (tk rfl (PE.fA ZP rfl) rfl (ld rfl rfl (lfB (sz := 15) Z15 rfl) rfl (Zf 1 rfl (tk rfl (PE.indexAddr Z6c rfl rfl (by omega) (by omega)) rfl (tk rfl (PE.fA Z24 rfl) rfl (tk rfl (PE.fA ZM rfl) rfl (ld rfl rfl (lf (j := 1) (x := .int .i64 (wt.cn t).lo) sc3 (ZK hct) rfl) rfl (tk rfl (PE.fA Z24 rfl) rfl (tk rfl (PE.fA ZQ rfl) rfl (ld rfl rfl (lh sc3 rfl rfl) rfl (Zf 1 rfl (ld rfl rfl (lhA [_, _] Z0G rfl rfl rfl) rfl ?_))))))))))))))
 refine clV rfl Z9A rfl rfl (Z7V wt (some ⟨bf, of, none⟩) a2 a3 k1 k2 k3 hw bd m f t (by omega) (by omega) _ _) ?_
 refine bg (fun w hs => ⟨trivial, (lh sc3 rfl rfl) w hs, (lf (j := 1) (x := .int .i64 (wt.cn t).lo) sc3 (ZK hct) rfl) w hs, (lfB (sz := 15) Z15 rfl) w hs, trivial⟩) ?_
 refine tk rfl (PE.add rfl rfl (by omega)) rfl (Zf 2 rfl ?_)
 refine Zp 54 rfl ?_ ?_ <;> intro g54
 exact absurd g54 (by simp; omega)
 refine Zf 1 rfl (ldG rfl rfl rfl rfl rfl (lhA [_, _] Z0G rfl rfl rfl) rfl ?_)
 refine Z3c rfl rfl rfl rfl Z6C rfl rfl (Zb3 wt (some ⟨bf, of, none⟩) a2 a3 k1 k2 k3 hw bd m f t (by omega) (by omega) _ _) ?_
 refine bgT (Zf 2 rfl ?_)
 refine Zp 59 rfl ?_ ?_ <;> intro g59
 try simp only [cS] at g59
 have hnz := hnb2 g59
 refine Zf 1 rfl ?_
 refine tkG rfl rfl rfl rfl (PE.nilCheck rfl) rfl ?_
 refine tkG rfl rfl rfl rfl (PE.fA Z3L rfl) rfl ?_
 refine ldG rfl rfl rfl rfl rfl (lfB (sz := 15) Z8u (Z5E (by rw [(Z1j hw).len]; rfl))) rfl (ldG rfl rfl rfl rfl rfl (lhA [_, _] Z0G rfl rfl rfl) rfl ?_)
 refine Zgc rfl rfl rfl rfl rfl rfl (Z3M (b := true) kv [((f : Nat) : Int), ((t : Nat) : Int)] Z20 (KeyT.of Z1r Z1X) (Z21 zv3) rfl hkv.len (fun w hs => hs.now hK.mem) hkw) rfl ?_
 refine Zf 3 rfl ?_
 refine Z2 rfl ?_ ?_ <;> intro hc2
 first | (exfalso; revert hc2; simp; done) | (exfalso; revert hc2; simp [hnz])
 refine Z5 (sqr 3 rfl (pur 1 rfl (sp rfl (PE.add rfl rfl (by omega)) rfl (pur 1 rfl ?_))))
 exact Ze ⟨t + 1, by omega, by omega⟩ (fun w h => h.del b9)
 refine Zf 3 rfl ?_
 repeat refine ldN rfl rfl rfl rfl rfl rfl rfl rfl ?_
 refine Zf 3 rfl ?_
 refine Z01 rfl ?_
 refine Z5 (sqr 3 rfl (pur 1 rfl (sp rfl (PE.add rfl rfl (by omega)) rfl (pur 1 rfl ?_))))
 exact Ze ⟨t + 1, by omega, by omega⟩ (fun w h => h.del b9)
 refine Za (Zb (Zb (Zr (sqr 2 rfl (sp rfl (PE.add rfl rfl (by omega)) rfl (pur 1 rfl ?_))))))
 exact Ze ⟨f + 1, by omega⟩ (fun w h => h.del b7)
 refine Za (Zb (Zb (Zr (sqt 4 rfl (spL rfl rfl (lhA [_, _] Z0G rfl rfl rfl) rfl (pur 1 rfl ?_))))))
 refine sto rfl rfl rfl Z4e rfl rfl rfl rfl ?_
 refine pur 1 rfl (Z1 ?_)
 exact Z7 (vs := [_, _]) rfl (.cons (RV.cell rfl (lhA [_, _] Z0G rfl rfl rfl)) (.cons (RV.tmp rfl) .nil)) rfl ⟨rfl, rfl, rfl⟩ (fun w h => (h.del b4).del b2)
theorem Z4p (wt : Wt) (a1 a2 a3 : Option Addr) (k1 k2 k3 : Nat) (hw : wt.ok) (hcl : wt.clash = false) (H : Z6) (R : Z3) [hR1 : MemRows a1 3 (crows wt.counts) R] [hR2 : MemRows a2 2 (bkrows wt.books) R] [hR3 : MemRows a3 3 (sprows wt.spells) R] :
    Fn Tryz.prog 51 [(wt.v a1 a2 a3 k1 k2 k3), .bool false] H R (fun v H' R' => ∃ (bd m : Nat) (kv : KV), v = .tuple #[.pointer (some ⟨bd, 0, none⟩), .int .i64 0] ∧ KvW wt kv ∧ H' = H ∧ R' = RowsA (some ⟨bd, 0, none⟩) 15 [(wtl wt a1 a2 a3 k1 k2 k3 ++ (Zd (wt.sums) ++ [.map (some m)]))] :: MpF m kv :: R) := by
 refine Z8 Tryz.func51 rfl Tryz.ntmps51 rfl ?_
 refine sqt 3 rfl (bx rfl rfl rfl (fun b2 => pur 2 rfl (sqt 7 rfl (spL rfl rfl (lhA (wtl wt a1 a2 a3 k1 k2 k3) Z5o rfl rfl rfl) rfl ?_))))
 refine cl rfl Zc4 rfl rfl (Z0y wt a1 a2 a3 k1 k2 k3 hw _ _) ?_
 rintro _ _ R1 ⟨bd, m, kv, rfl, hkv, rfl, hR1⟩
 subst hR1
 refine pur 5 rfl (Z0 (Z4 (sqt 3 rfl (pur 3 rfl ?_))))
 refine Z2 rfl ?_ ?_ <;> intro hc0
 exact absurd hc0 (by simp)
 refine sqt 2 rfl (pur 2 rfl ?_)
 refine Z2 rfl ?_ ?_ <;> intro hc1
 exact absurd hc1 (by simp)
 refine Z5 (Z0 (sqt 8 rfl (pur 1 rfl ?_)))
 refine clV rfl Ze5 rfl rfl (Z6y wt a1 a2 a3 k1 k2 k3 hw bd m kv hkv hcl _ _) ?_
 refine pur 3 rfl (alc rfl Z28 rfl (fun b8 => ?_))
 refine sto rfl rfl rfl Z4e rfl rfl rfl rfl ?_
 refine pur 1 rfl (sqt 1 rfl (pur 1 rfl ?_))
 refine Z2 rfl ?_ ?_ <;> intro hc2
 exact absurd hc2 (by simp)
 refine Z5 (sqt 3 rfl (pur 3 rfl (Z1 ?_)))
 exact rtB rfl rfl rfl rfl ⟨bd, m, kv, rfl, hkv, rfl, rfl⟩ (fun w h => (h.del b8).del b2)
theorem Ze6 : cal Tryz.prog 105 = true := by kernel_rfl
theorem Zcu : cal Tryz.prog 114 = true := by kernel_rfl
theorem ZdX : cal Tryz.prog 173 = true := by kernel_rfl
theorem ZcC : cal Tryz.prog 177 = true := by kernel_rfl
theorem Zd3 : cal Tryz.prog 204 = true := by kernel_rfl
theorem Z6j : elN Tryz.prog 137 = some 2 := by kernel_rfl
theorem ik5 : Z8i Tryz.prog 5 = some .u8 := by kernel_rfl
theorem Zdp : Z2X Tryz.prog 137 = true := by kernel_rfl
theorem ZeI : ZaM Tryz.prog 9 = true := by kernel_rfl
theorem ZfE : (Tryz.prog.underlying 247).isSome = true := by kernel_rfl
theorem us5 : (Tryz.prog.underlying 5).isSome = true := by kernel_rfl
def Z00 (l : List (Int × Int)) : List (List Value) := l.map fun x => [.int .i64 x.1, .int .i64 x.2]
theorem Z37 (l : List (Int × Int)) : (Z00 l).length = l.length := List.length_map _
theorem Z4s (l : List (Int × Int)) : ∀ r ∈ Z00 l, r.length = 2 := fun r hr => by obtain ⟨x, _, rfl⟩ := List.mem_map.1 hr; rfl
theorem Z9K {l : List (Int × Int)} {k : Nat} {x : Int × Int} (h : l[k]? = some x) : (Z00 l)[k]? = some [.int .i64 x.1, .int .i64 x.2] := by simp [Z00, h]
theorem Z59 {sz : Nat} {rows : List (List Value)} (hs : ∀ r ∈ rows, r.length = sz) {k : Nat} {row : List Value} (h : rows[k]? = some row) (junk : List Value) : ∃ rest, (rows.flatten ++ junk).drop (k * sz) = row ++ rest := by
  have hk := (List.getElem?_eq_some_iff.1 h).1
  have e : rows = rows.take k ++ row :: rows.drop (k + 1) := by
    conv => lhs; rw [← List.take_append_drop k rows]
    rw [List.drop_eq_getElem_cons hk, (List.getElem?_eq_some_iff.1 h).2]
  have hl : (rows.take k).flatten.length = k * sz := by rw [ZN fun r hr => hs r (List.mem_of_mem_take hr), List.length_take, Nat.min_eq_left (by omega)]
  refine ⟨(rows.drop (k + 1)).flatten ++ junk, ?_⟩
  conv => lhs; rw [e]
  rw [List.flatten_append, List.flatten_cons, List.append_assoc, List.append_assoc, ← hl, List.drop_left]
theorem Z91 (A M B J row : List Value) (h : row.length = M.length) : spl ((A ++ (M ++ B)) ++ J) A.length row = (A ++ (row ++ B)) ++ J := by
  unfold spl
  rw [List.append_assoc A, List.take_left, List.drop_length_add_append, h, List.append_assoc M, List.drop_left]
  simp only [List.append_assoc]
theorem Z6F {sz : Nat} {rows : List (List Value)} (hs : ∀ r ∈ rows, r.length = sz) {k i : Nat} {row : List Value} (hk : k < rows.length) (hr : row.length = sz) (e : i = k * sz) (junk : List Value) : spl (rows.flatten ++ junk) i row = (rows.set k row).flatten ++ junk := by
  have hl : (rows.take k).flatten.length = k * sz := by rw [ZN fun r hr => hs r (List.mem_of_mem_take hr), List.length_take, Nat.min_eq_left (by omega)]
  have e1 : rows.flatten = (rows.take k).flatten ++ (rows[k] ++ (rows.drop (k + 1)).flatten) := by
    conv => lhs; rw [← List.take_append_drop k rows]
    rw [List.drop_eq_getElem_cons hk, List.flatten_append, List.flatten_cons]
  have h2 : rows[k].length = sz := hs _ (List.getElem_mem hk)
  rw [List.set_eq_take_append_cons_drop, if_pos hk, List.flatten_append, List.flatten_cons, e1, e, ← hl]
  exact Z91 _ _ _ _ _ (by rw [hr, h2])
theorem Z9B (l : List (Int × Int)) (k : Nat) (x : Int × Int) : (Z00 l).set k [.int .i64 x.1, .int .i64 x.2] = Z00 (l.set k x) := by simp [Z00, List.map_set]
theorem Z7I (l : List (Int × Int)) : (Z00 l).flatten.length = l.length * 2 := by rw [ZN (Z4s l), Z37]
theorem Zb6 (k : Nat) (hk : k ≤ 12) (H : Z6) (R : Z3) :
    Fn Tryz.prog 173 [.int .u64 k] H R (fun v H' R' => ∃ z : Int, v = .int .i64 z ∧ H' = H ∧ R' = R) := by
 refine Z8 Tryz.func173 rfl Tryz.ntmps173 rfl ?_
 refine sqt 1 rfl (pur 1 rfl (Z0 (sqt 2 rfl (pur 1 rfl (sp rfl (PE.geq  rfl rfl) rfl ?_)))))
 refine Z2 rfl ?_ ?_ <;> intro hc0
 simp only [decide_eq_true_eq] at hc0
 omega
 refine Z5 (Z0 (sqt 2 rfl (pur 1 rfl (sp rfl (PE.geq  rfl rfl) rfl ?_))))
 refine Z2 rfl ?_ ?_ <;> intro hc1
 simp only [decide_eq_true_eq] at hc1
 omega
 refine Z5 (Z0 (sqt 2 rfl (pur 1 rfl (sp rfl (PE.geq  rfl rfl) rfl ?_))))
 refine Z2 rfl ?_ ?_ <;> intro hc2
 simp only [decide_eq_true_eq] at hc2
 omega
 refine Z5 (sqt 7 rfl (pur 2 rfl ?_))
 refine sp rfl ((PE.convert ZfE ik5 rfl).to (by rw [Z63 (by omega) (by omega)])) rfl ?_
 refine spE rfl (PE.indexS (m := 256) ZeI rfl rfl (by kernel_rfl) (by omega)) rfl ?_
 rintro _ ⟨u22, rfl, hu22⟩
 refine sp rfl (PE.conv64 us5 ik3 rfl (by omega)) rfl (sp rfl (PE.add rfl rfl (by omega)) rfl (pur 1 rfl (Z1 ?_)))
 exact rtA rfl rfl rfl ⟨_, rfl, rfl, rfl⟩ idH
theorem ZfY (k : Nat) (hk : k ≤ 12) (H : Z6) (R : Z3) :
    Fn Tryz.prog 105 [.int .u64 k] H R (fun v H' R' => ∃ z : Int, v = .int .i64 z ∧ H' = H ∧ R' = R) := by
 refine Z8 Tryz.func105 rfl Tryz.ntmps105 rfl ?_
 refine sqt 1 rfl (pur 1 rfl (Z0 ?_))
 refine Z01 rfl ?_
 refine Z5 (sqt 3 rfl (pur 1 rfl ?_))
 refine cl rfl ZdX rfl rfl (Zb6 k hk _ _) ?_
 rintro _ _ R1 ⟨z, rfl, rfl, hR1⟩
 obtain rfl := hR1.symm
 clear hR1
 refine pur 1 rfl (Z1 ?_)
 exact rtA rfl rfl rfl ⟨_, rfl, rfl, rfl⟩ idH
theorem Ze8 (x y : Int × Int) (H : Z6) (R : Z3) :
    Fn Tryz.prog 114 [.agg #[.int .i64 x.1, .int .i64 x.2], .agg #[.int .i64 y.1, .int .i64 y.2]] H R (fun v H' R' => ∃ z : Int, v = .int .i64 z ∧ H' = H ∧ R' = R) := by
 refine Z8 Tryz.func114 rfl Tryz.ntmps114 rfl ?_
 refine sqt 3 rfl (bx rfl rfl rfl (fun b2 => bx rfl rfl rfl (fun b3 => pur 1 rfl (sqt 13 rfl (sp rfl (PE.fA Z1I rfl) rfl (spL rfl rfl (lh sc3 rfl rfl) rfl (sp rfl (PE.fA Z1I rfl) rfl (spL rfl rfl (lh sc3 rfl rfl) rfl (sp rfl (PE.subW rfl rfl) rfl (sp rfl (PE.mulW rfl rfl) rfl (sp rfl (PE.fA Z1m rfl) rfl (spL rfl rfl (lh sc3 rfl rfl) rfl (sp rfl (PE.addW rfl rfl) rfl (sp rfl (PE.fA Z1m rfl) rfl (spL rfl rfl (lh sc3 rfl rfl) rfl ?_)))))))))))))))
 refine sp rfl (PE.subW rfl rfl) rfl (pur 1 rfl (Z1 ?_))
 exact rtA rfl rfl rfl ⟨_, rfl, rfl, rfl⟩ drp
theorem Zcz (l : List (Int × Int)) (n b cap : Nat) (junk : List Value) (hl : l.length = n) (hn : n ≤ 12) (H : Z6) (R : Z3) :
    Fn Tryz.prog 204 [.slice (some ⟨b, 0, none⟩) n cap, .int .i64 0, .int .i64 n, .func (.func 114) #[] #[]] ((b, cel 195 ((Z00 l).flatten ++ junk)) :: H) R (fun v H' R' => v = .tuple #[] ∧ H' = H ∧ R' = R) := by
 refine Z8 Tryz.func204 rfl Tryz.ntmps204 rfl ?_
 refine sqt 3 rfl (pur 1 rfl (sp rfl (PE.add rfl rfl (by omega)) rfl (pur 1 rfl (Z4 ?_))))
 refine Zc (ι := {x : Nat × List (Int × Int) // 1 ≤ x.1 ∧ x.1 ≤ 13 ∧ x.2.length = n}) (fun x => ⟨[(0, .slice (some ⟨b, 0, none⟩) n cap), (1, .int .i64 0), (2, .int .i64 n), (3, .func (.func 114) #[] #[]), (8, .int .i64 x.1.1)], (b, cel 195 ((Z00 x.1.2).flatten ++ junk)) :: H, R⟩) (fun x => n - x.1.1) ⟨(1, l), by omega, by omega, hl⟩ ?_ (fun x => ?_)
 exact Zk idH
 obtain ⟨⟨i, xs⟩, hi1, hi2, hxl⟩ := x
 dsimp only at hi1 hi2 hxl ⊢
 refine Z0 (sqt 3 rfl (pur 3 rfl ?_))
 refine Z2 rfl ?_ ?_ <;> intro hc0
 try simp only [cS] at hc0
 refine Z5 (Z0 (Z4 (sqt 2 rfl (pur 2 rfl (Z4 ?_)))))
 refine Zc (ι := {x : Nat × List (Int × Int) // x.1 ≤ i ∧ x.2.length = n}) (fun x => ⟨[(0, .slice (some ⟨b, 0, none⟩) n cap), (1, .int .i64 0), (2, .int .i64 n), (3, .func (.func 114) #[] #[]), (8, .int .i64 i), (9, .int .i64 x.1.1)], (b, cel 195 ((Z00 x.1.2).flatten ++ junk)) :: H, R⟩) (fun x => x.1.1) ⟨(i, xs), Nat.le_refl _, hxl⟩ ?_ (fun x => ?_)
 exact Zk idH
 obtain ⟨⟨j, ys⟩, hji, hyl⟩ := x
 dsimp only at hji hyl ⊢
 refine Z0 (Z0 ?_)
 refine Z9 [0, 0, 3, 7, 15, 15, 15, 111, 239, 15, 15, 1039, 3599, 7695, 16383, 32767, 65535] (tks 0 8 (.ld 8 (tks 9 4 (.ld 13 (.big 14 (.tk 15 (.tk 16 .done))))))) Zo (by kernel_rfl) ?_
 refine Zf 4 rfl ?_
 refine Zp 21 rfl ?_ ?_ <;> intro g21
 try simp only [cS] at g21
 obtain ⟨x, hx⟩ : ∃ x, ys[j]? = some x := ⟨_, List.getElem?_eq_getElem (by omega)⟩
 obtain ⟨y, hy⟩ : ∃ y, ys[j - 1]? = some y := ⟨_, List.getElem?_eq_getElem (by omega)⟩
 obtain ⟨rx, hrx⟩ : ∃ rest, ((Z00 ys).flatten ++ junk).drop (0 + ((j : Nat) : Int).toNat * 2) = [.int .i64 x.1, .int .i64 x.2] ++ rest := by rw [Nat.zero_add, Int.toNat_natCast]; exact Z59 (Z4s ys) (Z9K hx) junk
 obtain ⟨ry, hry⟩ : ∃ rest, ((Z00 ys).flatten ++ junk).drop (0 + ((j - 1 : Nat) : Int).toNat * 2) = [.int .i64 y.1, .int .i64 y.2] ++ rest := by rw [Nat.zero_add, Int.toNat_natCast]; exact Z59 (Z4s ys) (Z9K hy) junk
 refine Zf 3 rfl ?_
 refine tkG rfl rfl rfl rfl (PE.indexAddr Z6j rfl rfl (by omega) (by omega)) rfl ?_
 refine ldG rfl rfl rfl rfl rfl (lhA [.int .i64 x.1, .int .i64 x.2] Z0G rfl (rest := rx) hrx rfl) rfl (Zf 2 rfl ?_)
 refine tkG rfl rfl rfl rfl (PE.sub rfl rfl (by omega)) rfl ?_
 rw [show (j : Int) - 1 = ((j - 1 : Nat) : Int) from by omega]
 refine tkG rfl rfl rfl rfl (PE.indexAddr Z6j rfl rfl (by omega) (by omega)) rfl ?_
 refine ldG rfl rfl rfl rfl rfl (lhA [.int .i64 y.1, .int .i64 y.2] Z0G rfl (rest := ry) hry rfl) rfl ?_
 refine Zgj rfl rfl rfl rfl rfl (Zcu) rfl rfl (Ze8 x y _ _) ?_
 rintro _ _ R1 ⟨z, rfl, rfl, hR1⟩
 obtain rfl := hR1.symm
 clear hR1
 refine bgT (Zf 2 rfl ?_)
 refine Z2 rfl ?_ ?_ <;> intro hc1
 refine Z5 (Z0 (Z4 ?_))
 refine Z9 [0, 0, 0, 0, 8, 0, 0, 64, 224, 480, 0, 0, 3072, 7168, 16355, 32739, 65535, 131071] (tks 0 9 (.ld 9 (tks 10 3 (.ld 13 (.tk 14 (.big 15 (.tk 16 (.big 17 .done)))))))) Zo (by kernel_rfl) ?_
 refine Zf 4 rfl (tk rfl (PE.sub rfl rfl (by omega)) rfl (Zf 2 rfl (tk rfl (PE.sub rfl rfl (by omega)) rfl ?_)))
 rw [show (j : Int) - 1 = ((j - 1 : Nat) : Int) from by omega]
 refine tk rfl (PE.indexAddr Z6j rfl rfl (by omega) (by omega)) rfl (ld rfl rfl (lhA [.int .i64 y.1, .int .i64 y.2] Z0G rfl (rest := ry) hry rfl) rfl (Zf 2 rfl (tk rfl (PE.indexAddr Z6j rfl rfl (by omega) (by omega)) rfl (ld rfl rfl (lhA [.int .i64 x.1, .int .i64 x.2] Z0G rfl (rest := rx) hrx rfl) rfl (tk rfl (PE.indexAddr Z6j rfl rfl (by omega) (by omega)) rfl ?_)))))
 refine Z02 (l := (Z00 (ys)).flatten ++ junk) (l' := (Z00 ((ys).set j y)).flatten ++ junk) rfl rfl rfl Z4e rfl rfl rfl (by rw [← Z9B (ys) j y]; exact Z6F (k := j) (rows := Z00 (ys)) (Z4s _) (by rw [Z37]; omega) rfl (by rw [Nat.zero_add, Int.toNat_natCast]) junk) (by show 0 + ((j : Nat) : Int).toNat * 2 + 2 ≤ ((Z00 (ys)).flatten ++ junk).length; rw [List.length_append, Z7I, Int.toNat_natCast]; omega) ?_
 refine bgT (tk rfl (PE.indexAddr Z6j rfl rfl (by omega) (by omega)) rfl ?_)
 refine Z02 (l := (Z00 (ys.set j y)).flatten ++ junk) (l' := (Z00 ((ys.set j y).set (j - 1) x)).flatten ++ junk) rfl rfl rfl Z4e rfl rfl rfl (by rw [← Z9B (ys.set j y) (j - 1) x]; exact Z6F (k := (j - 1)) (rows := Z00 (ys.set j y)) (Z4s _) (by rw [Z37, List.length_set]; omega) rfl (by rw [Nat.zero_add, Int.toNat_natCast]) junk) (by show 0 + (((j - 1) : Nat) : Int).toNat * 2 + 2 ≤ ((Z00 (ys.set j y)).flatten ++ junk).length; rw [List.length_append, Z7I, List.length_set, Int.toNat_natCast]; omega) ?_
 refine bgT (sqr 3 rfl (pur 1 rfl (sp rfl (PE.sub rfl rfl (by omega)) rfl (pur 1 rfl ?_))))
 rw [show (j : Int) - 1 = ((j - 1 : Nat) : Int) from by omega]
 exact Ze ⟨(j - 1, (ys.set j y).set (j - 1) x), by dsimp only; omega, by simp [hyl]⟩ idH
 refine Za (Zb (Zb (Zr (sqr 3 rfl (pur 1 rfl (sp rfl (PE.add rfl rfl (by omega)) rfl (pur 1 rfl ?_)))))))
 exact Ze ⟨(i + 1, ys), by dsimp only; omega, by dsimp only; omega, hyl⟩ idH
 refine Zf 4 rfl ?_
 refine ldN rfl rfl rfl rfl rfl rfl rfl rfl ?_
 refine Zf 4 rfl ?_
 refine ldN rfl rfl rfl rfl rfl rfl rfl rfl ?_
 refine spN rfl rfl rfl rfl rfl rfl rfl rfl ?_
 refine bgT (Zf 2 rfl ?_)
 refine Z01 rfl ?_
 refine Za (Zb (Zb (Zr (sqr 3 rfl (pur 1 rfl (sp rfl (PE.add rfl rfl (by omega)) rfl (pur 1 rfl ?_)))))))
 exact Ze ⟨(i + 1, ys), by dsimp only; omega, by dsimp only; omega, hyl⟩ idH
 refine Za (Zb (Zb (Zr ?_)))
 exact Z1P (vs := []) rfl .nil rfl ⟨rfl, rfl, rfl⟩ (fun w h => h.tail)
theorem Zdn (H : Z6) (R : Z3) :
    FnV Tryz.prog 204 [.slice none 0 0, .int .i64 0, .int .i64 ((0 : Nat) : Int), .func (.func 114) #[] #[]] H R (.tuple #[]) := by
 refine Z8 Tryz.func204 rfl Tryz.ntmps204 rfl ?_
 refine sqt 3 rfl (pur 1 rfl (sp rfl (PE.add rfl rfl (by omega)) rfl (pur 1 rfl (Z4 ?_))))
 refine Zc (ι := Unit) (fun _ => ⟨[(2, .int .i64 ((0 : Nat) : Int)), (8, .int .i64 1)], H, R⟩) (fun x => 0) () ?_ (fun x => ?_)
 exact Zk idH
 refine Z0 (sqt 3 rfl (pur 3 rfl ?_))
 refine Z2 rfl ?_ ?_ <;> intro hc0
 exact absurd hc0 (by simp)
 refine Za (Zb (Zb (Zr ?_)))
 exact Z1P (vs := []) rfl .nil rfl ⟨rfl, rfl, rfl⟩ idH
theorem ZeA (l : List (Int × Int)) (o : OSl 195 2 (Z00 l)) (hl : l.length ≤ 12) (H : Z6) (R : Z3) : Fn Tryz.prog 204 [o.fs, .int .i64 0, .int .i64 l.length, .func (.func 114) #[] #[]] (o.G ++ H) R (fun v H' R' => v = .tuple #[] ∧ H' = H ∧ R' = R) := by
  rcases o.is with ⟨h1, h2, h3⟩ | ⟨b, cap, junk, h2, h3, hj, hc, hm⟩
  · have hx : l = [] := List.map_eq_nil_iff.1 h1
    subst hx
    rw [h2, h3]
    exact Zdn H R
  · rw [Z37] at h2
    rw [h2, h3]
    exact Zcz l l.length b cap junk rfl hl H R
theorem ZfP (l : List (Int × Int)) (o : OSl 195 2 (Z00 l)) (hl : l.length ≤ 12) (z : Int) (H : Z6) (R : Z3) :
    Fn Tryz.prog 177 [o.fs, .int .i64 0, .int .i64 l.length, .int .i64 z, .func (.func 114) #[] #[]] (o.G ++ H) R (fun v H' R' => v = .tuple #[] ∧ H' = H ∧ R' = R) := by
 refine Z8 Tryz.func177 rfl Tryz.ntmps177 rfl ?_
 refine sqt 1 rfl (pur 1 rfl (sqt 1 rfl (pur 1 rfl (Z4 ?_))))
 refine Zc (ι := Unit) (fun _ => ⟨[(0, o.fs), (1, .int .i64 0), (2, .int .i64 l.length), (4, .func (.func 114) #[] #[])], o.G ++ H, R⟩) (fun x => 0) () ?_ (fun x => ?_)
 exact Zk idH
 refine Z4 (sqt 4 rfl (pur 2 rfl (sp rfl (PE.sub rfl rfl (by omega)) rfl (pur 1 rfl (Z0 (sqt 2 rfl (pur 2 rfl ?_)))))))
 refine Z2 rfl ?_ ?_ <;> intro hc0
 refine sqt 5 rfl (pur 4 rfl ?_)
 refine cl rfl Zd3 rfl rfl (ZeA l o hl _ _) ?_
 rintro _ _ R1 ⟨rfl, rfl, hR1⟩
 obtain rfl := hR1.symm
 clear hR1
 refine Z1 ?_
 exact Z7 (vs := []) rfl .nil rfl ⟨rfl, rfl, rfl⟩ idH
 simp only [decide_eq_false_iff_not] at hc0
 omega
theorem ZaU (l : List (Int × Int)) (o : OSl 195 2 (Z00 l)) (hl : l.length ≤ 12) (H : Z6) (R : Z3) :
    Fn Tryz.prog 113 [o.fs, .func (.func 114) #[] #[]] (o.G ++ H) R (fun v H' R' => v = .tuple #[] ∧ H' = H ∧ R' = R) := by
 obtain ⟨a, c, he⟩ : ∃ a c, o.fs = .slice a l.length c := by
   rcases o.is with ⟨h1, h2, _⟩ | ⟨b, c, j, h, _⟩
   · exact ⟨none, 0, by rw [h2, show l = [] from List.map_eq_nil_iff.1 h1]; rfl⟩
   · rw [Z37] at h; exact ⟨_, _, h⟩
 refine Z8 Tryz.func113 rfl Tryz.ntmps113 rfl ?_
 refine sqt 3 rfl (pur 1 rfl (sp rfl (PE.lenSl Zdp (congrArg some he)) rfl (pur 1 rfl (sqr 7 rfl (pur 3 rfl ?_)))))
 refine sp rfl ((PE.convert us3 Zd8 rfl).to (by rw [Z2G (by omega) (by omega)])) rfl ?_
 refine cl rfl Ze6 rfl rfl (ZfY l.length hl _ _) ?_
 rintro _ _ R1 ⟨z, rfl, rfl, hR1⟩
 obtain rfl := hR1.symm
 clear hR1
 refine pur 1 rfl ?_
 refine cl rfl ZcC rfl rfl (ZfP l o hl z _ _) ?_
 rintro _ _ R1 ⟨rfl, rfl, hR1⟩
 obtain rfl := hR1.symm
 clear hR1
 exact Z1P (vs := []) rfl .nil rfl ⟨rfl, rfl, rfl⟩ idH
theorem ZfR : apT Tryz.prog 137 = some (195, 2, 16) := by kernel_rfl
theorem Zg6 : apT Tryz.prog 201 = some (208, 4, 32) := by kernel_rfl
theorem ZcR : arE Tryz.prog 199 = some (8, 4) := by kernel_rfl
theorem ZcL : cal Tryz.prog 109 = true := by kernel_rfl
theorem Zcl : cal Tryz.prog 111 = true := by kernel_rfl
theorem Zdt : cal Tryz.prog 113 = true := by kernel_rfl
theorem ZeF : Zx Tryz.prog 201 = some 1 := by kernel_rfl
theorem ZdF : Zx Tryz.prog 208 = some 4 := by kernel_rfl
theorem Z2Z : elN Tryz.prog 201 = some 4 := by kernel_rfl
theorem ZbT : Tryz.prog.eqGuardType Tryz.prog.depth 195 = false := by kernel_rfl
theorem Zd5 : Tryz.prog.eqGuardType Tryz.prog.depth 199 = false := by kernel_rfl
theorem Z3q : ZJ Tryz.prog 208 0 = some 0 := by kernel_rfl
theorem Z6u : ZJ Tryz.prog 208 1 = some 1 := by kernel_rfl
theorem Z7K : ZJ Tryz.prog 208 2 = some 3 := by kernel_rfl
theorem Zab : Z2X Tryz.prog 201 = true := by kernel_rfl
theorem ZdL : ZB Tryz.prog 208 = some [(0, 1), (1, 2), (3, 1)] := by kernel_rfl
theorem Z1H : Z0b Tryz.prog 201 = true := by kernel_rfl
theorem ZfX : slE Tryz.prog 137 = some (195, 2) := by kernel_rfl
theorem ub4 : Tryz.prog.underlying 4 = some .bool := by kernel_rfl
theorem ZeO : Zs Tryz.prog 201 = some ([.slice none 0 0]) := by kernel_rfl
theorem Zav : Zs Tryz.prog 208 = some ([.int .i64 0, .int .i64 0, .int .i64 0, .int .i64 0]) := by kernel_rfl
theorem zl3 : Zs Tryz.prog 3 = some ([.int .i64 0]) := by kernel_rfl
structure Pln where
  sum : Int
  fr : Int
  to : Int
  rest : Int
def Z64 (p : Pln) : List Value := [.int .i64 p.sum, .int .i64 p.fr, .int .i64 p.to, .int .i64 p.rest]
def ZL (l : List Pln) : List (List Value) := l.map Z64
theorem Z9C (l : List Pln) : (ZL l).length = l.length := List.length_map _
theorem Z3v (l : List Pln) : ∀ r ∈ ZL l, r.length = 4 := fun r hr => by obtain ⟨x, _, rfl⟩ := List.mem_map.1 hr; rfl
theorem Z9Q {l : List Pln} {k : Nat} {x : Pln} (h : l[k]? = some x) : (ZL l)[k]? = some (Z64 x) := by simp [ZL, h]
theorem Z7H (l : List Pln) : (ZL l).flatten.length = l.length * 4 := by rw [ZN (Z3v l), Z9C]
theorem Z1f {l : List Pln} {k j n : Nat} {x : Pln} {v : Value} (h : l[k]? = some x) (hv : (Z64 x)[j]? = some v) (hn : n = k * 4 + j) : (ZL l).flatten[n]? = some v := by
  subst hn; exact Z1C (Z3v l) (Z9Q h) hv
theorem Zad {l : List Pln} {k i : Nat} {x : Pln} (hk : k < l.length) (e : i = k * 4) : spl (ZL l).flatten i (Z64 x) = (ZL (l.set k x)).flatten := by
  have h := Z6F (rows := ZL l) (Z3v l) (k := k) (i := i) (row := Z64 x) (by rw [Z9C]; exact hk) rfl e []
  rw [List.append_nil, List.append_nil] at h
  rw [h]; simp [ZL, List.map_set]
theorem ZaX {l : List Pln} {k n : Nat} {x : Pln} (h : l[k]? = some x) (hn : n = k * 4 + 1) : ∃ rest, (ZL l).flatten.drop n = [.int .i64 x.fr, .int .i64 x.to] ++ rest := by
  obtain ⟨rest, hr⟩ := Z59 (Z3v l) (Z9Q h) []
  rw [List.append_nil] at hr
  subst hn
  refine ⟨.int .i64 x.rest :: rest, ?_⟩
  rw [← List.drop_drop, hr]; rfl
theorem Zak (n : Nat) : Z4b n [Value.int .i64 0, .int .i64 0, .int .i64 0, .int .i64 0] = (ZL (List.replicate n ⟨0, 0, 0, 0⟩)).flatten := by
  rw [← Z4D]; simp [ZL, Z64]
def Z6g (w : Wt) (S e : Nat) (tb : List Int) (k : Nat) : Int := ((Z10 w.counts.length).take k).foldl (w.try1 S e tb) (na0 tb (e - 1))
theorem Z4q {w : Wt} {S e : Nat} {tb : List Int} {k : Nat} {s : Nat × Nat} (h : (Z10 w.counts.length)[k]? = some s) : Z6g w S e tb (k + 1) = w.try1 S e tb (Z6g w S e tb k) s := by unfold Z6g; rw [List.take_add_one, h, List.foldl_append]; rfl
theorem Z5l (w : Wt) (S e : Nat) (tb : List Int) (h : w.own S (e - 1) = true) : Z6g w S e tb (Z10 w.counts.length).length = w.prvN S e tb := by unfold Z6g Wt.prvN; rw [List.take_length, h]; rfl
theorem Z1n (w : Wt) (S : Nat) : ∀ e, (w.prvT S e).length = e + 1
  | 0 => rfl
  | e + 1 => by simp [Wt.prvT, Z1n w S e]
theorem Z3T (w : Wt) (S : Nat) {e i : Nat} (h : i ≤ e) : na0 (w.prvT S (e + 1)) i = na0 (w.prvT S e) i := by
  unfold na0
  rw [List.getD_eq_getElem?_getD, List.getD_eq_getElem?_getD]
  show ((w.prvT S e ++ _)[i]?).getD 0 = _
  rw [List.getElem?_append_left (by rw [Z1n]; omega)]
theorem Z3U (w : Wt) (S e : Nat) : na0 (w.prvT S (e + 1)) (e + 1) = w.prvN S (e + 1) (w.prvT S e) := by
  unfold na0
  rw [List.getD_eq_getElem?_getD]
  show ((w.prvT S e ++ _)[e + 1]?).getD 0 = _
  rw [List.getElem?_append_right (by rw [Z1n]; omega), Z1n]; simp
theorem Zbw {w : Wt} (hw : w.ok) {S e : Nat} {tb : List Int} (htb : ∀ i, i < e → 0 ≤ na0 tb i ∧ na0 tb i ≤ 18000 * (i : Int)) {f t : Nat} (hft : f < t) (ht : t < w.counts.length) {b : Int} (hb : 0 ≤ b ∧ b ≤ 18000 * (e : Int)) : 0 ≤ w.try1 S e tb b (f, t) ∧ w.try1 S e tb b (f, t) ≤ 18000 * (e : Int) := by
  have hn := hw.nc
  unfold Wt.try1
  cases hg : w.good S e (f, t) with
  | false => simpa using hb
  | true =>
    simp only [Wt.good, Bool.and_eq_true, decide_eq_true_eq] at hg
    have h1 := Z7P (w.own S) (f := f) (t := t) (by omega) (by omega)
    have h2 := Zac hw hft ht
    have h3 := h1.2.2.2 (by omega)
    have h4 := htb (Z30 (w.own S) f t).1 (by omega)
    simp only [Bool.true_and]
    cases hc : decide (b < na0 tb (Z30 (w.own S) f t).1 + w.gap f t) with
    | false => simpa using hb
    | true => simp only [cond_true]; simp only [decide_eq_true_eq] at hc; omega
theorem Z4P {w : Wt} (hw : w.ok) {S e : Nat} (he : 1 ≤ e) {tb : List Int} (htb : ∀ i, i < e → 0 ≤ na0 tb i ∧ na0 tb i ≤ 18000 * (i : Int)) : ∀ k, 0 ≤ Z6g w S e tb k ∧ Z6g w S e tb k ≤ 18000 * (e : Int)
  | 0 => by have := htb (e - 1) (by omega); simp only [Z6g, List.take_zero, List.foldl_nil]; omega
  | k + 1 => by
    have ih := Z4P hw (S := S) he htb k
    cases hs : (Z10 w.counts.length)[k]? with
    | none =>
      have e1 : Z6g w S e tb (k + 1) = Z6g w S e tb k := by unfold Z6g; rw [List.take_add_one, hs]; simp
      rw [e1]; exact ih
    | some s =>
      rw [Z4q hs]
      have hm := str_mem.1 (show (s.1, s.2) ∈ Z10 w.counts.length from List.mem_of_getElem? hs)
      exact Zbw hw htb hm.1 hm.2 ih
theorem Zbk {w : Wt} (hw : w.ok) {S e : Nat} (he : 1 ≤ e) {tb : List Int} (htb : ∀ i, i < e → 0 ≤ na0 tb i ∧ na0 tb i ≤ 18000 * (i : Int)) : 0 ≤ w.prvN S e tb ∧ w.prvN S e tb ≤ 18000 * (e : Int) := by
  cases h : w.own S (e - 1) with
  | true => rw [← Z5l w S e tb h]; exact Z4P hw he htb _
  | false => have := htb (e - 1) (by omega); unfold Wt.prvN; rw [h]; simp only [cond_false]; omega
theorem Z5d {w : Wt} (hw : w.ok) (S : Nat) : ∀ e i, i ≤ e → 0 ≤ na0 (w.prvT S e) i ∧ na0 (w.prvT S e) i ≤ 18000 * (i : Int)
  | 0, i, h => by obtain rfl : i = 0 := by omega
                  simp [Wt.prvT, na0]
  | e + 1, i, h => by
    rcases Nat.lt_or_ge e i with h1 | h1
    · obtain rfl : i = e + 1 := by omega
      rw [Z3U]; exact Zbk hw (by omega) (fun j hj => Z5d hw S e j (by omega))
    · rw [Z3T w S h1]; exact Z5d hw S e i h1
structure PlI (w : Wt) (S e : Nat) (P : List Pln) : Prop where
  len : P.length = w.counts.length
  at_ : ∀ i p, P[i]? = some p → i < e → p.sum = na0 (w.prvT S (e - 1)) i ∧ (0 < i → 0 ≤ p.rest ∧ p.rest < (i : Int))
theorem PlI.start {w : Wt} (S : Nat) : PlI w S 1 (List.replicate w.counts.length ⟨0, 0, 0, 0⟩) := ⟨by simp, fun i p h hi => by
  obtain rfl : i = 0 := by omega
  rw [List.getElem?_replicate] at h
  split at h
  · cases h; exact ⟨rfl, fun h => by omega⟩
  · cases h⟩
theorem PlI.next {w : Wt} {S e : Nat} {P : List Pln} (h : PlI w S e P) (he : 1 ≤ e) {p : Pln} (hp : P[e]? = some p) (hs : p.sum = w.prvN S e (w.prvT S (e - 1))) (hr : 0 ≤ p.rest ∧ p.rest < (e : Int)) : PlI w S (e + 1) P := ⟨h.len, fun i q hq hi => by
  obtain ⟨e', rfl⟩ : ∃ e', e = e' + 1 := ⟨e - 1, by omega⟩
  rw [Nat.add_sub_cancel] at hs ⊢
  rcases Nat.lt_or_ge i (e' + 1) with h1 | h1
  · have := h.at_ i q hq h1
    rw [Nat.add_sub_cancel] at this
    rw [Z3T w S (by omega)]; exact this
  · obtain rfl : i = e' + 1 := by omega
    rw [hp] at hq; cases hq
    rw [Z3U]; exact ⟨hs, fun _ => hr⟩⟩
theorem PlI.put {w : Wt} {S e : Nat} {P : List Pln} (h : PlI w S e P) (p : Pln) : PlI w S e (P.set e p) := ⟨by simp [h.len], fun i q hq hi => by
  rw [List.getElem?_set, if_neg (by omega)] at hq
  exact h.at_ i q hq hi⟩
theorem Z9h {w : Wt} {S : Nat} (h : ∀ i, w.own S i = false) : w.prv S = 0 := by
  have : ∀ e i, na0 (w.prvT S e) i = 0 := fun e => by
    induction e with
    | zero => intro i; rcases i with _ | i <;> rfl
    | succ e ih =>
      intro i
      rcases Nat.lt_or_ge e i with h1 | h1
      · rcases Nat.lt_or_ge (e + 1) i with h2 | h2
        · unfold na0; rw [List.getD_eq_getElem?_getD, List.getElem?_eq_none (by rw [Z1n]; omega)]; rfl
        · obtain rfl : i = e + 1 := by omega
          rw [Z3U]; unfold Wt.prvN; rw [h]; exact ih _
      · rw [Z3T w S h1]; exact ih i
  exact this _ _
theorem Z8G {w : Wt} {S e f t : Nat} (hT : w.thr f t < 2 ^ 6) (hS : S < 2 ^ 6) (h1 : (Z30 (w.own S) f t).2 + 1 = (e : Int)) (h2 : w.thr f t &&& (18446744073709551615 - S) = 0) (h3 : 0 < w.gap f t) : w.good S e (f, t) = true := by
  unfold Wt.good
  rw [decide_eq_true h1, decide_eq_true ((Z2q (by omega) (by omega)).1 h2), decide_eq_true h3]; rfl
theorem Z8s {w : Wt} {S e f t : Nat} (h1 : ¬ (Z30 (w.own S) f t).2 + 1 = (e : Int)) : w.good S e (f, t) = false := by unfold Wt.good; rw [decide_eq_false h1]; rfl
theorem Z9v {w : Wt} {S e f t : Nat} (hT : w.thr f t < 2 ^ 6) (hS : S < 2 ^ 6) (h2 : ¬ w.thr f t &&& (18446744073709551615 - S) = 0) : w.good S e (f, t) = false := by unfold Wt.good; rw [decide_eq_false (fun h => h2 ((Z2q (by omega) (by omega)).2 h)), Bool.and_false]; rfl
theorem Z8C {w : Wt} {S e f t : Nat} (h3 : ¬ 0 < w.gap f t) : w.good S e (f, t) = false := by unfold Wt.good; rw [decide_eq_false h3, Bool.and_false]
theorem Z2R {w : Wt} {S e : Nat} {tb : List Int} {b : Int} {s : Nat × Nat} (h : w.good S e s = false) : w.try1 S e tb b s = b := by unfold Wt.try1; rw [h]; rfl
theorem Z8T {w : Wt} {S e : Nat} {tb : List Int} {b : Int} {s : Nat × Nat} (h : w.good S e s = true) (h2 : b < na0 tb (Z30 (w.own S) s.1 s.2).1 + w.gap s.1 s.2) : w.try1 S e tb b s = na0 tb (Z30 (w.own S) s.1 s.2).1 + w.gap s.1 s.2 := by unfold Wt.try1; rw [h, decide_eq_true h2]; rfl
theorem Z7F {w : Wt} {S e : Nat} {tb : List Int} {b : Int} {s : Nat × Nat} (h2 : ¬ b < na0 tb (Z30 (w.own S) s.1 s.2).1 + w.gap s.1 s.2) : w.try1 S e tb b s = b := by unfold Wt.try1; rw [decide_eq_false h2, Bool.and_false]; rfl
theorem Z92 (own : Nat → Bool) : (ZA own = List.replicate 8 false) → ∀ i, i < 8 → own i = false := fun h i hi => by
  have h1 : (ZA own)[i]? = (List.replicate 8 false)[i]? := by rw [h]
  rw [List.getElem?_replicate, if_pos hi] at h1
  simpa [ZA, hi] using h1
theorem Fn.heapP {P : Program} {f : FuncId} {a : List Value} {H H' : Z6} {R : Z3} {Q : Value → Z6 → Z3 → Prop} (p : H.Perm H') (h : Fn P f a H' R Q) : Fn P f a H R Q := fun w hs => h w (hs.perm p)
set_option maxHeartbeats 1000000 in
theorem ZbD (wt : Wt) (a1 a2 a3 : Option Addr) (k1 k2 k3 : Nat) (hw : wt.ok) (bd m : Nat) (kv : KV) (hkv : KvW wt kv) (Sx : Nat) (hSx : Sx < 2 ^ 6) (H : Z6) (R : Z3) [hD : MemRows (some ⟨bd, 0, none⟩) 15 [(wtl wt a1 a2 a3 k1 k2 k3 ++ (Zd (wt.sums) ++ [.map (some m)]))] R] [hR1 : MemRows a1 3 (crows wt.counts) R] [hK : MemF (MpF m kv) R] :
    Fn Tryz.prog 52 [.pointer (some ⟨bd, 0, none⟩), .int .i64 (Sx : Nat)] H R (fun v H' R' => ∃ fs, v = .tuple #[fs, .int .i64 (wt.prv Sx)] ∧ H' = H ∧ R' = R) := by
 have hnc := hw.nc
 refine Z5u Tryz.func52 rfl Tryz.ntmps52 rfl ?_
 refine sqt 4 rfl (bx rfl rfl rfl (fun b2 => bx rfl rfl rfl (fun b3 => pur 2 rfl (sqt 5 rfl (spL rfl rfl (lh Z1O rfl rfl) rfl (spL rfl rfl (lh sc3 rfl rfl) rfl ?_))))))
 refine clV rfl ZcL rfl rfl (Zbe wt a1 a2 a3 k1 k2 k3 hw bd m kv hkv Sx hSx _ _) ?_
 refine alc rfl Z8w rfl (fun b6 => ?_)
 refine Z02 (l' := Zu (ZA (wt.own Sx))) rfl rfl rfl Zdw rfl (by show (Zu (ZA (wt.own Sx))).length = 8; simp [Zu, ZC]) (by show (Zu (ZA (wt.own Sx))).all (·.oneCell') = true; exact Z4z _) (Z5B (by show 8 = (Zu (ZA (wt.own Sx))).length; simp [Zu, ZC])) (by show 0 + (Zu (ZA (wt.own Sx))).length ≤ 8; simp [Zu, ZC]) ?_
 refine Z0 (sqt 3 rfl (spL rfl rfl (lhA (Zu (ZA (wt.own Sx))) Z8X rfl (rest := []) (by rw [List.append_nil]; rfl) (by simp [Zu, ZC])) rfl (sp rfl (PE.zero (.inr (by rw [Z72]; rfl)) Z8w) rfl (sp rfl (PE.eqlBools (ZA (wt.own Sx)) (List.replicate 8 false) ZcR Z72 ub4 Zd5 rfl rfl (ZC _) rfl) rfl ?_))))
 refine Z2 rfl ?_ ?_ <;> intro hc0
 have hno := Z92 _ (by simpa using hc0)
 have hpz : wt.prv Sx = 0 := Z9h fun i => by
   rcases Nat.lt_or_ge i 8 with h | h
   · exact hno i h
   · unfold Wt.own; rw [dF (by omega)]; rfl
 refine sqt 2 rfl (pur 2 rfl (Z1 ?_))
 exact Z0s [] idH rfl (.cons (RV.tmp rfl) (.cons (RV.tmp rfl) .nil)) rfl ⟨_, by rw [hpz]; rfl, rfl, rfl⟩ (fun w h => ((h.del b6).del b3).del b2)
 ·
  refine Z5 (sqt 9 rfl (spL rfl rfl (lh Z1O rfl rfl) rfl (sp rfl (PE.nilCheck rfl) rfl (sp rfl (PE.fA Z0e rfl) rfl (sp rfl (PE.fA ZP rfl) rfl (spL rfl rfl (lfB (sz := 15) Z15 rfl) rfl (sp rfl (PE.lenSl Z0Q rfl) rfl ?_)))))))
  refine mkS rfl Zg6 Zav rfl rfl (Nat.le_refl _) ⟨by omega, by omega⟩ rfl (fun b28 => ?_)
  rw [Zak]
  refine alc rfl ZeO rfl (fun b7 => ?_)
  refine Z02 (l' := [.slice (some ⟨b28, 0, none⟩) wt.counts.length wt.counts.length]) rfl rfl rfl ZeF rfl rfl rfl rfl (nl rfl) ?_
  refine Z0 (sqt 2 rfl (alc rfl zl3 rfl (fun b8 => ?_)))
  refine sto rfl rfl rfl cn3 rfl rfl rfl rfl ?_
  refine Z4 ?_
  refine Z5Q (ι := {x : Nat × List Pln × Nat × List Nat // 1 ≤ x.1 ∧ x.1 ≤ wt.counts.length ∧ PlI wt Sx x.1 x.2.1}) (fun x => ⟨[(2, .pointer (some ⟨b2, 0, none⟩)), (3, .pointer (some ⟨b3, 0, none⟩)), (6, .pointer (some ⟨b6, 0, none⟩)), (7, .pointer (some ⟨b7, 0, none⟩)), (8, .pointer (some ⟨x.1.2.2.1, 0, none⟩))], mks x.1.2.2.2, mkh x.1.2.2.2 ++ (x.1.2.2.1, cel 3 [.int .i64 (x.1.1 : Nat)]) :: (b28, cel 208 (ZL x.1.2.1).flatten) :: (b7, cel 201 [.slice (some ⟨b28, 0, none⟩) wt.counts.length wt.counts.length]) :: (b6, cel 199 (Zu (ZA (wt.own Sx)))) :: (b3, cel 3 [.int .i64 (Sx : Nat)]) :: (b2, cel 134 [.pointer (some ⟨bd, 0, none⟩)]) :: H, R⟩) (fun x => wt.counts.length - x.1.1) ⟨(1, _, b8, []), Nat.le_refl _, hnc.1, PlI.start Sx⟩ ?_ (fun x => ?_)
  exact Z9W (by repeat' first | exact Sub.nil | apply Sub.cons | rfl | (simp [lk]; omega)) rfl (fun w h => (h.pull b28).pull b8)
  ·
   obtain ⟨⟨e, P, b8, ms⟩, he1, he2, hP⟩ := x
   dsimp only at he1 he2 hP ⊢
   have hPl := hP.len
   have htb : ∀ i, i < e → 0 ≤ na0 (wt.prvT Sx (e - 1)) i ∧ na0 (wt.prvT Sx (e - 1)) i ≤ 18000 * (i : Int) := fun i hi => Z5d hw Sx (e - 1) i (by omega)
   refine Z0 (Z0 ?_)
   refine Z9 [0, 0, 2, 6, 14, 30, 62, 127] (.ld 0 (.ld 1 (tks 2 3 (.ld 5 (.tk 6 (.tk 7 .done)))))) Zo (by kernel_rfl) ?_
   refine ld rfl rfl (lh sc3 rfl rfl) rfl (ld rfl rfl (lh Z1O rfl rfl) rfl (tk rfl (PE.nilCheck rfl) rfl (tk rfl (PE.fA Z0e rfl) rfl (tk rfl (PE.fA ZP rfl) rfl (ld rfl rfl (lfB (sz := 15) Z15 rfl) rfl (tk rfl (PE.lenSl Z0Q rfl) rfl (Zf 1 rfl ?_)))))))
   refine Z2 rfl ?_ ?_ <;> intro hc1 <;> try simp only [cS] at hc1
   ·
    obtain ⟨p0, hp0⟩ : ∃ p, P[e - 1]? = some p := ⟨_, List.getElem?_eq_getElem (by omega)⟩
    have hp0s := hP.at_ _ _ hp0 (by omega)
    have hb0 := htb (e - 1) (by omega)
    refine Z5 (Z0 (Z4 (Z0 ?_)))
    refine Z9 [0, 0, 0, 0, 8, 28, 60, 124, 0, 256, 1020, 2047, 4095] (.ld 0 (.ld 1 (.ld 2 (.ld 3 (tks 4 3 (.ld 7 (.ld 8 (tks 9 3 (.big 12 .done))))))))) Zo (by kernel_rfl) ?_
    refine ld rfl rfl (lh Z1H rfl rfl) rfl (ld rfl rfl (lh sc3 rfl rfl) rfl (ld rfl rfl (lh Z1H rfl rfl) rfl (ld rfl rfl (lh sc3 rfl rfl) rfl (tk rfl (PE.sub rfl rfl (by omega)) rfl ?_))))
    rw [show (e : Int) - 1 = ((e - 1 : Nat) : Int) from by omega]
    refine tk rfl (PE.indexAddr Z2Z rfl rfl (by omega) (by omega)) rfl (tk rfl (PE.fA Z3q rfl) rfl (ld rfl rfl (lh sc3 rfl (Z1f (k := e - 1) (j := 0) hp0 rfl (by rw [Int.toNat_natCast]; omega))) rfl (ld rfl rfl (lh sc3 rfl rfl) rfl (tk rfl (PE.sub rfl rfl (by omega)) rfl (tk rfl (PE.build (out := [_, _, _, _]) ZdL Zav rfl rfl) rfl (tk rfl (PE.indexAddr Z2Z rfl rfl (by omega) (by omega)) rfl ?_))))))
    obtain ⟨p1, hp1⟩ : ∃ p : Pln, p = ⟨p0.sum, 0, 0, (e : Int) - 1⟩ := ⟨_, rfl⟩
    refine Z02 (l' := (ZL (P.set e p1)).flatten) rfl rfl rfl ZdF rfl rfl rfl (by rw [hp1]; exact Zad (x := ⟨p0.sum, 0, 0, (e : Int) - 1⟩) (by omega) (by rw [Int.toNat_natCast]; omega)) (by rw [Z7H]; show 0 + ((e : Nat) : Int).toNat * 4 + 4 ≤ _; rw [Int.toNat_natCast]; omega) ?_
    have hP1 := hP.put p1
    have hPl1 := hP1.len
    have hpe : (P.set e p1)[e]? = some p1 := by rw [List.getElem?_set]; simp; omega
    have hpr : 0 ≤ p1.rest ∧ p1.rest < (e : Int) := by rw [hp1]; dsimp only; omega
    have hps : p1.sum = na0 (wt.prvT Sx (e - 1)) (e - 1) := by rw [hp1]; exact hp0s.1
    clear hp1
    generalize P.set e p1 = P at *
    refine bgT (Z0 (sqt 5 rfl (spL rfl rfl (lh sc3 rfl rfl) rfl (sp rfl (PE.sub rfl rfl (by omega)) rfl ?_))))
    rw [show (e : Int) - 1 = ((e - 1 : Nat) : Int) from by omega]
    refine sp rfl (PE.indexArr Z72 rfl rfl (by omega) (by omega)) rfl (spL rfl rfl (lh sc4 rfl (Z5C (i := e - 1) (by show 0 + ((e - 1 : Nat) : Int).toNat * 1 = e - 1; omega) (by omega))) rfl (pur 1 rfl ?_))
    refine Z2 rfl ?_ ?_ <;> intro hc2
    refine Za (Zb (Zr (Z0 (sqt 1 rfl (spL rfl rfl (lh sc3 rfl rfl) rfl (sqr 2 rfl ?_))))))
    refine Sy.heap (fun w h => h.del b8) ?_
    refine alc rfl zl3 rfl (fun b8 => ?_)
    refine sto rfl rfl rfl cn3 rfl rfl rfl rfl ?_
    refine sqr 3 rfl (spL rfl rfl (lh sc3 rfl rfl) rfl (sp rfl (PE.add rfl rfl (by omega)) rfl ?_))
    rw [show (e : Int) + 1 = ((e + 1 : Nat) : Int) from by omega]
    refine sto rfl rfl rfl cn3 rfl rfl rfl rfl ?_
    exact Z0Z ⟨(e + 1, P, b8, ms), by dsimp only; omega, by dsimp only; omega, hP1.next he1 hpe (by rw [hps]; unfold Wt.prvN; rw [show wt.own Sx (e - 1) = false by simpa using hc2]; rfl) hpr⟩ (by dsimp only; omega) (by repeat' first | exact Sub.nil | apply Sub.cons | rfl | (simp [lk]; omega)) rfl (fun w h => h.perm (List.perm_middle (l₁ := mkh ms)).symm)
    ·
     refine Z5 (sqt 5 rfl (spL rfl rfl (lh Z1O rfl rfl) rfl (sp rfl (PE.nilCheck rfl) rfl (sp rfl (PE.fA Z0e rfl) rfl (spL rfl rfl (Zgz (sz := 15) (wtl wt a1 a2 a3 k1 k2 k3) Z5o rfl rfl) rfl ?_)))))
     refine cl rfl Z9Z rfl rfl (ZcB wt a1 a2 a3 k1 k2 k3 _ _) ?_
     rintro _ _ R1 ⟨qw, rfl, rfl, hR1⟩
     subst hR1
     have hown : wt.own Sx (e - 1) = true := by simpa using hc2
     refine Z4 ?_
     refine Z2n rfl Za4 (fun c0 bl0 bd0 hcp0 hca0 hcb0 hck0 => ?_)
     refine ⟨fun st pend T R' => st = .ready ∧ pend = none ∧ ∃ (P : List Pln) (p : Pln), PlI wt Sx e P ∧ P[e]? = some p ∧ p.sum = wt.prvN Sx e (wt.prvT Sx (e - 1)) ∧ (0 ≤ p.rest ∧ p.rest < (e : Int)) ∧ T = (bd0, .deferred (some [])) :: (b8, cel 3 [.int .i64 (e : Nat)]) :: (mkh ms ++ (b28, cel 208 (ZL P).flatten) :: (b7, cel 201 [.slice (some ⟨b28, 0, none⟩) wt.counts.length wt.counts.length]) :: (b6, cel 199 (Zu (ZA (wt.own Sx)))) :: (b3, cel 3 [.int .i64 (Sx : Nat)]) :: (b2, cel 134 [.pointer (some ⟨bd, 0, none⟩)]) :: H) ∧ R' = RowsA (some ⟨qw, 0, none⟩) 6 [(wtl wt a1 a2 a3 k1 k2 k3)] :: R,
       Fn.mono (Fn.heapP (H' := (bl0, lob c0 .ready none) :: (bd0, .deferred (some [])) :: (b8, cel 3 [.int .i64 (e : Nat)]) :: (mkh ms ++ (b28, cel 208 (ZL P).flatten) :: (b7, cel 201 [.slice (some ⟨b28, 0, none⟩) wt.counts.length wt.counts.length]) :: (b6, cel 199 (Zu (ZA (wt.own Sx)))) :: (b3, cel 3 [.int .i64 (Sx : Nat)]) :: (b2, cel 134 [.pointer (some ⟨bd, 0, none⟩)]) :: H)) (List.Perm.cons _ (List.Perm.cons _ List.perm_middle)) (Z9y wt a1 a2 a3 k1 k2 k3 hw qw bl0 (fun k H' R' => ∃ (P : List Pln) (p : Pln), PlI wt Sx e P ∧ P[e]? = some p ∧ p.sum = Z6g wt Sx e (wt.prvT Sx (e - 1)) k ∧ (0 ≤ p.rest ∧ p.rest < (e : Int)) ∧ H' = (bl0, lob c0 .ready none) :: (bd0, .deferred (some [])) :: (b8, cel 3 [.int .i64 (e : Nat)]) :: (mkh ms ++ (b28, cel 208 (ZL P).flatten) :: (b7, cel 201 [.slice (some ⟨b28, 0, none⟩) wt.counts.length wt.counts.length]) :: (b6, cel 199 (Zu (ZA (wt.own Sx)))) :: (b3, cel 3 [.int .i64 (Sx : Nat)]) :: (b2, cel 134 [.pointer (some ⟨bd, 0, none⟩)]) :: H) ∧ R' = RowsA (some ⟨qw, 0, none⟩) 6 [(wtl wt a1 a2 a3 k1 k2 k3)] :: R) (fun _ _ => False)
         (fun k H' R' h => by obtain ⟨P, p, _, _, _, _, rfl, rfl⟩ := h; simp)
         (fun k f t H' R' hft htn hk hI => ?_) _ _ ⟨P, p1, hP1, hpe, hps, hpr, rfl, rfl⟩)) (fun v H' R' h => ?_), ?_⟩
     rotate_left
     · rcases h with ⟨P, p, h1, h2, h3, h4, rfl, rfl⟩ | h
       · exact ⟨.ready, none, _, by simp, .refl _, rfl, rfl, P, p, h1, h2, by rw [h3]; exact Z5l wt Sx e _ hown, h4, rfl, rfl⟩
       · exact h.elim
     rotate_left
     clear hP1 hpe hpr hps hPl hPl1
     obtain ⟨P2, p, hP2, hp, hpsum, hprest, rfl, rfl⟩ := hI
     have hPl2 := hP2.len
     have hst := Z4q (w := wt) (S := Sx) (e := e) (tb := wt.prvT Sx (e - 1)) hk
     have hvb := Z4P hw (S := Sx) he1 htb k
     have hend := Z7P (wt.own Sx) (f := f) (t := t) (by omega) (by omega)
     have hgb := Zac hw hft htn
     have htl := Za2 hw f t
     have hkw := hkv.at_ f t hft htn
     rw [hst]
     clear hst
     generalize Z6g wt Sx e (wt.prvT Sx (e - 1)) k = V at *
     refine Z8Z hcp0 hca0 hcb0 hck0 rfl ?_
     refine sqr 2 rfl (alc rfl Z28 rfl (fun b9 => ?_))
     refine Z02 (l' := [.int .i64 (f : Nat), .int .i64 (t : Nat)]) rfl rfl rfl Z4e rfl rfl rfl rfl (nl rfl) ?_
     refine Z0a ?_
     refine Z4 (sqt 9 rfl (spL rfl rfl (lh Z1O rfl rfl) rfl (spL rfl rfl (lhA [_, _] Z0G rfl rfl rfl) rfl (spL rfl rfl (lhA (Zu (ZA (wt.own Sx))) Z8X rfl (rest := []) (by rw [List.append_nil]; rfl) (by simp [Zu, ZC])) rfl ?_))))
     refine clV rfl Zcl rfl rfl (Zci _ (wt.own Sx) f t (by omega) (by omega) _ _) ?_
     refine pur 5 rfl (Z0 (Z0 ?_))
     refine Z9 [0, 1, 0, 7, 15, 31, 63, 127, 255, 31, 1023, 31, 4095, 8191, 16383, 32767, 65535, 65535, 262143, 524287, 1048575] (.tk 0 (.tk 1 (.ld 2 (.tk 3 (.tk 4 (.ld 5 (.tk 6 (.tk 7 (.ld 8 (.ld 9 (.ld 10 (.ld 11 (tks 12 4 (.ld 16 (.ld 17 (.big 18 (.tk 19 (.tk 20 .done)))))))))))))))))) Zo (by kernel_rfl) ?_
     refine Zf 1 rfl (tk rfl (PE.add rfl rfl (by omega)) rfl (ld rfl rfl (lh sc3 rfl rfl) rfl (Zf 2 rfl ?_)))
     refine Zp 73 rfl ?_ ?_ <;> intro g73
     try simp only [cS] at g73
     have hng : wt.good Sx e (f, t) = false := Z8s (by omega)
     refine ldN rfl rfl rfl rfl rfl rfl rfl rfl ?_
     refine Zf 2 rfl ?_
     repeat refine ldN rfl rfl rfl rfl rfl rfl rfl rfl ?_
     refine Zf 4 rfl ?_
     repeat refine ldN rfl rfl rfl rfl rfl rfl rfl rfl ?_
     refine spN rfl rfl rfl rfl rfl rfl rfl rfl ?_
     refine bgT (Zf 2 rfl ?_)
     refine Zy rfl ?_
     refine Za (Zb (Zr ?_))
     first
       | exact Zm (.inl ⟨rfl, P2, p, hP2, hp, by rw [Z2R hng]; exact hpsum, hprest, rfl, rfl⟩) (fun w h => h.del b9)
       | exact Zm (.inl ⟨rfl, _, ⟨pa.sum + wt.gap f t, f, t, a9⟩, hP2.put _, by rw [List.getElem?_set]; simp; omega, by rw [hv9], by dsimp only; omega, rfl, rfl⟩) (fun w h => h.del b9)
       | exact Zm (.inl ⟨rfl, P2, p, hP2, hp, by rw [hv9]; exact hpsum, hprest, rfl, rfl⟩) (fun w h => h.del b9)
     try simp only [cS] at g73
     refine ldG rfl rfl rfl rfl rfl (lh Z1O rfl rfl) rfl ?_
     refine tkG rfl rfl rfl rfl (PE.nilCheck rfl) rfl ?_
     refine tkG rfl rfl rfl rfl (PE.fA Z3L rfl) rfl ?_
     refine ldG rfl rfl rfl rfl rfl (lfB (sz := 15) Z8u (Z5E (by rw [(Z1j hw).len]; rfl))) rfl (ldG rfl rfl rfl rfl rfl (lhA [_, _] Z0G rfl rfl rfl) rfl ?_)
     refine Zgc rfl rfl rfl rfl rfl rfl (Z3M (b := true) kv [((f : Nat) : Int), ((t : Nat) : Int)] Z20 (KeyT.of Z1r Z1X) (Z21 zv3) rfl hkv.len (fun w hs => hs.now (MemF.mem (f := MpF m kv))) hkw) rfl ?_
     refine ldG rfl rfl rfl rfl rfl (lh sc3 rfl rfl) rfl ?_
     refine tkG rfl rfl rfl rfl (PE.andNotN (m := wt.thr f t) (n := Sx) rfl rfl (by omega) (by omega)) rfl ?_
     refine Zf 3 rfl ?_
     refine Zp 84 rfl ?_ ?_ <;> intro g84
     have hng : wt.good Sx e (f, t) = false := Z9v htl hSx (fun h => by rw [h] at g84; simp at g84)
     repeat refine ldN rfl rfl rfl rfl rfl rfl rfl rfl ?_
     refine spN rfl rfl rfl rfl rfl rfl rfl rfl ?_
     refine bgT (Zf 2 rfl ?_)
     refine Zy rfl ?_
     refine Za (Zb (Zr ?_))
     first
       | exact Zm (.inl ⟨rfl, P2, p, hP2, hp, by rw [Z2R hng]; exact hpsum, hprest, rfl, rfl⟩) (fun w h => h.del b9)
       | exact Zm (.inl ⟨rfl, _, ⟨pa.sum + wt.gap f t, f, t, a9⟩, hP2.put _, by rw [List.getElem?_set]; simp; omega, by rw [hv9], by dsimp only; omega, rfl, rfl⟩) (fun w h => h.del b9)
       | exact Zm (.inl ⟨rfl, P2, p, hP2, hp, by rw [hv9]; exact hpsum, hprest, rfl, rfl⟩) (fun w h => h.del b9)
     have hz : wt.thr f t &&& (18446744073709551615 - Sx) = 0 := Classical.byContradiction fun h => by rw [dT (show ¬ ((wt.thr f t &&& (18446744073709551615 - Sx) : Nat) : Int) = 0 by omega)] at g84; cases g84
     refine ldG rfl rfl rfl rfl rfl (lh Z1O rfl rfl) rfl (ldG rfl rfl rfl rfl rfl (lhA [_, _] Z0G rfl rfl rfl) rfl ?_)
     refine Z3c rfl rfl rfl rfl Z6C rfl rfl (Zb3 wt a1 a2 a3 k1 k2 k3 hw bd m f t hft htn _ _) ?_
     refine bgT (Zf 2 rfl ?_)
     refine Z2 rfl ?_ ?_ <;> intro hc3 <;> try simp only [cS] at hc3
     have hng : wt.good Sx e (f, t) = false := Z8C (by omega)
     refine Za (Zb (Zr ?_))
     first
       | exact Zm (.inl ⟨rfl, P2, p, hP2, hp, by rw [Z2R hng]; exact hpsum, hprest, rfl, rfl⟩) (fun w h => h.del b9)
       | exact Zm (.inl ⟨rfl, _, ⟨pa.sum + wt.gap f t, f, t, a9⟩, hP2.put _, by rw [List.getElem?_set]; simp; omega, by rw [hv9], by dsimp only; omega, rfl, rfl⟩) (fun w h => h.del b9)
       | exact Zm (.inl ⟨rfl, P2, p, hP2, hp, by rw [hv9]; exact hpsum, hprest, rfl, rfl⟩) (fun w h => h.del b9)
     have hg : wt.good Sx e (f, t) = true := Z8G htl hSx (by omega) hz (by omega)
     obtain ⟨hl1, hl2, hl3⟩ := hend.2.2.2 (by omega)
     obtain ⟨a9, ha9⟩ : ∃ a, a = (Z30 (wt.own Sx) f t).1 := ⟨_, rfl⟩
     rw [← ha9] at hl2 hl3 ⊢
     have hae : a9 < e := by omega
     obtain ⟨pa, hpa⟩ : ∃ p, P2[a9]? = some p := ⟨_, List.getElem?_eq_getElem (by omega)⟩
     have hpas := (hP2.at_ _ _ hpa hae).1
     have hab := htb a9 hae
     refine Z5 (Z0 ?_)
     refine Z9 [0, 0, 3, 7, 15, 0, 0, 96, 255, 511] (.ld 0 (tks 1 3 (.ld 4 (.ld 5 (.ld 6 (.big 7 (.tk 8 (.tk 9 .done)))))))) Zo (by kernel_rfl) ?_
     refine ld rfl rfl (lh Z1H rfl rfl) rfl (Zf 1 rfl (tk rfl (PE.indexAddr Z2Z rfl rfl (by omega) (by omega)) rfl (tk rfl (PE.fA Z3q rfl) rfl (ld rfl rfl (lh sc3 rfl (Z1f (k := a9) (j := 0) hpa rfl (by rw [Int.toNat_natCast]; omega))) rfl (ld rfl rfl (lh Z1O rfl rfl) rfl (ld rfl rfl (lhA [_, _] Z0G rfl rfl rfl) rfl ?_))))))
     refine clV rfl Z6C rfl rfl (Zb3 wt a1 a2 a3 k1 k2 k3 hw bd m f t hft htn _ _) ?_
     refine bg (fun w hs => ⟨trivial, trivial, (lh sc3 rfl (Z1f (k := a9) (j := 0) hpa rfl (by rw [Int.toNat_natCast]; omega))) w hs, (lh Z1H rfl rfl) w hs, trivial⟩) ?_
     refine tk rfl (PE.add rfl rfl (by omega)) rfl (Zf 1 rfl (sqt 7 rfl (pur 1 rfl (spL rfl rfl (lh Z1H rfl rfl) rfl (spL rfl rfl (lh sc3 rfl rfl) rfl (sp rfl (PE.indexAddr Z2Z rfl rfl (by omega) (by omega)) rfl (sp rfl (PE.fA Z3q rfl) rfl (spL rfl rfl (lh sc3 rfl (Z1f (k := e) (j := 0) hp rfl (by rw [Int.toNat_natCast]; omega))) rfl (pur 1 rfl ?_)))))))))
     refine Z2 rfl ?_ ?_ <;> intro hc4 <;> try simp only [cS] at hc4
     have hv9 := Z8T (tb := wt.prvT Sx (e - 1)) (b := V) hg (by dsimp only; rw [← ha9, ← hpas, ← hpsum]; omega)
     dsimp only at hv9
     rw [← ha9, ← hpas] at hv9
     refine sqr 8 rfl (spL rfl rfl (lh Z1H rfl rfl) rfl (spL rfl rfl (lh sc3 rfl rfl) rfl (pur 1 rfl (spL rfl rfl (lhA [_, _] Z0G rfl rfl rfl) rfl (pur 1 rfl (sp rfl (PE.build (out := [_, _, _, _]) ZdL Zav rfl rfl) rfl (sp rfl (PE.indexAddr Z2Z rfl rfl (by omega) (by omega)) rfl ?_)))))))
     refine Z02 (l' := (ZL (P2.set e ⟨pa.sum + wt.gap f t, f, t, a9⟩)).flatten) rfl rfl rfl ZdF rfl rfl rfl (Zad (x := ⟨pa.sum + wt.gap f t, f, t, a9⟩) (by omega) (by rw [Int.toNat_natCast]; omega)) (by rw [Z7H]; show 0 + ((e : Nat) : Int).toNat * 4 + 4 ≤ _; rw [Int.toNat_natCast]; omega) ?_
     first
       | exact Zm (.inl ⟨rfl, P2, p, hP2, hp, by rw [Z2R hng]; exact hpsum, hprest, rfl, rfl⟩) (fun w h => h.del b9)
       | exact Zm (.inl ⟨rfl, _, ⟨pa.sum + wt.gap f t, f, t, a9⟩, hP2.put _, by rw [List.getElem?_set]; simp; omega, by rw [hv9], by dsimp only; omega, rfl, rfl⟩) (fun w h => h.del b9)
       | exact Zm (.inl ⟨rfl, P2, p, hP2, hp, by rw [hv9]; exact hpsum, hprest, rfl, rfl⟩) (fun w h => h.del b9)
     have hv9 := Z7F (w := wt) (S := Sx) (e := e) (tb := wt.prvT Sx (e - 1)) (b := V) (s := (f, t)) (by dsimp only; rw [← ha9, ← hpas, ← hpsum]; omega)
     refine Z5 ?_
     first
       | exact Zm (.inl ⟨rfl, P2, p, hP2, hp, by rw [Z2R hng]; exact hpsum, hprest, rfl, rfl⟩) (fun w h => h.del b9)
       | exact Zm (.inl ⟨rfl, _, ⟨pa.sum + wt.gap f t, f, t, a9⟩, hP2.put _, by rw [List.getElem?_set]; simp; omega, by rw [hv9], by dsimp only; omega, rfl, rfl⟩) (fun w h => h.del b9)
       | exact Zm (.inl ⟨rfl, P2, p, hP2, hp, by rw [hv9]; exact hpsum, hprest, rfl, rfl⟩) (fun w h => h.del b9)
     rintro _ _ _ _ ⟨rfl, rfl, P3, p3, hP3, hp3, hs3, hr3, rfl, rfl⟩
     refine Sy.heap (fun w h => h.ftail) ?_
     refine Z9f ?_
     refine Z0 (sqt 1 rfl (spL rfl rfl (lh sc3 rfl rfl) rfl (sqr 2 rfl ?_)))
     refine Sy.heap (fun w h => h.del b8) ?_
     refine alc rfl zl3 rfl (fun b8 => ?_)
     refine sto rfl rfl rfl cn3 rfl rfl rfl rfl ?_
     refine sqr 3 rfl (spL rfl rfl (lh sc3 rfl rfl) rfl (sp rfl (PE.add rfl rfl (by omega)) rfl ?_))
     rw [show (e : Int) + 1 = ((e + 1 : Nat) : Int) from by omega]
     refine sto rfl rfl rfl cn3 rfl rfl rfl rfl ?_
     exact Z0Z ⟨(e + 1, P3, b8, bd0 :: ms), by dsimp only; omega, by dsimp only; omega, hP3.next he1 hp3 hs3 hr3⟩ (by dsimp only; omega) (by repeat' first | exact Sub.nil | apply Sub.cons | rfl | (simp [lk]; omega)) rfl (fun w h => h.perm (List.perm_middle (l₁ := mkh (bd0 :: ms))).symm)
   obtain rfl : e = wt.counts.length := by omega
   refine Za (Zb (Zb (Zr (sqt 1 rfl (pur 1 rfl (Z0 (sqt 4 rfl (spL rfl rfl (lh Z1H rfl rfl) rfl (sp rfl (PE.lenSl Zab rfl) rfl (sp rfl (PE.sub rfl rfl (by omega)) rfl (pur 1 rfl (Z4 ?_))))))))))))
   have hlast : ∀ i p, P[i]? = some p → p.sum = na0 (wt.prvT Sx (wt.counts.length - 1)) i ∧ (0 < i → 0 ≤ p.rest ∧ p.rest < (i : Int)) := fun i p h => hP.at_ i p h (by have := (List.getElem?_eq_some_iff.1 h).1; omega)
   rw [show (wt.counts.length : Int) - 1 = ((wt.counts.length - 1 : Nat) : Int) from by omega]
   refine Sy.heap (H' := mkh ms ++ (b28, cel 208 (ZL P).flatten) :: (b7, cel 201 [.slice (some ⟨b28, 0, none⟩) wt.counts.length wt.counts.length]) :: (b6, cel 199 (Zu (ZA (wt.own Sx)))) :: (b3, cel 3 [.int .i64 (Sx : Nat)]) :: (b2, cel 134 [.pointer (some ⟨bd, 0, none⟩)]) :: H) (fun w h => h.del b8) ?_
   refine Z5Q (ι := (x : {x : Nat × List (Int × Int) // x.1 < wt.counts.length ∧ x.2.length + x.1 < wt.counts.length}) × OSl 195 2 (Z00 x.1.2)) (fun x => ⟨[(2, .pointer (some ⟨b2, 0, none⟩)), (3, .pointer (some ⟨b3, 0, none⟩)), (6, .pointer (some ⟨b6, 0, none⟩)), (7, .pointer (some ⟨b7, 0, none⟩)), (13, x.2.fs), (14, .int .i64 x.1.1.1)], mks ms, mkh ms ++ (x.2.G ++ (b28, cel 208 (ZL P).flatten) :: (b7, cel 201 [.slice (some ⟨b28, 0, none⟩) wt.counts.length wt.counts.length]) :: (b6, cel 199 (Zu (ZA (wt.own Sx)))) :: (b3, cel 3 [.int .i64 (Sx : Nat)]) :: (b2, cel 134 [.pointer (some ⟨bd, 0, none⟩)]) :: H), R⟩) (fun x => x.1.1.1) ⟨⟨(wt.counts.length - 1, []), by dsimp only; omega, by simp; omega⟩, OSl.nil _ _⟩ ?_ (fun x => ?_)
   exact Z9W (by repeat' first | exact Sub.nil | apply Sub.cons | rfl | (simp [lk]; omega)) rfl idH
   obtain ⟨⟨⟨i, l⟩, hi, hli⟩, o⟩ := x
   dsimp only at hi hli o ⊢
   obtain ⟨p, hp⟩ : ∃ p, P[i]? = some p := ⟨_, List.getElem?_eq_getElem (by omega)⟩
   have hpi := hlast i p hp
   obtain ⟨rl, hrl⟩ := ZaX (n := 0 + ((i : Nat) : Int).toNat * 4 + 1) hp (by rw [Int.toNat_natCast]; omega)
   refine Z0 (sqt 2 rfl (pur 2 rfl ?_))
   refine Z2 rfl ?_ ?_ <;> intro hc5
   try simp only [cS] at hc5
   have hpr9 := hpi.2 (by omega)
   refine Z5 (Z0 (Z4 (sqt 3 rfl (sp rfl (PE.build (out := [_, _]) Z8O Z28 rfl rfl) rfl (alc rfl Z28 rfl (fun b15 => ?_))))))
   refine sto rfl rfl rfl Z4e rfl rfl rfl rfl ?_
   refine Z0 ?_
   refine Z9 [0, 0, 3, 7, 15, 0, 63] (.ld 0 (tks 1 3 (.ld 4 (.ld 5 (.tk 6 .done))))) Zo (by kernel_rfl) ?_
   refine ld rfl rfl (lh Z1H rfl rfl) rfl (Zf 1 rfl (tk rfl (PE.indexAddr Z2Z rfl rfl (by omega) (by omega)) rfl (tk rfl (PE.fA Z6u rfl) rfl (ld rfl rfl (lhA [.int .i64 p.fr, .int .i64 p.to] Z0G rfl (rest := rl) hrl rfl) rfl (ld rfl rfl (lhA [_, _] Z0G rfl rfl rfl) rfl (tk rfl (PE.neqAgg [p.fr, p.to] [0, 0] (Z0n 10000 195 true 2 Z1r) ZbT rfl rfl rfl rfl) rfl ?_))))))
   refine Z2 rfl ?_ ?_ <;> intro hc6
   refine sqr 9 rfl (pur 1 rfl (spL rfl rfl (lh Z1H rfl rfl) rfl (pur 1 rfl (sp rfl (PE.indexAddr Z2Z rfl rfl (by omega) (by omega)) rfl (sp rfl (PE.fA Z6u rfl) rfl (spL rfl rfl (lhA [.int .i64 p.fr, .int .i64 p.to] Z0G rfl (rest := rl) hrl rfl) rfl ?_))))))
   refine bsl (out := [_, _]) rfl ZfX Z28 rfl rfl rfl rfl rfl rfl (fun b138 => ?_)
   refine apO (o) rfl ZfR rfl rfl (Z3N (row := [.int .i64 p.fr, .int .i64 p.to]) rfl) rfl rfl ((by rw [Z37]; simp only [List.length_singleton]; omega)) rfl (fun o139 => ?_)
   refine pur 1 rfl (sqr 6 rfl (spL rfl rfl (lh Z1H rfl rfl) rfl (pur 1 rfl (sp rfl (PE.indexAddr Z2Z rfl rfl (by omega) (by omega)) rfl (sp rfl (PE.fA Z7K rfl) rfl (spL rfl rfl (lh sc3 rfl (Z1f (k := i) (j := 3) hp rfl (by rw [Int.toNat_natCast]; omega))) rfl (pur 1 rfl ?_)))))))
   obtain ⟨r9, hr9⟩ : ∃ r9 : Nat, p.rest = r9 := ⟨p.rest.toNat, by omega⟩
   rw [hr9]
   first
     | exact Z0Z ⟨⟨(r9, l ++ [(p.fr, p.to)]), by dsimp only; omega, by simp; omega⟩, o139.cast (by simp [Z00])⟩ (by dsimp only; omega) (by repeat' first | exact Sub.nil | apply Sub.cons | rfl | (simp [lk]; omega)) rfl (fun w h => (h.del b138).del b15)
     | exact Z0Z ⟨⟨(r9, l), by dsimp only; omega, by dsimp only; omega⟩, o⟩ (by dsimp only; omega) (by repeat' first | exact Sub.nil | apply Sub.cons | rfl | (simp [lk]; omega)) rfl (fun w h => h.del b15)
   refine Z5 (sqr 6 rfl (spL rfl rfl (lh Z1H rfl rfl) rfl (pur 1 rfl (sp rfl (PE.indexAddr Z2Z rfl rfl (by omega) (by omega)) rfl (sp rfl (PE.fA Z7K rfl) rfl (spL rfl rfl (lh sc3 rfl (Z1f (k := i) (j := 3) hp rfl (by rw [Int.toNat_natCast]; omega))) rfl (pur 1 rfl ?_)))))))
   obtain ⟨r9, hr9⟩ : ∃ r9 : Nat, p.rest = r9 := ⟨p.rest.toNat, by omega⟩
   rw [hr9]
   first
     | exact Z0Z ⟨⟨(r9, l ++ [(p.fr, p.to)]), by dsimp only; omega, by simp; omega⟩, o139.cast (by simp [Z00])⟩ (by dsimp only; omega) (by repeat' first | exact Sub.nil | apply Sub.cons | rfl | (simp [lk]; omega)) rfl (fun w h => (h.del b138).del b15)
     | exact Z0Z ⟨⟨(r9, l), by dsimp only; omega, by dsimp only; omega⟩, o⟩ (by dsimp only; omega) (by repeat' first | exact Sub.nil | apply Sub.cons | rfl | (simp [lk]; omega)) rfl (fun w h => h.del b15)
   refine Za (Zb (Zb (Zr (sqt 2 rfl (pur 1 rfl ?_)))))
   refine Sy.heap (H' := o.G ++ (mkh ms ++ (b28, cel 208 (ZL P).flatten) :: (b7, cel 201 [.slice (some ⟨b28, 0, none⟩) wt.counts.length wt.counts.length]) :: (b6, cel 199 (Zu (ZA (wt.own Sx)))) :: (b3, cel 3 [.int .i64 (Sx : Nat)]) :: (b2, cel 134 [.pointer (some ⟨bd, 0, none⟩)]) :: H)) (fun w h => h.perm (Z0l _ _ _)) ?_
   refine cl rfl Zdt rfl rfl (ZaU l o (by omega) _ _) ?_
   rintro _ _ R1 ⟨rfl, rfl, hR1⟩
   obtain rfl := hR1.symm
   clear hR1
   obtain ⟨pz, hpz⟩ : ∃ p, P[wt.counts.length - 1]? = some p := ⟨_, List.getElem?_eq_getElem (by omega)⟩
   have hpzs := (hlast _ _ hpz).1
   refine Z0 ?_
   refine Z9 [0, 0, 0, 4, 12, 30, 62, 126, 1, 511] (.tk 0 (.ld 1 (.ld 2 (tks 3 4 (.ld 7 (.tk 8 (.tk 9 .done))))))) Zo (by kernel_rfl) ?_
   refine Zf 1 rfl (ld rfl rfl (lh Z1H rfl rfl) rfl (ld rfl rfl (lh Z1H rfl rfl) rfl (tk rfl (PE.lenSl Zab rfl) rfl (tk rfl (PE.sub rfl rfl (by omega)) rfl ?_))))
   rw [show (wt.counts.length : Int) - 1 = ((wt.counts.length - 1 : Nat) : Int) from by omega]
   refine tk rfl (PE.indexAddr Z2Z rfl rfl (by omega) (by omega)) rfl (tk rfl (PE.fA Z3q rfl) rfl (ld rfl rfl (lh sc3 rfl (Z1f (k := wt.counts.length - 1) (j := 0) hpz rfl (by rw [Int.toNat_natCast]; omega))) rfl (Zf 2 rfl (Z1 ?_))))
   exact Z0s ms idH rfl (.cons (RV.tmp rfl) (.cons (RV.tmp rfl) .nil)) rfl ⟨_, by rw [hpzs]; rfl, rfl, rfl⟩ (fun w h => ((((h.del b28).del b7).del b6).del b3).del b2)
theorem ZeZ : cal Tryz.prog 51 = true := by kernel_rfl
theorem Zez : cal Tryz.prog 52 = true := by kernel_rfl
theorem Zgl {n : Nat} (h : n ≤ 6) : 1 ≤ 2 ^ n ∧ 2 ^ n ≤ 64 := ⟨Nat.one_le_two_pow, Nat.pow_le_pow_right (n := 2) (by decide) h⟩
def Wt.full (w : Wt) : Nat := 2 ^ w.hands.toNat - 1
theorem Zbd {w : Wt} (hw : w.ok) : w.full < 2 ^ 6 := by have := hw.hands; have := Zgl (n := w.hands.toNat) (by omega); unfold Wt.full; omega
theorem c_Missing (wt : Wt) (a1 a2 a3 : Option Addr) (k1 k2 k3 : Nat) (hw : wt.ok) (hcl : wt.clash = false) (H : Z6) (R : Z3) [hR1 : MemRows a1 3 (crows wt.counts) R] [hR2 : MemRows a2 2 (bkrows wt.books) R] [hR3 : MemRows a3 3 (sprows wt.spells) R] :
    FnV Tryz.prog 19 [(wt.v a1 a2 a3 k1 k2 k3)] H R (.tuple #[.int .i64 (wt.prv wt.full), .int .i64 0]) := by
 refine Z8 Tryz.func19 rfl Tryz.ntmps19 rfl ?_
 refine sqt 3 rfl (bx rfl rfl rfl (fun b1 => pur 2 rfl (sqt 7 rfl (spL rfl rfl (lhA (wtl wt a1 a2 a3 k1 k2 k3) Z5o rfl rfl rfl) rfl ?_))))
 refine cl rfl ZeZ rfl rfl (Z4p wt a1 a2 a3 k1 k2 k3 hw hcl _ _) ?_
 rintro _ _ R1 ⟨bd, m, kv, rfl, hkv, rfl, hR1⟩
 subst hR1
 refine pur 5 rfl (Z0 (sqt 2 rfl (pur 2 rfl ?_)))
 refine Z2 rfl ?_ ?_ <;> intro hc0
 exact absurd hc0 (by simp)
 have hha := hw.hands
 obtain ⟨hn, hhn⟩ : ∃ n : Nat, wt.hands = n := ⟨wt.hands.toNat, by omega⟩
 have hfl : wt.full = 2 ^ hn - 1 := by unfold Wt.full; rw [hhn, Int.toNat_natCast]
 have hp6 := Zgl (n := hn) (by omega)
 refine Z5 (sqt 11 rfl (pur 1 rfl (sp rfl (PE.fA Z6U rfl) rfl (spL rfl rfl (lh (v := .int .i64 (hn : Nat)) sc3 rfl (by show some (Value.int .i64 wt.hands) = _; rw [hhn])) rfl (sp rfl (PE.shlN (m := 1) (n := hn) rfl rfl rfl (by omega) (by omega)) rfl (sp rfl (PE.sub rfl rfl (by omega)) rfl ?_))))))
 rw [show ((1 * 2 ^ hn : Nat) : Int) - 1 = ((wt.full : Nat) : Int) from by rw [hfl]; omega]
 refine cl rfl Zez rfl rfl (ZbD wt a1 a2 a3 k1 k2 k3 hw bd m kv hkv wt.full (Zbd hw) _ _) ?_
 rintro _ _ R1 ⟨fs, rfl, rfl, hR1⟩
 subst hR1
 refine pur 5 rfl (sqt 3 rfl (pur 3 rfl (Z1 ?_)))
 exact rtB rfl rfl rfl rfl ⟨rfl, rfl, rfl⟩ (fun w h => (h.del b1).ftail.ftail)
end Go.Proofs.YtjoajfdnlomapaaGreat.Hn
namespace Go.Proofs.YtjoajfdnlomapaaGreat
set_option linter.unusedSimpArgs false
set_option linter.unusedVariables false
open Go
theorem Z17 : Z0W Tryz.prog 52 = some 7 := by kernel_rfl
theorem Zd1 : apT Tryz.prog 47 = some (3, 1, 8) := by kernel_rfl
theorem ZfZ : apT Tryz.prog 48 = some (113, 3, 24) := by kernel_rfl
theorem Zes : apT Tryz.prog 49 = some (59, 3, 24) := by kernel_rfl
theorem Z0f : cal Tryz.prog 11 = true := by kernel_rfl
theorem Z1L : cal Tryz.prog 29 = true := by kernel_rfl
theorem Z9x : cal Tryz.prog 37 = true := by kernel_rfl
theorem Zge : Zx Tryz.prog 47 = some 1 := by kernel_rfl
theorem ZgH : Zx Tryz.prog 48 = some 1 := by kernel_rfl
theorem Zf4 : Zx Tryz.prog 49 = some 1 := by kernel_rfl
theorem Z8n : Zx Tryz.prog 52 = some 7 := by kernel_rfl
theorem Z1Y : ZJ Tryz.prog 52 0 = some 0 := by kernel_rfl
theorem Z1q : ZJ Tryz.prog 52 1 = some 1 := by kernel_rfl
theorem Z3l : ZJ Tryz.prog 52 2 = some 2 := by kernel_rfl
theorem Z2D : ZJ Tryz.prog 52 3 = some 3 := by kernel_rfl
theorem Z04 : ZJ Tryz.prog 52 4 = some 4 := by kernel_rfl
theorem Z05 : ZJ Tryz.prog 52 5 = some 5 := by kernel_rfl
theorem Z8p : ZB Tryz.prog 113 = some [(0, 1), (1, 1), (2, 1)] := by kernel_rfl
theorem Zen : ZB Tryz.prog 52 = some [(0, 1), (1, 1), (2, 1), (3, 1), (4, 1), (5, 1), (6, 1)] := by kernel_rfl
theorem Zer : ZB Tryz.prog 59 = some [(0, 1), (1, 1), (2, 1)] := by kernel_rfl
theorem sc3 : Z0b Tryz.prog 3 = true := by kernel_rfl
theorem Z7r : Z0b Tryz.prog 47 = true := by kernel_rfl
theorem Z40 : Z0b Tryz.prog 48 = true := by kernel_rfl
theorem Z3K : Z0b Tryz.prog 49 = true := by kernel_rfl
theorem Z4a : slE Tryz.prog 47 = some (3, 1) := by kernel_rfl
theorem Zek : slE Tryz.prog 48 = some (113, 3) := by kernel_rfl
theorem ZbM : slE Tryz.prog 49 = some (59, 3) := by kernel_rfl
theorem Z47 : Zs Tryz.prog 113 = some ([.int .i64 0, .int .i64 0, .int .i64 0]) := by kernel_rfl
theorem zl3 : Zs Tryz.prog 3 = some ([.int .i64 0]) := by kernel_rfl
theorem Z6i : Zs Tryz.prog 52 = some ([.int .i64 0, .int .i64 0, .slice none 0 0, .slice none 0 0, .slice none 0 0, .slice none 0 0, .slice none 0 0]) := by kernel_rfl
theorem Z8j : Zs Tryz.prog 59 = some ([.int .i64 0, .int .i64 0, .int .i64 0]) := by kernel_rfl
namespace Lo
structure RisI (l : List Int) (k : Int) : Prop where
  ris : Z27 l = true
  bd : ∀ y ∈ l, 0 ≤ y ∧ y ≤ k - 1
theorem Z5q : ∀ {l : List Int} {x : Int}, Z27 l = true → (∀ y ∈ l, y < x) → Z27 (l ++ [x]) = true
  | [], _, _, _ => rfl
  | [y], x, _, h => by simp [Z27, h y (by simp)]
  | y :: z :: l, x, h, hx => by
    simp only [Z27, Bool.and_eq_true] at h
    have ih := Z5q (l := z :: l) (x := x) h.2 (fun u hu => hx u (List.mem_cons_of_mem _ hu))
    show (decide (y < z) && Z27 (z :: (l ++ [x]))) = true
    rw [h.1]; exact ih
theorem RisI.snoc {l : List Int} {k : Int} (h : RisI l k) (hk : 0 ≤ k) : RisI (l ++ [k]) (k + 1) := ⟨Z5q h.ris (fun y hy => by have := h.bd y hy; omega), fun y hy => by
  rcases List.mem_append.1 hy with h1 | h1
  · have := h.bd y h1; omega
  · rw [List.mem_singleton.1 h1]; omega⟩
theorem RisI.wide {l : List Int} {k k' : Int} (h : RisI l k) (hk : k ≤ k') : RisI l k' := ⟨h.ris, fun y hy => by have := h.bd y hy; omega⟩
def LnI (folk years top : Int) (l : List Ln) : Prop := ∀ x ∈ l, (1 ≤ x.bu ∧ x.bu ≤ top) ∧ (1 ≤ x.who ∧ x.who ≤ folk - 1) ∧ 0 ≤ x.year ∧ x.year ≤ years - 1
theorem LnI.snoc {folk years top : Int} {l : List Ln} (h : LnI folk years top l) {x : Ln} (hx : (1 ≤ x.bu ∧ x.bu ≤ top) ∧ (1 ≤ x.who ∧ x.who ≤ folk - 1) ∧ 0 ≤ x.year ∧ x.year ≤ years - 1) : LnI folk years top (l ++ [x]) := fun y hy => by
  rcases List.mem_append.1 hy with h1 | h1
  · exact h y h1
  · rw [List.mem_singleton.1 h1]; exact hx
structure PayI (folk years many : Int) (l : List Ln) (k : Nat) : Prop where
  len : l.length = k
  all : LnI folk years 70 l
  srt : Z4M l = true
  top : ∀ x ∈ l, x.year ≤ (k : Int) * years / many
theorem PayI.snoc {folk years many : Int} {l : List Ln} {k : Nat} (h : PayI folk years many l k) (hy : 1 ≤ years) (hk : (k : Int) < many) {x : Ln} (h1 : 1 ≤ x.bu ∧ x.bu ≤ 70) (h2 : 1 ≤ x.who ∧ x.who ≤ folk - 1) (h3 : x.year = (k : Int) * years / many) : PayI folk years many (l ++ [x]) (k + 1) := by
  have e0 : 0 ≤ (k : Int) * years := Int.mul_nonneg (by omega) (by omega)
  have e1 : 0 ≤ (k : Int) * years / many := Int.ediv_nonneg e0 (by omega)
  have e2 : (k : Int) * years / many < years := Int.ediv_lt_of_lt_mul (by omega) (by rw [Int.mul_comm years many]; exact Int.mul_lt_mul_of_pos_right hk (by omega))
  have e3 : (k : Int) * years / many ≤ ((k + 1 : Nat) : Int) * years / many := Int.ediv_le_ediv (by omega) (Int.mul_le_mul_of_nonneg_right (by omega) (by omega))
  refine ⟨by simp [h.len], h.all.snoc ⟨h1, h2, by omega, by omega⟩, Z2A h.srt (fun y hy => by have := h.top y hy; omega), fun y hy => ?_⟩
  rcases List.mem_append.1 hy with h4 | h4
  · have := h.top y h4; omega
  · rw [List.mem_singleton.1 h4]; omega
theorem made_ok {folk years : Int} {bad forg : List Int} {loans pays : List Ln} {many : Int} {k : Nat} (hf : 2 ≤ folk ∧ folk ≤ 7) (hy : 1 ≤ years ∧ years ≤ 9) (hb : RisI bad years) (hg : RisI forg loans.length) (hl : LnI folk years 60 loans) (hn : loans.length ≤ 10) (hp : PayI folk years many pays k) (hk : k ≤ 12) : (⟨folk, years, bad, forg, loans, pays, []⟩ : Ldg).ok where
  folk := by show 1 ≤ folk ∧ folk ≤ 7; omega
  years := hy
  nl := hn
  np := by show pays.length ≤ 12; rw [hp.len]; exact hk
  nq := Nat.zero_le _
  loans := fun x hx => by have := hl x hx; exact ⟨by omega, this.2⟩
  pays := fun x hx => by have := hp.all x hx; exact ⟨by omega, this.2⟩
  proms := fun x hx => by cases hx
  bad := hb.bd
  forg := hg.bd
  rbad := hb.ris
  rforg := hg.ris
  srt := hp.srt
end Lo
theorem St.also5 {H : Z6} {R : Z3} {f1 f2 f3 f4 : World → Prop} {w : World} {sz : Nat} (h : St H (f1 :: f2 :: f3 :: f4 :: R) w) : St H (f4 :: f3 :: f2 :: f1 :: RowsA none sz [] :: R) w :=
  (St.also h (f := RowsA none sz []) (fun w9 _ => fun i row hi => by simp at hi)).facts (fun f hf => by simp only [List.mem_cons] at hf ⊢; rcases hf with h | h | h | h | h | h <;> simp [h])
set_option maxHeartbeats 1000000 in
theorem Zbf (l0 : List Int) (a0 : Option Addr) (c0 bk : Nat) (hl0 : l0.length ≤ 9223372036854775807) (tq mx : Int) (htq : 0 ≤ tq ∧ tq ≤ 1000000) (hmx : 0 ≤ mx ∧ mx ≤ 4294967295) (H : Z6) (R : Z3) [hG : MemRows a0 1 (Gt.urows l0) R] :
    Fn Tryz.prog 12 [.pointer (some ⟨bk, 0, none⟩), .int .i64 5, .int .i64 5, .int .i64 8, .int .i64 8, .int .i64 0] ((bk, cel 96 [.slice a0 l0.length c0, .int .i64 (tq), .int .u32 (mx)]) :: H) R (fun v H' R' => ∃ (l : Lo.Ldg) (a1 a2 a3 a4 a5 : Option Addr) (k1 k2 k3 k4 k5 : Nat) (tq' mx' : Int), l.ok ∧ 2 ≤ l.folk ∧ l.pays.length ≤ 8 ∧ l.pays.length ≤ k4 ∧ v = l.v a1 a2 a3 a4 a5 k1 k2 k3 k4 k5 ∧ (tq ≤ tq' ∧ tq' ≤ tq + 200) ∧ (0 ≤ mx' ∧ mx' ≤ 4294967295) ∧
      H' = (bk, cel 96 [.slice a0 l0.length c0, .int .i64 (tq'), .int .u32 (mx')]) :: H ∧ R' = RowsA a4 3 (Lo.lnrows l.pays) :: RowsA a3 3 (Lo.lnrows l.loans) :: RowsA a2 1 (Lo.irows l.forg) :: RowsA a1 1 (Lo.irows l.bad) :: RowsA a5 3 (Lo.pmrows l.proms) :: R) := by
 refine Z8 Tryz.func12 rfl Tryz.ntmps12 rfl ?_
 refine sqt 1 rfl (alc rfl Z6i rfl (fun b12 => sqt 9 rfl (pur 2 rfl ?_)))
 refine Zq bk ?_
 refine cl rfl Z1L rfl rfl (Gt.c_Among l0 a0 c0 bk hl0 _ _ (by omega) (by assumption) (2) (5) (by first | omega | (dsimp only; omega)) _ _) ?_
 rintro _ _ R1 ⟨x21, m21, hx21, rfl, hm21, rfl, hR1⟩
 obtain rfl := hR1.symm
 clear hR1
 refine pur 2 rfl ?_
 refine cl rfl Z1L rfl rfl (Gt.c_Among l0 a0 c0 bk hl0 _ _ (by omega) (by assumption) (1) (5) (by first | omega | (dsimp only; omega)) _ _) ?_
 rintro _ _ R1 ⟨x24, m24, hx24, rfl, hm24, rfl, hR1⟩
 obtain rfl := hR1.symm
 clear hR1
 refine sp rfl (PE.build (out := [.int .i64 x21, .int .i64 x24, .slice none 0 0, .slice none 0 0, .slice none 0 0, .slice none 0 0, .slice none 0 0]) Zen Z6i rfl rfl) rfl (alc rfl Z6i rfl (fun b13 => ?_))
 refine sto rfl rfl rfl Z8n rfl rfl rfl rfl ?_
 refine Z0 (sqt 3 rfl (sp rfl (PE.fA Z1q rfl) rfl (spL rfl rfl (lh sc3 rfl rfl) rfl (pur 1 rfl (Z4 ?_)))))
 obtain ⟨n24, rfl⟩ : ∃ n : Nat, x24 = n := ⟨x24.toNat, by omega⟩
 refine Zq bk ?_
 refine Zc (ι := (x : {x : Nat × List Int × Int × Int // x.1 ≤ n24 ∧ (x.2.1.length ≤ x.1 ∧ Lo.RisI x.2.1 x.1) ∧ (tq ≤ x.2.2.1 ∧ x.2.2.1 ≤ tq + 2 + x.1) ∧ (0 ≤ x.2.2.2 ∧ x.2.2.2 ≤ 4294967295)}) × OSl 3 1 (Lo.irows x.1.2.1)) (fun x => ⟨[(0, .pointer (some ⟨bk, 0, none⟩)), (3, .int .i64 8), (4, .int .i64 8), (5, .int .i64 0), (12, .pointer (some ⟨b12, 0, none⟩)), (13, .pointer (some ⟨b13, 0, none⟩)), (27, .int .i64 n24), (28, .int .i64 x.1.1.1)],
   (bk, cel 96 [.slice a0 l0.length c0, .int .i64 (x.1.1.2.2.1), .int .u32 (x.1.1.2.2.2)]) :: (x.2.G ++ (b13, cel 52 [.int .i64 x21, .int .i64 n24, x.2.fs, .slice none 0 0, .slice none 0 0, .slice none 0 0, .slice none 0 0]) :: (b12, cel 52 [.int .i64 0, .int .i64 0, .slice none 0 0, .slice none 0 0, .slice none 0 0, .slice none 0 0, .slice none 0 0]) :: H), R⟩) (fun x => n24 - x.1.1.1) ⟨⟨(0, [], tq + 1 + 1, m24), by omega, ⟨by simp, ⟨rfl, by simp⟩⟩, by dsimp only; omega, by assumption⟩, OSl.nil _ _⟩ ?_ (fun x => ?_)
 exact Zk idH
 obtain ⟨⟨⟨y, bad, tq2, mx2⟩, hy, ⟨hbl, hbr⟩, htq2, hmx2⟩, o1⟩ := x
 dsimp only at hy hbl hbr htq2 hmx2 o1 ⊢
 refine sqt 1 rfl (pur 1 rfl (Z0 ?_))
 refine Z2 rfl ?_ ?_ <;> intro hc0 <;> try simp only [cS] at hc0
 refine Z5 (Z0 (Z4 (sqt 2 rfl (pur 2 rfl (sqt 2 rfl (pur 1 rfl ?_))))))
 refine cl rfl Z9x rfl rfl (Gt.c_Rare l0 a0 c0 bk hl0 _ _ (by omega) (by assumption) (3) _ _) ?_
 rintro _ _ R1 ⟨x32, m32, rfl, hm32, rfl, hR1⟩
 obtain rfl := hR1.symm
 clear hR1
 refine Z2 rfl ?_ ?_ <;> intro hc1 <;> try simp only [cS] at hc1
 refine sqr 7 rfl (sp rfl (PE.fA Z3l rfl) rfl (spL rfl rfl (lh Z7r rfl rfl) rfl (pur 1 rfl ?_)))
 refine bsl (out := [_]) rfl Z4a zl3 rfl rfl rfl rfl rfl rfl (fun b36 => ?_)
 refine apO (o1) rfl Zd1 rfl rfl (Z3N (row := [.int .i64 (y : Int)]) rfl) rfl rfl ((by simp only [Lo.irows, List.length_map, List.length_singleton]; omega)) rfl (fun o37 => ?_)
 refine sp rfl (PE.fA Z3l rfl) rfl ?_
 refine Z02 (l' := [.int .i64 x21, .int .i64 n24, o37.fs, .slice none 0 0, .slice none 0 0, .slice none 0 0, .slice none 0 0]) rfl rfl rfl Zge rfl (by rw [o37.cells.1]; first | done | rfl) (by rw [o37.cells.1]; simp [o37.cells.2]) (by rw [o37.cells.1]; first | done | rfl) (by rw [o37.cells.1]; first | done | exact Nat.le_of_ble_eq_true rfl) ?_
 refine sqr 2 rfl (sp rfl (PE.add rfl rfl (by omega)) rfl (pur 1 rfl ?_))
 exact Ze ⟨⟨(y + 1, bad ++ [(y : Int)], tq2 + 1, m32), by omega, ⟨by simp; omega, hbr.snoc (by omega)⟩, by dsimp only; omega, by assumption⟩, o37.cast (by simp [Lo.irows])⟩ (fun w h => (h.del b36).perm (by first | exact .refl _ | exact List.perm_middle (l₁ := o37.G)))
 refine Z5 (sqr 2 rfl (sp rfl (PE.add rfl rfl (by omega)) rfl (pur 1 rfl ?_)))
 exact Ze ⟨⟨(y + 1, bad, tq2 + 1, m32), by omega, ⟨by dsimp only; omega, hbr.wide (by dsimp only; omega)⟩, by dsimp only; omega, by assumption⟩, o1⟩ idH
 obtain rfl : y = n24 := by omega
 refine Za (Zb (Zb (Zr (Z0 (sqt 5 rfl (pur 2 rfl (sp rfl (PE.add rfl rfl (by omega)) rfl ?_)))))))
 refine cl rfl Z0f rfl rfl (Gt.c_Below l0 a0 c0 bk hl0 _ _ (by omega) (by assumption) (8 + 1) _ _) ?_
 rintro _ _ R1 ⟨x43, m43, hx43, rfl, hm43, rfl, hR1⟩
 obtain rfl := hR1.symm
 clear hR1
 refine pur 1 rfl (Z4 ?_)
 obtain ⟨n43, rfl⟩ : ∃ n : Nat, x43 = n := ⟨x43.toNat, by omega⟩
 refine Zc (ι := (x : {x : Nat × List Int × List Lo.Ln × Int × Int // x.1 ≤ n43 ∧ ((x.2.1.length ≤ x.1 ∧ Lo.RisI x.2.1 x.1) ∧ x.2.2.1.length = x.1 ∧ Lo.LnI x21 y 60 x.2.2.1) ∧ (tq ≤ x.2.2.2.1 ∧ x.2.2.2.1 ≤ tq + 20 + 4 * x.1) ∧ (0 ≤ x.2.2.2.2 ∧ x.2.2.2.2 ≤ 4294967295)}) × OSl 3 1 (Lo.irows x.1.2.1) × OSl 113 3 (Lo.lnrows x.1.2.2.1)) (fun x => ⟨[(0, .pointer (some ⟨bk, 0, none⟩)), (3, .int .i64 8), (4, .int .i64 8), (5, .int .i64 0), (12, .pointer (some ⟨b12, 0, none⟩)), (13, .pointer (some ⟨b13, 0, none⟩)), (43, .int .i64 n43), (44, .int .i64 x.1.1.1)],
   (bk, cel 96 [.slice a0 l0.length c0, .int .i64 (x.1.1.2.2.2.1), .int .u32 (x.1.1.2.2.2.2)]) :: (x.2.2.G ++ (x.2.1.G ++ (o1.G ++ (b13, cel 52 [.int .i64 x21, .int .i64 y, o1.fs, x.2.1.fs, x.2.2.fs, .slice none 0 0, .slice none 0 0]) :: (b12, cel 52 [.int .i64 0, .int .i64 0, .slice none 0 0, .slice none 0 0, .slice none 0 0, .slice none 0 0, .slice none 0 0]) :: H))), R⟩) (fun x => n43 - x.1.1.1) ⟨⟨(0, [], [], tq2 + 1, m43), by omega, ⟨⟨by simp, ⟨rfl, by simp⟩⟩, rfl, fun x hx => by cases hx⟩, by dsimp only; omega, by assumption⟩, OSl.nil _ _, OSl.nil _ _⟩ ?_ (fun x => ?_)
 exact Zk idH
 obtain ⟨⟨⟨i, forg, loans, tq3, mx3⟩, hi, ⟨⟨hfl, hfr⟩, hll, hlI⟩, htq3, hmx3⟩, o2, o3⟩ := x
 dsimp only at hi hfl hfr hll hlI htq3 hmx3 o2 o3 ⊢
 refine sqt 1 rfl (pur 1 rfl (Z0 ?_))
 refine Z2 rfl ?_ ?_ <;> intro hc2 <;> try simp only [cS] at hc2
 refine Z5 (Z0 (Z4 (sqt 2 rfl (pur 2 rfl (Z0 ?_)))))
 refine Z9 [0, 1, 0, 0, 8, 24, 60, 0, 0, 256, 1020, 0, 4092, 8188, 16380, 32767, 65535, 131071] (.tk 0 (.ld 1 (.tk 2 (.tk 3 (.ld 4 (.tk 5 (.tk 7 (.tk 8 (.ld 9 (.tk 11 (.big 6 (.big 10 (.big 12 (.tk 13 (.big 14 (.big 15 (.tk 16 (.big 17 .done)))))))))))))))))) Zo (by kernel_rfl) ?_
 refine tk rfl (PE.fA Z04 rfl) rfl (ld rfl rfl (lh Z40 rfl rfl) rfl (Zf 1 rfl (tk rfl (PE.fA Z1Y rfl) rfl (ld rfl rfl (lh sc3 rfl rfl) rfl (tk rfl (PE.sub rfl rfl (by omega)) rfl (Zf 1 rfl (tk rfl (PE.fA Z1q rfl) rfl (ld rfl rfl (lh sc3 rfl rfl) rfl (Zf 1 rfl ?_)))))))))
 refine cl rfl Z1L rfl rfl (Gt.c_Among l0 a0 c0 bk hl0 _ _ (by omega) (by assumption) (1) (x21 - 1) (by first | omega | (dsimp only; omega)) _ _) ?_
 rintro _ _ R1 ⟨x53, m53, hx53, rfl, hm53, rfl, hR1⟩
 obtain rfl := hR1.symm
 clear hR1
 refine bg (fun w hs => ⟨(lh sc3 rfl rfl) w hs, trivial, (lh Z40 rfl rfl) w hs, trivial⟩) ?_
 refine cl rfl Z0f rfl rfl (Gt.c_Below l0 a0 c0 bk hl0 _ _ (by omega) (by assumption) (y) _ _) ?_
 rintro _ _ R1 ⟨x57, m57, hx57, rfl, hm57, rfl, hR1⟩
 obtain rfl := hR1.symm
 clear hR1
 refine bg (fun w hs => ⟨trivial, (lh Z40 rfl rfl) w hs, trivial⟩) ?_
 refine cl rfl Z1L rfl rfl (Gt.c_Among l0 a0 c0 bk hl0 _ _ (by omega) (by assumption) (1) (60) (by first | omega | (dsimp only; omega)) _ _) ?_
 rintro _ _ R1 ⟨x59, m59, hx59, rfl, hm59, rfl, hR1⟩
 obtain rfl := hR1.symm
 clear hR1
 refine bg (fun w hs => ⟨(lh Z40 rfl rfl) w hs, trivial⟩) ?_
 refine tk rfl (PE.build (out := [_, _, _]) Z8p Z47 rfl rfl) rfl ?_
 refine bsl (out := [_, _, _]) rfl Zek Z47 rfl rfl rfl rfl rfl rfl (fun b61 => ?_)
 refine bg (fun w hs => ⟨(lh Z40 rfl rfl) w hs, trivial⟩) ?_
 refine apO (o3) rfl ZfZ rfl rfl (Z3N (row := Lo.lnrow ⟨x53, x57, x59⟩) rfl) rfl rfl ((by rw [Lo.lnr_len]; simp only [List.length_singleton]; omega)) rfl (fun o62 => ?_)
 refine bgT (tk rfl (PE.fA Z04 rfl) rfl ?_)
 refine Z02 (l' := [.int .i64 x21, .int .i64 y, o1.fs, o2.fs, o62.fs, .slice none 0 0, .slice none 0 0]) rfl rfl rfl ZgH rfl (by rw [o62.cells.1]; first | done | rfl) (by rw [o62.cells.1]; simp [o62.cells.2]) (by rw [o62.cells.1]; first | done | rfl) (by rw [o62.cells.1]; first | done | exact Nat.le_of_ble_eq_true rfl) ?_
 have hlI2 := hlI.snoc (x := ⟨x53, x57, x59⟩) (by dsimp only; omega)
 refine bgT (sqt 2 rfl (pur 1 rfl ?_))
 refine Zq bk ?_
 refine cl rfl Z9x rfl rfl (Gt.c_Rare l0 a0 c0 bk hl0 _ _ (by omega) (by assumption) (6) _ _) ?_
 rintro _ _ R1 ⟨x65, m65, rfl, hm65, rfl, hR1⟩
 obtain rfl := hR1.symm
 clear hR1
 refine Z2 rfl ?_ ?_ <;> intro hc3 <;> try simp only [cS] at hc3
 refine sqr 7 rfl (sp rfl (PE.fA Z2D rfl) rfl (spL rfl rfl (lh Z7r rfl rfl) rfl (pur 1 rfl ?_)))
 refine bsl (out := [_]) rfl Z4a zl3 rfl rfl rfl rfl rfl rfl (fun b69 => ?_)
 refine apO (o2) rfl Zd1 rfl rfl (Z3N (row := [.int .i64 (i : Int)]) rfl) rfl rfl ((by simp only [Lo.irows, List.length_map, List.length_singleton]; omega)) rfl (fun o70 => ?_)
 refine sp rfl (PE.fA Z2D rfl) rfl ?_
 refine Z02 (l' := [.int .i64 x21, .int .i64 y, o1.fs, o70.fs, o62.fs, .slice none 0 0, .slice none 0 0]) rfl rfl rfl Zge rfl (by rw [o70.cells.1]; first | done | rfl) (by rw [o70.cells.1]; simp [o70.cells.2]) (by rw [o70.cells.1]; first | done | rfl) (by rw [o70.cells.1]; first | done | exact Nat.le_of_ble_eq_true rfl) ?_
 refine sqr 2 rfl (sp rfl (PE.add rfl rfl (by omega)) rfl (pur 1 rfl ?_))
 exact Ze ⟨⟨(i + 1, forg ++ [(i : Int)], loans ++ [⟨x53, x57, x59⟩], tq3 + 1 + 1 + 1 + 1, m65), by omega, ⟨⟨by simp; omega, hfr.snoc (by omega)⟩, by simp [hll], hlI2⟩, by dsimp only; omega, by assumption⟩, o70.cast (by simp [Lo.irows]), o62.cast (by simp [Lo.lnrows])⟩ (fun w h => (h.del b69).del b61)
 refine Z5 (sqr 2 rfl (sp rfl (PE.add rfl rfl (by omega)) rfl (pur 1 rfl ?_)))
 exact Ze ⟨⟨(i + 1, forg, loans ++ [⟨x53, x57, x59⟩], tq3 + 1 + 1 + 1 + 1, m65), by omega, ⟨⟨by dsimp only; omega, hfr.wide (by dsimp only; omega)⟩, by simp [hll], hlI2⟩, by dsimp only; omega, by assumption⟩, o2, o62.cast (by simp [Lo.lnrows])⟩ (fun w h => h.del b61)
 obtain rfl : i = n43 := by omega
 refine Za (Zb (Zb (Zr (sqt 5 rfl (pur 2 rfl (sp rfl (PE.add rfl rfl (by omega)) rfl ?_))))))
 refine cl rfl Z0f rfl rfl (Gt.c_Below l0 a0 c0 bk hl0 _ _ (by omega) (by assumption) (8 + 1) _ _) ?_
 rintro _ _ R1 ⟨x76, m76, hx76, rfl, hm76, rfl, hR1⟩
 obtain rfl := hR1.symm
 clear hR1
 refine pur 1 rfl (Z0 (sqt 2 rfl (pur 2 rfl (Z4 ?_))))
 obtain ⟨n76, rfl⟩ : ∃ n : Nat, x76 = n := ⟨x76.toNat, by omega⟩
 refine Zc (ι := (x : {x : Nat × List Lo.Ln × Int × Int // x.1 ≤ n76 ∧ Lo.PayI x21 y n76 x.2.1 x.1 ∧ (tq ≤ x.2.2.1 ∧ x.2.2.1 ≤ tq + 70 + 2 * x.1) ∧ (0 ≤ x.2.2.2 ∧ x.2.2.2 ≤ 4294967295)}) × OSl 59 3 (Lo.lnrows x.1.2.1)) (fun x => ⟨[(0, .pointer (some ⟨bk, 0, none⟩)), (3, .int .i64 8), (4, .int .i64 8), (5, .int .i64 0), (12, .pointer (some ⟨b12, 0, none⟩)), (13, .pointer (some ⟨b13, 0, none⟩)), (16, .int .i64 n76), (77, .int .i64 n76), (78, .int .i64 x.1.1.1)],
   (bk, cel 96 [.slice a0 l0.length c0, .int .i64 (x.1.1.2.2.1), .int .u32 (x.1.1.2.2.2)]) :: (x.2.G ++ (o3.G ++ (o2.G ++ (o1.G ++ (b13, cel 52 [.int .i64 x21, .int .i64 y, o1.fs, o2.fs, o3.fs, x.2.fs, .slice none 0 0]) :: (b12, cel 52 [.int .i64 0, .int .i64 0, .slice none 0 0, .slice none 0 0, .slice none 0 0, .slice none 0 0, .slice none 0 0]) :: H)))), R⟩) (fun x => n76 - x.1.1.1) ⟨⟨(0, [], tq3 + 1, m76), by omega, ⟨rfl, (fun x hx => by cases hx), rfl, (fun x hx => by cases hx)⟩, by dsimp only; omega, by assumption⟩, OSl.nil _ _⟩ ?_ (fun x => ?_)
 exact Zk idH
 obtain ⟨⟨⟨k, pays, tq4, mx4⟩, hk, hpI, htq4, hmx4⟩, o4⟩ := x
 dsimp only at hk hpI htq4 hmx4 o4 ⊢
 have hpl := hpI.len
 refine sqt 1 rfl (pur 1 rfl (Z0 ?_))
 refine Z2 rfl ?_ ?_ <;> intro hc4 <;> try simp only [cS] at hc4
 have hmul := Gt.mul_b (a := (k : Int)) (b := (y : Int)) (A := 8) (B := 5) (by omega) (by omega) (by omega) (by omega)
 refine Z5 (Z0 (Z4 (sqt 2 rfl (pur 2 rfl ?_))))
 refine Z9 [0, 1, 0, 0, 8, 24, 60, 0, 0, 256, 896, 0, 3968, 0, 8316, 32764, 65532, 131071, 262143, 524287] (.tk 0 (.ld 1 (.tk 2 (.tk 3 (.ld 4 (.tk 5 (.tk 7 (.tk 8 (.ld 9 (tks 10 4 (.big 6 (.big 14 (.tk 15 (.big 16 (.big 17 (.tk 18 (.big 19 .done))))))))))))))))) Zo (by kernel_rfl) ?_
 refine tk rfl (PE.fA Z05 rfl) rfl (ld rfl rfl (lh Z3K rfl rfl) rfl (Zf 1 rfl (tk rfl (PE.fA Z1Y rfl) rfl (ld rfl rfl (lh sc3 rfl rfl) rfl (tk rfl (PE.sub rfl rfl (by omega)) rfl (Zf 1 rfl (tk rfl (PE.fA Z1q rfl) rfl (ld rfl rfl (lh sc3 rfl rfl) rfl (tk rfl (PE.mul rfl rfl (by omega)) rfl (Zf 1 rfl (tk rfl (PE.quo rfl rfl (by omega)) rfl (Zf 1 rfl ?_))))))))))))
 refine cl rfl Z1L rfl rfl (Gt.c_Among l0 a0 c0 bk hl0 _ _ (by omega) (by assumption) (1) (x21 - 1) (by first | omega | (dsimp only; omega)) _ _) ?_
 rintro _ _ R1 ⟨x87, m87, hx87, rfl, hm87, rfl, hR1⟩
 obtain rfl := hR1.symm
 clear hR1
 refine bg (fun w hs => ⟨(lh sc3 rfl rfl) w hs, trivial, (lh Z3K rfl rfl) w hs, trivial⟩) ?_
 refine cl rfl Z1L rfl rfl (Gt.c_Among l0 a0 c0 bk hl0 _ _ (by omega) (by assumption) (1) (70) (by first | omega | (dsimp only; omega)) _ _) ?_
 rintro _ _ R1 ⟨x95, m95, hx95, rfl, hm95, rfl, hR1⟩
 obtain rfl := hR1.symm
 clear hR1
 refine bg (fun w hs => ⟨(lh sc3 rfl rfl) w hs, (lh Z3K rfl rfl) w hs, trivial⟩) ?_
 refine tk rfl (PE.build (out := [_, _, _]) Zer Z8j rfl rfl) rfl ?_
 refine bsl (out := [_, _, _]) rfl ZbM Z8j rfl rfl rfl rfl rfl rfl (fun b97 => ?_)
 refine bg (fun w hs => ⟨trivial, (lh Z3K rfl rfl) w hs, trivial⟩) ?_
 refine apO (o4) rfl Zes rfl rfl (Z3N (row := Lo.lnrow ⟨x87, (k : Int) * y / n76, x95⟩) rfl) rfl rfl ((by rw [Lo.lnr_len]; simp only [List.length_singleton]; omega)) rfl (fun o98 => ?_)
 refine bgT (tk rfl (PE.fA Z05 rfl) rfl ?_)
 refine Z02 (l' := [.int .i64 x21, .int .i64 y, o1.fs, o2.fs, o3.fs, o98.fs, .slice none 0 0]) rfl rfl rfl Zf4 rfl (by rw [o98.cells.1]; first | done | rfl) (by rw [o98.cells.1]; simp [o98.cells.2]) (by rw [o98.cells.1]; first | done | rfl) (by rw [o98.cells.1]; first | done | exact Nat.le_of_ble_eq_true rfl) ?_
 have hpI2 := hpI.snoc (x := ⟨x87, (k : Int) * y / n76, x95⟩) (by omega) (by omega) (by dsimp only; omega) (by dsimp only; omega) rfl
 refine bgT (sqr 2 rfl (sp rfl (PE.add rfl rfl (by omega)) rfl (pur 1 rfl ?_)))
 exact Ze ⟨⟨(k + 1, pays ++ [⟨x87, (k : Int) * y / n76, x95⟩], tq4 + 1 + 1, m95), by omega, hpI2, by dsimp only; omega, by assumption⟩, o98.cast (by simp [Lo.lnrows])⟩ (fun w h => (h.del b97).pull bk)
 obtain rfl : k = n76 := by omega
 refine Za (Zb (Zb (Zr (Z0 (sqt 5 rfl (pur 2 rfl (sp rfl (PE.add rfl rfl (by omega)) rfl ?_)))))))
 refine cl rfl Z0f rfl rfl (Gt.c_Below l0 a0 c0 bk hl0 _ _ (by omega) (by assumption) (0 + 1) _ _) ?_
 rintro _ _ R1 ⟨x104, m104, hx104, rfl, hm104, rfl, hR1⟩
 obtain rfl := hR1.symm
 clear hR1
 obtain rfl : x104 = 0 := by omega
 refine pur 1 rfl (Z4 ?_)
 refine Zc (ι := Unit) (fun _ => ⟨[(0, .pointer (some ⟨bk, 0, none⟩)), (3, .int .i64 8), (4, .int .i64 8), (5, .int .i64 0), (12, .pointer (some ⟨b12, 0, none⟩)), (13, .pointer (some ⟨b13, 0, none⟩)), (104, .int .i64 0), (105, .int .i64 0)], (bk, cel 96 [.slice a0 l0.length c0, .int .i64 (tq4 + 1), .int .u32 (m104)]) :: (o4.G ++ (o3.G ++ (o2.G ++ (o1.G ++ (b13, cel 52 [.int .i64 x21, .int .i64 y, o1.fs, o2.fs, o3.fs, o4.fs, .slice none 0 0]) :: (b12, cel 52 [.int .i64 0, .int .i64 0, .slice none 0 0, .slice none 0 0, .slice none 0 0, .slice none 0 0, .slice none 0 0]) :: H)))), R⟩) (fun _ => 0) () ?_ (fun x => ?_)
 exact Zk idH
 refine sqt 1 rfl (pur 1 rfl (Z0 ?_))
 refine Z2 rfl ?_ ?_ <;> intro hc5
 exact absurd hc5 (by simp)
 obtain ⟨a4, k4, he4, hf4⟩ := o4.freeze
 have hcap : pays.length ≤ k4 := by have := Lo.fz_cap o4 he4; rwa [Lo.lnr_len] at this
 rw [he4, Lo.lnr_len]
 obtain ⟨a3, k3, he3, hf3⟩ := o3.freeze
 rw [he3, Lo.lnr_len]
 obtain ⟨a2, k2, he2, hf2⟩ := o2.freeze
 rw [he2, show (Lo.irows forg).length = forg.length from List.length_map _]
 obtain ⟨a1, k1, he1, hf1⟩ := o1.freeze
 rw [he1, show (Lo.irows bad).length = bad.length from List.length_map _]
 refine Sy.heap (fun w h => hf1 (St.pullG o1.G (hf2 (St.pullG o2.G (hf3 (St.pullG o3.G (hf4 (h.pullG o4.G)))))))) ?_
 simp only [List.nil_append]
 obtain ⟨l, hle⟩ : ∃ l : Lo.Ldg, l = ⟨x21, y, bad, forg, loans, pays, []⟩ := ⟨_, rfl⟩
 have hlok : l.ok := by rw [hle]; exact Lo.made_ok (by omega) (by omega) hbr (by rw [hll]; exact hfr) hlI (by omega) hpI (by omega)
 have hl8 : l.pays.length ≤ 8 := by rw [hle]; show pays.length ≤ 8; omega
 have hl2 : 2 ≤ l.folk := by rw [hle]; show 2 ≤ x21; omega
 have hcp : l.pays.length ≤ k4 := by rw [hle]; exact hcap
 refine Za (Zb (Zb (Zr (sqt 2 rfl (spL rfl rfl (lhA [.int .i64 x21, .int .i64 y, .slice a1 bad.length k1, .slice a2 forg.length k2, .slice a3 loans.length k3, .slice a4 pays.length k4, .slice none 0 0] Z17 rfl rfl rfl) rfl ?_)))))
 refine Z02 (l' := [.int .i64 x21, .int .i64 y, .slice a1 bad.length k1, .slice a2 forg.length k2, .slice a3 loans.length k3, .slice a4 pays.length k4, .slice none 0 0]) rfl rfl rfl Z8n rfl rfl rfl rfl (nl rfl) ?_
 refine Z1 ?_
 exact Z7 (vs := [_]) rfl (.cons (RV.cell rfl (lhA [.int .i64 x21, .int .i64 y, .slice a1 bad.length k1, .slice a2 forg.length k2, .slice a3 loans.length k3, .slice a4 pays.length k4, .slice none 0 0] Z17 rfl rfl rfl)) .nil) rfl ⟨l, a1, a2, a3, a4, none, k1, k2, k3, k4, 0, tq4 + 1, m104, hlok, hl2, hl8, hcp, by rw [hle]; rfl, by omega, by assumption, rfl, rfl⟩ (fun w h => by rw [hle]; exact St.also5 ((h.del b13).del b12))
theorem Z34 : Z0W Tryz.prog 27 = some 3 := by kernel_rfl
theorem Z0N : Z0W Tryz.prog 30 = some 3 := by kernel_rfl
theorem Z35 : Z0W Tryz.prog 31 = some 4 := by kernel_rfl
theorem Z2T : Z0W Tryz.prog 41 = some 2 := by kernel_rfl
theorem Z5o : Z0W Tryz.prog 71 = some 6 := by kernel_rfl
theorem Z2m : arN Tryz.prog 31 = some (4, 1) := by kernel_rfl
theorem ZcV : cal Tryz.prog 10 = true := by kernel_rfl
theorem Zfg : cal Tryz.prog 12 = true := by kernel_rfl
theorem ZeY : cal Tryz.prog 13 = true := by kernel_rfl
theorem Zao : cal Tryz.prog 14 = true := by kernel_rfl
theorem ZfG : cal Tryz.prog 15 = true := by kernel_rfl
theorem ZfH : cal Tryz.prog 16 = true := by kernel_rfl
theorem ZfQ : cal Tryz.prog 17 = true := by kernel_rfl
theorem Zfi : cal Tryz.prog 19 = true := by kernel_rfl
theorem Zfr : cal Tryz.prog 47 = true := by kernel_rfl
theorem Zel : cal Tryz.prog 5 = true := by kernel_rfl
theorem Zgx : cal Tryz.prog 6 = true := by kernel_rfl
theorem Zeu : cal Tryz.prog 7 = true := by kernel_rfl
theorem ZcH : cal Tryz.prog 8 = true := by kernel_rfl
theorem Zgm : cal Tryz.prog 9 = true := by kernel_rfl
theorem Zeq : Zx Tryz.prog 27 = some 3 := by kernel_rfl
theorem cn3 : Zx Tryz.prog 3 = some 1 := by kernel_rfl
theorem Z4N : Zx Tryz.prog 30 = some 3 := by kernel_rfl
theorem ZbJ : Zx Tryz.prog 31 = some 4 := by kernel_rfl
theorem Z1E : Zx Tryz.prog 41 = some 2 := by kernel_rfl
theorem Zgy : Zx Tryz.prog 71 = some 6 := by kernel_rfl
theorem Z73 : elN Tryz.prog 47 = some 1 := by kernel_rfl
theorem Z9g : eqB Tryz.prog 10000 41 = some (true, 2) := by kernel_rfl
theorem ZbF : Tryz.prog.eqGuardType Tryz.prog.depth 41 = false := by kernel_rfl
theorem ZM : ZJ Tryz.prog 41 0 = some 0 := by kernel_rfl
theorem ZQ : ZJ Tryz.prog 41 1 = some 1 := by kernel_rfl
theorem ik3 : Z8i Tryz.prog 3 = some .i64 := by kernel_rfl
theorem Z2x : Z2X Tryz.prog 47 = true := by kernel_rfl
theorem Z2V : Z2X Tryz.prog 49 = true := by kernel_rfl
theorem ZeC : ZB Tryz.prog 128 = some [(0, 1), (1, 1), (2, 1)] := by kernel_rfl
theorem Zf2 : ZB Tryz.prog 27 = some [(0, 1), (1, 1), (2, 1)] := by kernel_rfl
theorem Z9o : ZB Tryz.prog 30 = some [(0, 1), (1, 1), (2, 1)] := by kernel_rfl
theorem Z3j : ZB Tryz.prog 41 = some [(0, 1), (1, 1)] := by kernel_rfl
theorem Zgq : ZB Tryz.prog 71 = some [(0, 1), (1, 1), (2, 1), (3, 1), (4, 1), (5, 1)] := by kernel_rfl
theorem ZfW : ZB Tryz.prog 86 = some [(0, 1), (1, 1), (2, 1)] := by kernel_rfl
theorem Zga : ZB Tryz.prog 89 = some [(0, 1), (1, 2)] := by kernel_rfl
theorem ZeT : slE Tryz.prog 50 = some (86, 3) := by kernel_rfl
theorem Zf3 : slE Tryz.prog 67 = some (89, 3) := by kernel_rfl
theorem ZgK : slE Tryz.prog 69 = some (128, 3) := by kernel_rfl
theorem us5 : (Tryz.prog.underlying 5).isSome = true := by kernel_rfl
theorem Z9i : Zs Tryz.prog 128 = some ([.int .i64 0, .int .i64 0, .int .i64 0]) := by kernel_rfl
theorem ZbN : Zs Tryz.prog 27 = some ([.int .i64 0, .int .i64 0, .slice none 0 0]) := by kernel_rfl
theorem Z3u : Zs Tryz.prog 30 = some ([.int .i64 0, .int .i64 0, .slice none 0 0]) := by kernel_rfl
theorem ZbP : Zs Tryz.prog 31 = some ([.int .i64 0, .int .i64 0, .int .i64 0, .int .i64 0]) := by kernel_rfl
theorem Z0R : Zs Tryz.prog 41 = some ([.int .i64 0, .int .i64 0]) := by kernel_rfl
theorem Zgp : Zs Tryz.prog 71 = some ([.int .i64 0, .int .i64 0, .int .i64 0, .slice none 0 0, .slice none 0 0, .slice none 0 0]) := by kernel_rfl
theorem Zeo : Zs Tryz.prog 86 = some ([.int .i64 0, .int .i64 0, .int .i64 0]) := by kernel_rfl
theorem Z8V : Zs Tryz.prog 89 = some ([.int .i64 0, .int .i64 0, .int .i64 0]) := by kernel_rfl
namespace Lo
def thrL : Ldg := ⟨4, 3, [0], [], [⟨1, 0, 40⟩, ⟨1, 1, 15⟩, ⟨2, 0, 20⟩], [⟨1, 1, 50⟩, ⟨2, 1, 30⟩], [⟨2, 1, 11⟩, ⟨3, 2, 5⟩, ⟨0, 3, 7⟩]⟩
theorem thr_ok : thrL.ok := ZdP (by decide)
theorem thr_owes : owesL thrL 1 (ZbB thrL 1) = 11 := by decide
theorem owes_nn {l : Ldg} (h : l.ok) (who : Int) : 0 ≤ owesL l who l.pays := (pay_more h (p := ⟨who, l.years - 1, 0⟩) (Int.le_refl _) rfl).2.2
end Lo
def nw0 : Hn.Wt := ⟨6, 0, 1, [⟨0, 50, 50⟩, ⟨6, 40, 41⟩], [], [⟨0, 0, 3⟩]⟩
theorem Zcr : nw0.ok where
  hours := by decide
  allow := by decide
  hands := by decide
  nc := by decide
  nb := by decide
  ns := by decide
  cnt := by decide
  bks := by decide
  spl := by decide
  inc := fun i c d h1 h2 => by
    rcases i with _ | i
    · simp only [nw0, List.getElem?_cons_zero, Option.some.injEq] at h1 h2
      subst h1
      simp only [Nat.zero_add, List.getElem?_cons_succ, List.getElem?_cons_zero, Option.some.injEq] at h2
      subst h2; decide
    · simp [nw0] at h2
theorem Z6R : nw0.clash = false := by decide
theorem Z9l : nw0.prv nw0.full = 9 := by decide
theorem ZdU {v0 v1 v2 v3 v4 : Int} (h : v1 ≤ v0 ∧ v2 ≤ v1 ∧ v3 ≤ v2 ∧ v4 ≤ v3) : ∀ (k : Nat) (x y : Int), [v0, v1, v2, v3, v4][k]? = some x → [v0, v1, v2, v3, v4][k + 1]? = some y → y ≤ x := by
  intro k
  rcases k with _ | _ | _ | _ | _ | k <;> intro x y h1 h2 <;> simp at h1 h2 <;> omega
theorem Zf0 {v0 v1 v2 v3 v4 : Int} (h : v1 ≤ v0 ∧ v2 ≤ v1 ∧ v3 ≤ v2 ∧ v4 ≤ v3) (h0 : 0 ≤ v4) (h1 : v0 ≤ 500) {x : Int} (hx : x ∈ [v0, v1, v2, v3, v4]) : 0 ≤ x ∧ x ≤ 500 := by
  simp only [List.mem_cons, List.not_mem_nil, or_false] at hx
  omega
theorem Z93 (H : Z6) (R : Z3) :
    Fn Tryz.prog 47 [] H R (fun v H' R' => ∃ (b1 b5 b8 b12 : Nat), v = Lo.thrL.v (some ⟨b1, 0, none⟩) none (some ⟨b5, 0, none⟩) (some ⟨b8, 0, none⟩) (some ⟨b12, 0, none⟩) 1 0 3 2 3 ∧ H' = H ∧ R' = RowsA (some ⟨b1, 0, none⟩) 1 (Lo.irows Lo.thrL.bad) :: RowsA (some ⟨b5, 0, none⟩) 3 (Lo.lnrows Lo.thrL.loans) :: RowsA (some ⟨b8, 0, none⟩) 3 (Lo.lnrows Lo.thrL.pays) :: RowsA (some ⟨b12, 0, none⟩) 3 (Lo.pmrows Lo.thrL.proms) :: RowsA none 1 (Lo.irows Lo.thrL.forg) :: R) := by
 refine Z8 Tryz.func47 rfl Tryz.ntmps47 rfl ?_
 refine sqt 1 rfl (alc rfl Z6i rfl (fun b0 => sqt 14 rfl ?_))
 refine bsl (out := [_]) rfl Z4a zl3 rfl rfl rfl rfl rfl rfl (fun b1 => ?_)
 refine sp rfl (PE.build (out := [_, _, _]) Z8p Z47 rfl rfl) rfl (sp rfl (PE.build (out := [_, _, _]) Z8p Z47 rfl rfl) rfl (sp rfl (PE.build (out := [_, _, _]) Z8p Z47 rfl rfl) rfl ?_))
 refine bsl (out := [_, _, _, _, _, _, _, _, _]) rfl Zek Z47 rfl rfl rfl rfl rfl rfl (fun b5 => ?_)
 refine sp rfl (PE.build (out := [_, _, _]) Zer Z8j rfl rfl) rfl (sp rfl (PE.build (out := [_, _, _]) Zer Z8j rfl rfl) rfl ?_)
 refine bsl (out := [_, _, _, _, _, _]) rfl ZbM Z8j rfl rfl rfl rfl rfl rfl (fun b8 => ?_)
 refine sp rfl (PE.build (out := [_, _, _]) ZfW Zeo rfl rfl) rfl (sp rfl (PE.build (out := [_, _, _]) ZfW Zeo rfl rfl) rfl (sp rfl (PE.build (out := [_, _, _]) ZfW Zeo rfl rfl) rfl ?_))
 refine bsl (out := [_, _, _, _, _, _, _, _, _]) rfl ZeT Zeo rfl rfl rfl rfl rfl rfl (fun b12 => ?_)
 refine sp rfl (PE.build (out := Lo.lgl Lo.thrL (some ⟨b1, 0, none⟩) none (some ⟨b5, 0, none⟩) (some ⟨b8, 0, none⟩) (some ⟨b12, 0, none⟩) 1 0 3 2 3) Zen Z6i rfl rfl) rfl ?_
 refine Z02 (l' := Lo.lgl Lo.thrL (some ⟨b1, 0, none⟩) none (some ⟨b5, 0, none⟩) (some ⟨b8, 0, none⟩) (some ⟨b12, 0, none⟩) 1 0 3 2 3) rfl rfl rfl Z8n rfl rfl rfl rfl (nl rfl) ?_
 refine Z1 ?_
 exact Z7 (vs := [_]) rfl (.cons (RV.cell rfl (lhA (Lo.lgl Lo.thrL (some ⟨b1, 0, none⟩) none (some ⟨b5, 0, none⟩) (some ⟨b8, 0, none⟩) (some ⟨b12, 0, none⟩) 1 0 3 2 3) Z17 rfl rfl rfl)) .nil) rfl ⟨b1, b5, b8, b12, rfl, rfl, rfl⟩ (fun w h =>
   St.rows (sz := 1) (rows := Lo.irows Lo.thrL.bad) (rest := []) (St.pull b1 (St.rows (sz := 3) (rows := Lo.lnrows Lo.thrL.loans) (rest := []) (St.pull b5 (St.rows (sz := 3) (rows := Lo.lnrows Lo.thrL.pays) (rest := []) (St.pull b8 (St.rows (sz := 3) (rows := Lo.pmrows Lo.thrL.proms) (rest := []) (St.pull b12 (St.also (f := RowsA none 1 (Lo.irows Lo.thrL.forg)) (h.del b0) (fun w9 _ => fun i row hi => by simp [Lo.irows, Lo.thrL] at hi))) (by decide))) (by decide))) (by decide))) (by decide))
theorem ZdG (l : Lo.Ldg) (a1 a2 a3 a4 a5 : Option Addr) (k1 k2 k3 k4 k5 : Nat) (hl : l.ok) (hk4 : l.pays.length ≤ k4) (hn8 : l.pays.length ≤ 8) (n who : Int) (hn : 0 ≤ n ∧ n ≤ 500) (hw : 1 ≤ who ∧ who ≤ l.folk - 1) (q1 q2 q3 : Nat) (H : Z6) (R : Z3) [m1 : Mem1 q1 (cel 52 (Lo.lgl l a1 a2 a3 a4 a5 k1 k2 k3 k4 k5)) H] [m2 : Mem1 q2 (cel 3 [.int .i64 who]) H] [m3 : Mem1 q3 (cel 3 [.int .i64 (l.years - 1)]) H] [hR1 : MemRows a1 1 (Lo.irows l.bad) R] [hR2 : MemRows a2 1 (Lo.irows l.forg) R] [hR3 : MemRows a3 3 (Lo.lnrows l.loans) R] [hR4 : MemRows a4 3 (Lo.lnrows l.pays) R] [hR5 : MemRows a5 3 (Lo.pmrows l.proms) R] :
    FnV Tryz.prog 13 [.int .i64 n, .pointer (some ⟨q1, 0, none⟩), .pointer (some ⟨q2, 0, none⟩), .pointer (some ⟨q3, 0, none⟩)] H R (.tuple #[.int .i64 (max 0 (Lo.owesL l who l.pays - n)), .int .i64 (max 0 (n - Lo.owesL l who l.pays))]) := by
 have hnn := Lo.owes_nn hl who
 have hpw : l.person who = true := by simp [Lo.Ldg.person, Lo.inL]; omega
 have hys := hl.years
 have hyr : l.year (l.years - 1) = true := by simp [Lo.Ldg.year, Lo.inL]; omega
 have hly : ∀ x ∈ l.loans, x.year ≤ l.years - 1 := fun x hx => (hl.loans x hx).2.2.2
 refine Z8 Tryz.func13 rfl Tryz.ntmps13 rfl ?_
 refine sqt 2 rfl (pur 2 rfl (Z0 (sqt 2 rfl (pur 2 rfl ?_))))
 refine Z2 rfl ?_ ?_ <;> intro hc0 <;> try simp only [cS] at hc0
 subst hc0
 refine sqt 9 rfl (spL rfl rfl (lhA (Lo.lgl l a1 a2 a3 a4 a5 k1 k2 k3 k4 k5) Z17 rfl rfl rfl) rfl (spL rfl rfl (lh sc3 rfl rfl) rfl (spL rfl rfl (lh sc3 rfl rfl) rfl ?_)))
 refine cl rfl Zao rfl rfl (Lo.c_Owes l a1 a2 a3 a4 a5 k1 k2 k3 k4 k5 hl who (l.years - 1) hpw hyr hly _ _) ?_
 rintro _ _ R1 ⟨rfl, rfl, hR1⟩
 obtain rfl := hR1.symm
 clear hR1
 rw [Lo.unt_all hl (Int.le_refl _)]
 refine pur 5 rfl (Z0 (sqt 2 rfl (pur 2 rfl ?_)))
 refine Z2 rfl ?_ ?_ <;> intro hc1
 exact absurd hc1 (by simp)
 refine Z5 (sqt 3 rfl (pur 3 rfl (Z1 ?_)))
 refine rtB rfl rfl rfl rfl ⟨?_, rfl, rfl⟩ idH
 simp only [Zz]
 rw [show max 0 (Lo.owesL l who l.pays - 0) = Lo.owesL l who l.pays from by omega, show max 0 (0 - Lo.owesL l who l.pays) = 0 from by omega]
 obtain ⟨p, hp⟩ : ∃ p : Lo.Ln, p = ⟨who, l.years - 1, n⟩ := ⟨_, rfl⟩
 have hpo : (l.payd p).ok := Lo.payd_ok hl (by omega) (by rw [hp]; dsimp only; omega)
 obtain ⟨e1, e2, e3⟩ := Lo.pay_more hl (p := p) (by rw [hp]; dsimp only; omega) (by rw [hp])
 have hpwho : p.who = who := by rw [hp]
 have hpbu : p.bu = n := by rw [hp]
 rw [hpwho, hpbu] at e1
 rw [hpwho, hpbu] at e2
 refine Z5 (sqt 12 rfl (spL rfl rfl (lhA (Lo.lgl l a1 a2 a3 a4 a5 k1 k2 k3 k4 k5) Z17 rfl rfl rfl) rfl (spL rfl rfl (lh sc3 rfl rfl) rfl (spL rfl rfl (lh sc3 rfl rfl) rfl (pur 1 rfl (sp rfl (PE.build (out := Lo.lnrow p) Zer Z8j rfl (by rw [hp]; rfl)) rfl ?_))))))
 refine cl rfl ZfG rfl rfl (Lo.c_Pay l a1 a2 a3 a4 a5 k1 k2 k3 k4 k5 hl p (by omega) hpo _ _) ?_
 rintro _ _ R1 ⟨x1, x2, x3, x4, x5, d1, d2, d3, d4, d5, hcap, rfl, rfl, hR1⟩
 obtain rfl := hR1.symm
 clear hR1
 refine pur 3 rfl (alc rfl Z6i rfl (fun b9 => ?_))
 refine Z02 (l' := Lo.lgl (l.payd p) x1 x2 x3 x4 x5 d1 d2 d3 d4 d5) rfl rfl rfl Z8n rfl rfl rfl rfl (nl rfl) ?_
 refine pur 1 rfl (sqt 9 rfl (spL rfl rfl (lhA (Lo.lgl (l.payd p) x1 x2 x3 x4 x5 d1 d2 d3 d4 d5) Z17 rfl rfl rfl) rfl (spL rfl rfl (lh sc3 rfl rfl) rfl (spL rfl rfl (lh sc3 rfl rfl) rfl ?_))))
 refine cl rfl Zao rfl rfl (Lo.c_Owes (l.payd p) x1 x2 x3 x4 x5 d1 d2 d3 d4 d5 hpo who (l.years - 1) hpw hyr hly _ _) ?_
 rintro _ _ R1 ⟨rfl, rfl, hR1⟩
 obtain rfl := hR1.symm
 clear hR1
 rw [Lo.unt_all hpo (y := l.years - 1) (Int.le_refl _), Lo.payd_owes, show (l.payd p).pays = l.pays ++ [p] from rfl, e1]
 refine pur 5 rfl (sqt 12 rfl (spL rfl rfl (lhA (Lo.lgl (l.payd p) x1 x2 x3 x4 x5 d1 d2 d3 d4 d5) Z17 rfl rfl rfl) rfl (sp rfl (PE.fA Z05 rfl) rfl (spL rfl rfl (lh Z3K rfl rfl) rfl (sp rfl (PE.lenSl Z2V rfl) rfl ?_)))))
 refine cl rfl ZfH rfl rfl (Lo.c_Booked (l.payd p) x1 x2 x3 x4 x5 d1 d2 d3 d4 d5 hpo l.pays.length p (by show (l.pays ++ [p])[l.pays.length]? = _; simp) hcap _ _) ?_
 rintro _ _ R1 ⟨fs, rfl, rfl, hR1⟩
 obtain rfl := hR1.symm
 clear hR1
 rw [Lo.payd_bkP, Lo.payd_bkA, show (l.payd p).pays.take l.pays.length = l.pays from by show (l.pays ++ [p]).take l.pays.length = _; simp, e2]
 refine pur 7 rfl (Z0 (sqt 10 rfl (pur 3 rfl ?_)))
 refine Zp 55 rfl ?_ ?_ <;> intro g55
 exact absurd g55 (by simp)
 refine pur 4 rfl ?_
 refine Zp 59 rfl ?_ ?_ <;> intro g59
 exact absurd g59 (by simp)
 refine pur 3 rfl ?_
 refine Z2 rfl ?_ ?_ <;> intro hc2
 exact absurd hc2 (by simp)
 refine Z5 (sqt 4 rfl (pur 4 rfl (Z1 ?_)))
 exact rtB rfl rfl rfl rfl ⟨rfl, rfl, rfl⟩ (fun w h => St.sub (h.del b9))
theorem Z7N (H : Z6) (R : Z3) :
    FnV Tryz.prog 17 [] H R (.bool true) := by
 refine Z8 Tryz.func17 rfl Tryz.ntmps17 rfl ?_
 refine sqt 1 rfl (pur 1 rfl (sqt 7 rfl ?_))
 refine cl rfl Zfr rfl rfl (Z93 _ _) ?_
 rintro _ _ R1 ⟨q1, q5, q8, q12, rfl, rfl, hR1⟩
 subst hR1
 refine cl rfl Zao rfl rfl (Lo.c_Owes Lo.thrL (some ⟨q1, 0, none⟩) none (some ⟨q5, 0, none⟩) (some ⟨q8, 0, none⟩) (some ⟨q12, 0, none⟩) 1 0 3 2 3 Lo.thr_ok 1 1 (by decide) (by decide) (by decide) _ _) ?_
 rintro _ _ R1 ⟨rfl, rfl, hR1⟩
 obtain rfl := hR1.symm
 clear hR1
 rw [Lo.thr_owes]
 refine Sy.heap (fun w h => h.ftail.ftail.ftail.ftail.ftail) ?_
 refine pur 5 rfl (sqt 9 rfl (sp rfl (PE.build (out := Gt.gtl ⟨5, 0, []⟩ (.slice none 0 0)) Zf2 ZbN rfl rfl) rfl (sp rfl (PE.build (out := Gt.ctl ⟨1200, 300, []⟩ (.slice none 0 0)) Z9o Z3u rfl rfl) rfl ?_)))
 refine Sy.heap (fun w h9 => St.also (St.also h9 (f := RowsA none 5 (Gt.grows [])) (fun w9 _ => fun i row hi => by simp [Gt.grows] at hi)) (f := RowsA none 5 (Gt.hrows [])) (fun w9 _ => fun i row hi => by simp [Gt.hrows] at hi)) ?_
 refine cl rfl ZcV rfl rfl (Gt.c_Net ⟨5, 0, []⟩ none 0 (by decide) ⟨1200, 300, []⟩ none 0 (by decide) _ _) ?_
 rintro _ _ R1 ⟨rfl, rfl, hR1⟩
 obtain rfl := hR1.symm
 clear hR1
 rw [show Gt.netR ⟨5, 0, []⟩ ⟨1200, 300, []⟩ = .tuple #[Gt.spv 890 910, .int .i64 0] from by kernel_rfl]
 refine Sy.heap (fun w h => h.ftail.ftail) ?_
 refine pur 3 rfl (alc rfl Z0R rfl (fun b3 => ?_))
 refine Z02 (l' := [.int .i64 890, .int .i64 910]) rfl rfl rfl Z1E rfl rfl rfl rfl (nl rfl) ?_
 refine pur 1 rfl (sqt 10 rfl (sp rfl (PE.build (out := [_, _]) Z3j Z0R rfl rfl) rfl (sp rfl (PE.build (out := [_, _, _]) Zga Z8V rfl rfl) rfl (sp rfl (PE.build (out := [_, _]) Z3j Z0R rfl rfl) rfl (sp rfl (PE.build (out := [_, _, _]) Zga Z8V rfl rfl) rfl ?_)))))
 refine bsl (out := [_, _, _, _, _, _]) rfl Zf3 Z8V rfl rfl rfl rfl rfl rfl (fun b23 => ?_)
 refine sp rfl (PE.build (out := [_, _, _]) ZeC Z9i rfl rfl) rfl ?_
 refine bsl (out := [_, _, _]) rfl ZgK Z9i rfl rfl rfl rfl rfl rfl (fun b25 => ?_)
 refine sp rfl (PE.build (out := Hn.wtl nw0 (some ⟨b23, 0, none⟩) none (some ⟨b25, 0, none⟩) 2 0 1) Zgq Zgp rfl rfl) rfl (alc rfl Zgp rfl (fun b5 => ?_))
 refine Z02 (l' := Hn.wtl nw0 (some ⟨b23, 0, none⟩) none (some ⟨b25, 0, none⟩) 2 0 1) rfl rfl rfl Zgy rfl rfl rfl rfl (nl rfl) ?_
 refine sqt 7 rfl ?_
 refine Sy.heap (fun w h => St.rows (sz := 3) (rows := Hn.crows nw0.counts) (rest := []) (St.pull b23 (St.rows (sz := 3) (rows := Hn.sprows nw0.spells) (rest := []) (St.pull b25 (St.also h (f := RowsA none 2 (Hn.bkrows nw0.books)) (fun w9 _ => fun i row hi => by simp [nw0, Hn.bkrows] at hi))) (by decide))) (by decide)) ?_
 refine spL rfl rfl (lhA (Hn.wtl nw0 (some ⟨b23, 0, none⟩) none (some ⟨b25, 0, none⟩) 2 0 1) Z5o rfl rfl rfl) rfl ?_
 refine cl rfl Zfi rfl rfl (Hn.c_Missing nw0 (some ⟨b23, 0, none⟩) none (some ⟨b25, 0, none⟩) 2 0 1 Zcr Z6R _ _) ?_
 rintro _ _ R1 ⟨rfl, rfl, hR1⟩
 obtain rfl := hR1.symm
 clear hR1
 rw [Z9l]
 refine pur 5 rfl (sqt 24 rfl (pur 3 rfl ?_))
 refine Zp 34 rfl ?_ ?_ <;> intro g34
 refine pur 4 rfl ?_
 refine Zp 38 rfl ?_ ?_ <;> intro g38
 refine pur 4 rfl ?_
 refine Zp 42 rfl ?_ ?_ <;> intro g42
 refine pur 4 rfl ?_
 refine Zp 46 rfl ?_ ?_ <;> intro g46
 refine Z0K rfl rfl rfl rfl rfl (lhA [_, _] Z2T rfl rfl rfl) rfl ?_
 refine spG rfl rfl rfl rfl (PE.build (out := [_, _]) Z3j Z0R rfl rfl) rfl ?_
 refine spG rfl rfl rfl rfl (PE.eqlAgg [890, 910] [890, 910] (Z0n 10000 41 true 2 Z9g) ZbF rfl rfl rfl rfl) rfl ?_
 refine pur 2 rfl ?_
 refine Zp 51 rfl ?_ ?_ <;> intro g51
 refine pur 4 rfl (Z1 ?_)
 exact rtA rfl rfl rfl ⟨rfl, rfl, rfl⟩ (fun w h => (h.del b5).del b3 |>.ftail.ftail.ftail)
 exact absurd g51 (by simp)
 exact absurd g46 (by simp)
 exact absurd g42 (by simp)
 exact absurd g38 (by simp)
 exact absurd g34 (by simp)
set_option maxHeartbeats 1000000 in
theorem Z54 (l0 : List Int) (a0 : Option Addr) (c0 : Nat) (hl0 : l0.length ≤ 9223372036854775807) (l1 : List Int) (a1 : Option Addr) (c1 : Nat) (hl1 : l1.length ≤ 9223372036854775807) (l2 : List Int) (a2 : Option Addr) (c2 : Nat) (hl2 : l2.length ≤ 9223372036854775807) (u : Int) (hu : 0 ≤ u ∧ u ≤ 255) (H : Z6) (R : Z3) [hG0 : MemRows a0 1 (Gt.urows l0) R] [hG1 : MemRows a1 1 (Gt.urows l1) R] [hG2 : MemRows a2 1 (Gt.urows l2) R] :
    Fn Tryz.prog 3 [.slice a0 l0.length c0, .slice a1 l1.length c1, .slice a2 l2.length c2, .int .u8 u] H R (fun v H' R' => v = .bool true ∧ H' = H ∧ R' = R) := by
 refine Z8 Tryz.func3 rfl Tryz.ntmps3 rfl ?_
 refine sqt 1 rfl (pur 1 rfl (sqt 3 rfl (pur 1 rfl ?_)))
 refine cl rfl Zel rfl rfl (Gt.c_Fill l0 a0 c0 hl0 _ _) ?_
 rintro _ _ R1 ⟨bk, mk, hmk, rfl, rfl, hR1⟩
 obtain rfl := hR1.symm
 clear hR1
 refine pur 1 rfl (sqt 12 rfl (pur 1 rfl ?_))
 refine cl rfl Zgx rfl rfl (Gt.c_Made l0 a0 c0 bk hl0 0 mk (by omega) hmk 0 5 (by omega) (by omega) _ _) ?_
 rintro _ _ R1 ⟨g, c, m, ag, cg, ah, ch, tq1, mx1, hmd, hcg, rfl, htq1, hmx1, rfl, hR1⟩
 obtain rfl := hR1.symm
 clear hR1
 have hgm := hmd.gok.many
 have hge := hmd.gok.err
 have hcm := hmd.cok.many
 have hcf := hmd.cok.full
 have hce := hmd.cok.empty
 have hmd4 : Gt.MdOk 4 5 g c m := { hmd with many := Int.le_trans hmd.many (by decide) }
 refine pur 4 rfl (alc rfl ZbN rfl (fun b10 => alc rfl Z3u rfl (fun b11 => alc rfl ZbP rfl (fun b12 => ?_))))
 refine Z02 (l' := Gt.gtl g (g.sl ag cg)) rfl rfl rfl Zeq rfl rfl rfl rfl (nl rfl) ?_
 refine Z02 (l' := Gt.ctl c (c.sl ah ch)) rfl rfl rfl Z4N rfl rfl rfl rfl (nl rfl) ?_
 refine Z48 rfl rfl rfl ZbJ rfl (by rw [Gt.ints_length]; exact hmd.mix.len) rfl (ZD _) ?_
 refine Z0 ?_
 refine Z4j (ι := {x : Nat × Gt.Crt × Option Addr × Nat // Gt.MdOk 4 6 g x.2.1 m ∧ (∃ h, x.2.1.hs = c.hs ++ [h]) ∧ x.2.1.full = c.full ∧ x.2.1.empty = c.empty ∧ x.2.1.hs.length ≤ x.2.2.2}) (fun x => ⟨[(2, .slice a2 l2.length c2), (3, .int .u8 u), (9, .pointer (some ⟨bk, 0, none⟩)), (10, .pointer (some ⟨b10, 0, none⟩)), (11, .pointer (some ⟨b11, 0, none⟩)), (12, .pointer (some ⟨b12, 0, none⟩)), (13, .pointer (some ⟨x.1.1, 0, none⟩)), (14, .int .i64 0)], (x.1.1, cel 30 (Gt.ctl x.1.2.1 (x.1.2.1.sl x.1.2.2.1 x.1.2.2.2))) :: (b12, cel 31 (Zd m)) :: (b11, cel 30 (Gt.ctl c (c.sl ah ch))) :: (b10, cel 27 (Gt.gtl g (g.sl ag cg))) :: (bk, cel 96 [.slice a0 l0.length c0, .int .i64 (tq1), .int .u32 (mx1)]) :: H, RowsA x.1.2.2.1 5 (Gt.hrows x.1.2.1.hs) :: RowsA ah 5 (Gt.hrows c.hs) :: RowsA ag 5 (Gt.grows g.grs) :: R⟩) ?_ ?_
 refine Z9 [0, 0, 2, 0, 0, 30, 63, 127, 255, 255, 0, 1535, 4095] (.ld 0 (.tk 1 (.ld 3 (.ld 4 (.any (.alt 2 (.any (.alt 5 (.any (.alt 6 (tks 7 3 (.big 10 (.big 11 (.tk 12 .done)))) (.alt 10 (.big 6 (tks 7 3 (.big 11 (.tk 12 .done)))) .stop))) (.alt 10 (.big 5 (.big 6 (tks 7 3 (.big 11 (.tk 12 .done))))) .stop))) (.alt 10 (.big 2 (.big 5 (.big 6 (tks 7 3 (.big 11 (.tk 12 .done)))))) .stop))))))) Zo (by kernel_rfl) ?_
 refine ld rfl rfl (lhA (Gt.ctl c (c.sl ah ch)) Z0N rfl rfl rfl) rfl (Zf 1 rfl (ld rfl rfl (lhA (Gt.gtl g (g.sl ag cg)) Z34 rfl rfl rfl) rfl (ld rfl rfl (lhA (Zd (m)) Z35 rfl (rest := []) (by rw [List.append_nil]; rfl) (by rw [Gt.ints_length]; exact hmd.mix.len)) rfl ?_)))
 refine ZH ?_ ?_
 refine cl rfl Zel rfl rfl (Gt.c_Fill l1 a1 c1 hl1 _ _) ?_
 rintro _ _ R1 ⟨bj, mj, hmj, rfl, rfl, hR1⟩
 obtain rfl := hR1.symm
 clear hR1
 refine bg (fun w hs => ⟨(lhA (Zd (m)) Z35 rfl (rest := []) (by rw [List.append_nil]; rfl) (by rw [Gt.ints_length]; exact hmd.mix.len)) w hs, (lhA (Gt.gtl g (g.sl ag cg)) Z34 rfl rfl rfl) w hs, (lhA (Gt.ctl c (c.sl ah ch)) Z0N rfl rfl rfl) w hs, trivial⟩) ?_
 refine ZH ?_ ?_
 refine Zq bj ?_
 refine cl rfl ZcH rfl rfl (Gt.c_Taken l1 a1 c1 bj hl1 0 mj (by omega) hmj g hmd.gok.miss (g.sl ag cg) m hmd.mix _ _) ?_
 rintro _ _ R1 ⟨h, tq4, mx4, hho, hhf, rfl, _, _, rfl, hR1⟩
 obtain rfl := hR1.symm
 clear hR1
 refine Sy.heap (fun w h => h.del bj) ?_
 obtain ⟨d, htk, hdd, hdh, hdf, hde⟩ := Gt.tak_md hmd4 (by omega) hho hhf
 refine bg (fun w hs => ⟨trivial, trivial, (lhA (Gt.ctl c (c.sl ah ch)) Z0N rfl rfl rfl) w hs, trivial⟩) ?_
 refine ZH ?_ ?_
 refine cl rfl Zeu rfl rfl (Gt.c_Take c ah ch (by omega) h _ _) ?_
 rintro v _ R1 ⟨a9, cd, hcd, hv, rfl, hR1⟩
 rw [htk] at hcd hv hR1
 dsimp only at hcd hv hR1
 obtain rfl := hv
 obtain rfl := hR1.symm
 clear hR1
 refine bgT (Zf 3 rfl (alc rfl Z3u rfl (fun b13 => bgT ?_)))
 refine Z02 (l' := Gt.ctl d (d.sl a9 cd)) rfl rfl rfl Z4N rfl rfl rfl rfl (nl rfl) ?_
 refine bgT (Zf 1 rfl ?_)
 exact Zv ⟨(b13, d, a9, cd), hdd, ⟨h, hdh⟩, hdf, hde, hcd⟩ (fun w h => h.pull b13)
 refine ZH ?_ ?_
 refine alc rfl Z3u rfl (fun b13 => ?_)
 refine bg (fun w hs => ⟨(lhA (Gt.ctl c (c.sl ah ch)) Z0N rfl rfl rfl) w hs, trivial⟩) ?_
 refine cl rfl Zeu rfl rfl (Gt.c_Take c ah ch (by omega) h _ _) ?_
 rintro v _ R1 ⟨a9, cd, hcd, hv, rfl, hR1⟩
 rw [htk] at hcd hv hR1
 dsimp only at hcd hv hR1
 obtain rfl := hv
 obtain rfl := hR1.symm
 clear hR1
 refine bgT (Zf 3 rfl ?_)
 refine Z02 (l' := Gt.ctl d (d.sl a9 cd)) rfl rfl rfl Z4N rfl rfl rfl rfl (nl rfl) ?_
 refine bgT (Zf 1 rfl ?_)
 exact Zv ⟨(b13, d, a9, cd), hdd, ⟨h, hdh⟩, hdf, hde, hcd⟩ (fun w h => h.pull b13)
 exact ZZ
 refine ZH ?_ ?_
 refine alc rfl Z3u rfl (fun b13 => ?_)
 refine bg (fun w hs => ⟨(lhA (Zd (m)) Z35 rfl (rest := []) (by rw [List.append_nil]; rfl) (by rw [Gt.ints_length]; exact hmd.mix.len)) w hs, (lhA (Gt.gtl g (g.sl ag cg)) Z34 rfl rfl rfl) w hs, (lhA (Gt.ctl c (c.sl ah ch)) Z0N rfl rfl rfl) w hs, trivial⟩) ?_
 refine Zq bj ?_
 refine cl rfl ZcH rfl rfl (Gt.c_Taken l1 a1 c1 bj hl1 0 mj (by omega) hmj g hmd.gok.miss (g.sl ag cg) m hmd.mix _ _) ?_
 rintro _ _ R1 ⟨h, tq4, mx4, hho, hhf, rfl, _, _, rfl, hR1⟩
 obtain rfl := hR1.symm
 clear hR1
 refine Sy.heap (fun w h => h.del bj) ?_
 obtain ⟨d, htk, hdd, hdh, hdf, hde⟩ := Gt.tak_md hmd4 (by omega) hho hhf
 refine bg (fun w hs => ⟨trivial, trivial, (lhA (Gt.ctl c (c.sl ah ch)) Z0N rfl rfl rfl) w hs, trivial⟩) ?_
 refine cl rfl Zeu rfl rfl (Gt.c_Take c ah ch (by omega) h _ _) ?_
 rintro v _ R1 ⟨a9, cd, hcd, hv, rfl, hR1⟩
 rw [htk] at hcd hv hR1
 dsimp only at hcd hv hR1
 obtain rfl := hv
 obtain rfl := hR1.symm
 clear hR1
 refine bgT (Zf 3 rfl ?_)
 refine Z02 (l' := Gt.ctl d (d.sl a9 cd)) rfl rfl rfl Z4N rfl rfl rfl rfl (nl rfl) ?_
 refine bgT (Zf 1 rfl ?_)
 exact Zv ⟨(b13, d, a9, cd), hdd, ⟨h, hdh⟩, hdf, hde, hcd⟩ (fun w h => h.pull b13)
 exact ZZ
 refine ZH ?_ ?_
 refine alc rfl Z3u rfl (fun b13 => ?_)
 refine bg (fun w hs => ⟨(lhA (Zd (m)) Z35 rfl (rest := []) (by rw [List.append_nil]; rfl) (by rw [Gt.ints_length]; exact hmd.mix.len)) w hs, (lhA (Gt.gtl g (g.sl ag cg)) Z34 rfl rfl rfl) w hs, (lhA (Gt.ctl c (c.sl ah ch)) Z0N rfl rfl rfl) w hs, trivial⟩) ?_
 refine cl rfl Zel rfl rfl (Gt.c_Fill l1 a1 c1 hl1 _ _) ?_
 rintro _ _ R1 ⟨bj, mj, hmj, rfl, rfl, hR1⟩
 obtain rfl := hR1.symm
 clear hR1
 refine bg (fun w hs => ⟨(lhA (Zd (m)) Z35 rfl (rest := []) (by rw [List.append_nil]; rfl) (by rw [Gt.ints_length]; exact hmd.mix.len)) w hs, (lhA (Gt.gtl g (g.sl ag cg)) Z34 rfl rfl rfl) w hs, (lhA (Gt.ctl c (c.sl ah ch)) Z0N rfl rfl rfl) w hs, trivial⟩) ?_
 refine Zq bj ?_
 refine cl rfl ZcH rfl rfl (Gt.c_Taken l1 a1 c1 bj hl1 0 mj (by omega) hmj g hmd.gok.miss (g.sl ag cg) m hmd.mix _ _) ?_
 rintro _ _ R1 ⟨h, tq4, mx4, hho, hhf, rfl, _, _, rfl, hR1⟩
 obtain rfl := hR1.symm
 clear hR1
 refine Sy.heap (fun w h => h.del bj) ?_
 obtain ⟨d, htk, hdd, hdh, hdf, hde⟩ := Gt.tak_md hmd4 (by omega) hho hhf
 refine bg (fun w hs => ⟨trivial, trivial, (lhA (Gt.ctl c (c.sl ah ch)) Z0N rfl rfl rfl) w hs, trivial⟩) ?_
 refine cl rfl Zeu rfl rfl (Gt.c_Take c ah ch (by omega) h _ _) ?_
 rintro v _ R1 ⟨a9, cd, hcd, hv, rfl, hR1⟩
 rw [htk] at hcd hv hR1
 dsimp only at hcd hv hR1
 obtain rfl := hv
 obtain rfl := hR1.symm
 clear hR1
 refine bgT (Zf 3 rfl ?_)
 refine Z02 (l' := Gt.ctl d (d.sl a9 cd)) rfl rfl rfl Z4N rfl rfl rfl rfl (nl rfl) ?_
 refine bgT (Zf 1 rfl ?_)
 exact Zv ⟨(b13, d, a9, cd), hdd, ⟨h, hdh⟩, hdf, hde, hcd⟩ (fun w h => h.pull b13)
 exact ZZ
 rintro ⟨⟨b13, d, a9, cd⟩, hdd, ⟨h, hdh⟩, hdf, hde, hcd⟩
 dsimp only at hdd hdh hdf hde hcd ⊢
 have hdm := hdd.cok.many
 obtain ⟨b, hb⟩ := Gt.md_bnd hmd
 obtain ⟨b', hb'⟩ := Gt.md_bnd hdd
 obtain ⟨cl1, cl2, hmo⟩ := Gt.md_more (nh := 0) (nh' := 0) hb hb' hdh hdf hde
 obtain ⟨hne, hn1, hn2⟩ := Gt.md_net hmd
 have hnt := hmd.net
 have hb0 := hb.at_ 0 (by omega)
 have hb0' := hb'.at_ 0 (by omega)
 have hm0 := hmo.at_ 0 (by omega)
 refine sqt 9 rfl (spL rfl rfl (lhA (Gt.gtl g (g.sl ag cg)) Z34 rfl rfl rfl) rfl (spL rfl rfl (lhA (Gt.ctl c (c.sl ah ch)) Z0N rfl rfl rfl) rfl ?_))
 refine cl rfl Zgm rfl rfl (Gt.c_Weight g ag cg (by omega) c ah ch (by omega) ((0 : Nat) : Int) _ _) ?_
 rintro _ _ R1 ⟨rfl, rfl, hR1⟩
 obtain rfl := hR1.symm
 clear hR1
 rw [hb.wgt 0 (by omega)]
 refine pur 3 rfl (alc rfl Z0R rfl (fun b15 => ?_))
 refine sto rfl rfl rfl Z1E rfl rfl rfl rfl ?_
 refine pur 1 rfl (sqt 9 rfl (spL rfl rfl (lhA (Gt.gtl g (g.sl ag cg)) Z34 rfl rfl rfl) rfl (spL rfl rfl (lhA (Gt.ctl d (d.sl a9 cd)) Z0N rfl rfl rfl) rfl ?_)))
 refine cl rfl Zgm rfl rfl (Gt.c_Weight g ag cg (by omega) d a9 cd (by omega) ((0 : Nat) : Int) _ _) ?_
 rintro _ _ R1 ⟨rfl, rfl, hR1⟩
 obtain rfl := hR1.symm
 clear hR1
 rw [hb'.wgt 0 (by omega), hmo.net]
 refine pur 3 rfl (alc rfl Z0R rfl (fun b17 => ?_))
 refine sto rfl rfl rfl Z1E rfl rfl rfl rfl ?_
 refine pur 1 rfl (sqt 9 rfl (spL rfl rfl (lhA (Gt.gtl g (g.sl ag cg)) Z34 rfl rfl rfl) rfl (spL rfl rfl (lhA (Gt.ctl c (c.sl ah ch)) Z0N rfl rfl rfl) rfl ?_)))
 refine cl rfl ZcV rfl rfl (Gt.c_Net g ag cg (by omega) c ah ch (by omega) _ _) ?_
 rintro _ _ R1 ⟨rfl, rfl, hR1⟩
 obtain rfl := hR1.symm
 clear hR1
 rw [hne]
 refine pur 3 rfl (alc rfl Z0R rfl (fun b19 => ?_))
 refine sto rfl rfl rfl Z1E rfl rfl rfl rfl ?_
 refine pur 1 rfl (Z0 (sqt 21 rfl (pur 3 rfl ?_)))
 refine Zp 69 rfl ?_ ?_ <;> intro g69
 exact absurd g69 (by simp)
 refine pur 4 rfl ?_
 refine Zp 73 rfl ?_ ?_ <;> intro g73
 exact absurd g73 (by simp)
 refine pur 4 rfl ?_
 refine Zp 77 rfl ?_ ?_ <;> intro g77
 exact absurd g77 (by simp)
 refine pur 4 rfl ?_
 refine Zp 81 rfl ?_ ?_ <;> intro g81
 exact absurd g81 (by simp)
 refine spG rfl rfl rfl rfl (PE.fA ZM rfl) rfl ?_
 refine Z0K rfl rfl rfl rfl rfl (lh sc3 rfl rfl) rfl ?_
 refine spG rfl rfl rfl rfl (PE.fA ZQ rfl) rfl ?_
 refine Z0K rfl rfl rfl rfl rfl (lh sc3 rfl rfl) rfl (pur 2 rfl ?_)
 refine Z2 rfl ?_ ?_ <;> intro hc0
 exact absurd hc0 (by simp; omega)
 refine Z5 (Z0 ?_)
 refine Z9 [0, 1, 0, 0, 8, 0, 32, 120, 248, 508, 1023, 0, 2048, 8191, 16383, 32767] (.tk 0 (.ld 1 (.tk 2 (.tk 3 (.ld 4 (.tk 5 (.ld 6 (.tk 7 (.tk 8 (.tk 11 (.ld 12 (.big 9 (.tk 10 (tks 13 3 .done)))))))))))))) Zo (by kernel_rfl) ?_
 refine tk rfl (PE.fA ZM rfl) rfl (ld rfl rfl (lh sc3 rfl rfl) rfl ?_)
 refine Zq bk ?_
 refine Zf 1 rfl (tk rfl (PE.fA ZQ rfl) rfl (ld rfl rfl (lh sc3 rfl rfl) rfl (tk rfl (PE.fA ZM rfl) rfl (ld rfl rfl (lh sc3 rfl rfl) rfl (tk rfl (PE.sub rfl rfl (by omega)) rfl (tk rfl (PE.add rfl rfl (by omega)) rfl (tk rfl (PE.indexArr Z2m rfl rfl (by omega) (by omega)) rfl (ld rfl rfl (lh sc3 rfl (Gt.mix_at hmd.mix.len (k := 0) (by decide))) rfl ?_))))))))
 refine cl rfl Z0f rfl rfl (Gt.c_Below l0 a0 c0 bk hl0 _ _ (by omega) (by assumption) _ _ _) ?_
 rintro _ _ R1 ⟨x97, m97, hx97, rfl, _, rfl, hR1⟩
 obtain rfl := hR1.symm
 clear hR1
 refine Sy.heap (fun w h => h.del bk) ?_
 have hmu := Gt.mul_b (a := (Gt.netP g c).1 + x97) (b := Gt.nn m 0) (A := 2100) (B := 40) (by omega) (by omega) (by omega) (by omega)
 refine bg (fun w hs => ⟨(lh sc3 rfl (Gt.mix_at hmd.mix.len (k := 0) (by decide))) w hs, trivial, trivial, (lh sc3 rfl rfl) w hs, trivial⟩) ?_
 refine tk rfl (PE.add rfl rfl (by omega)) rfl (tk rfl (PE.mul rfl rfl (by omega)) rfl (tk rfl (PE.quo rfl rfl (by omega)) rfl (Zf 1 rfl (sqt 5 rfl ?_))))
 have e1 := Gt.wgh_at (n := (Gt.netP g c).1) (w := (Gt.netP g c).1) (x := (Gt.netP g c).2) (a := Gt.bl b 0) (p := Gt.bl b' 0) (z := Gt.bh b' 0) hn1.1 (by omega) hb0.1 (by omega)
 have e2 := Gt.wgh_at (n := (Gt.netP g c).1) (w := (Gt.netP g c).1 + x97) (x := (Gt.netP g c).2) (a := Gt.bl b' 0) (p := Gt.nn m 0) (z := Gt.bh b' 0) hn1.1 (by omega) hb0'.1 (by omega)
 have e3 := Gt.wgh_at (n := (Gt.netP g c).1) (w := (Gt.netP g c).2) (x := (Gt.netP g c).2) (a := Gt.bl b' 0) (p := Gt.bh b' 0) (z := Gt.bh b 0) hn1.1 (by omega) hb0'.1 (by omega)
 have e4 := Gt.mul_b (a := (Gt.netP g c).2) (b := Gt.bh b 0) (A := 2100) (B := 40) (by omega) (by omega) (by omega) (by omega)
 have e5 := Gt.mul_b (a := (Gt.netP g c).1) (b := Gt.bl b 0) (A := 2100) (B := 40) (by omega) (by omega) (by omega) (by omega)
 obtain ⟨r, hr⟩ : ∃ r, r = ((Gt.netP g c).1 + x97) * Gt.nn m 0 / 40 := ⟨_, rfl⟩
 obtain ⟨A1, hA1⟩ : ∃ r, r = (Gt.netP g c).1 * Gt.bl b 0 / 40 := ⟨_, rfl⟩
 obtain ⟨A2, hA2⟩ : ∃ r, r = (Gt.netP g c).2 * Gt.bh b 0 / 40 := ⟨_, rfl⟩
 obtain ⟨B1, hB1⟩ : ∃ r, r = (Gt.netP g c).1 * Gt.bl b' 0 / 40 := ⟨_, rfl⟩
 obtain ⟨B2, hB2⟩ : ∃ r, r = (Gt.netP g c).2 * Gt.bh b' 0 / 40 := ⟨_, rfl⟩
 rw [← hA1, ← hB1, ← hB2] at e1
 rw [← hr, ← hB1, ← hB2] at e2
 rw [← hB2, ← hA2] at e3
 rw [← hr, ← hA1, ← hA2, ← hB1, ← hB2]
 have hA1n : 0 ≤ A1 := by omega
 have hA2n : A2 ≤ 2100 := by omega
 clear e4 e5 hmu
 refine pur 1 rfl ?_
 refine cl rfl Zel rfl rfl (Gt.c_Fill l2 a2 c2 hl2 _ _) ?_
 rintro _ _ R1 ⟨bq, mq, hmq, rfl, rfl, hR1⟩
 obtain rfl := hR1.symm
 clear hR1
 refine cl rfl Zfg rfl rfl (Zbf l2 a2 c2 bq hl2 0 mq (by omega) hmq _ _) ?_
 rintro _ _ R1 ⟨l, y1, y2, y3, y4, y5, k1, k2, k3, k4, k5, tq7, mx7, hlo, hlf, hl8, hk4, rfl, _, _, rfl, hR1⟩
 obtain rfl := hR1.symm
 clear hR1
 refine Sy.heap (fun w h => h.del bq) ?_
 have hlfo := hlo.folk
 have hlye := hlo.years
 refine alc rfl Z6i rfl (fun b22 => ?_)
 refine Z02 (l' := Lo.lgl l y1 y2 y3 y4 y5 k1 k2 k3 k4 k5) rfl rfl rfl Z8n rfl rfl rfl rfl (nl rfl) ?_
 refine Z0 ?_
 refine Z4j (ι := Nat × Nat) (fun x => ⟨[(15, .pointer (some ⟨b15, 0, none⟩)), (17, .pointer (some ⟨b17, 0, none⟩)), (21, .int .i64 r), (22, .pointer (some ⟨b22, 0, none⟩)), (23, .pointer (some ⟨x.1, 0, none⟩)), (24, .pointer (some ⟨x.2, 0, none⟩))], (x.2, cel 3 [.int .i64 (l.years - 1)]) :: (x.1, cel 3 [.int .i64 (1 + u % (l.folk - 1))]) :: (b22, cel 52 (Lo.lgl l y1 y2 y3 y4 y5 k1 k2 k3 k4 k5)) :: (b17, cel 41 [.int .i64 B1, .int .i64 B2]) :: (b15, cel 41 [.int .i64 A1, .int .i64 A2]) :: H, RowsA y4 3 (Lo.lnrows l.pays) :: RowsA y3 3 (Lo.lnrows l.loans) :: RowsA y2 1 (Lo.irows l.forg) :: RowsA y1 1 (Lo.irows l.bad) :: RowsA y5 3 (Lo.pmrows l.proms) :: R⟩) ?_ ?_
 refine Z9 [0, 1, 0, 4, 12, 31, 63, 0, 128, 384, 0, 0, 3199, 8191] (tks 0 3 (.ld 3 (tks 4 4 (.ld 8 (.tk 9 (.any (.alt 10 (.big 11 (.big 12 (.big 13 .done))) (.alt 11 (.big 10 (.big 12 (.big 13 .done))) .stop)))))))) Zo (by kernel_rfl) ?_
 refine Zf 1 rfl (tk rfl (PE.conv64 us5 ik3 rfl (by omega)) rfl (tk rfl (PE.fA Z1Y rfl) rfl (ld rfl rfl (lh sc3 rfl rfl) rfl (tk rfl (PE.sub rfl rfl (by omega)) rfl (tk rfl (PE.rem rfl rfl (by omega)) rfl ?_)))))
 have hem0 := Int.emod_nonneg u (show l.folk - 1 ≠ 0 by omega)
 have hem1 := Int.emod_lt_of_pos u (show 0 < l.folk - 1 by omega)
 refine tk rfl (PE.add rfl rfl (by omega)) rfl (tk rfl (PE.fA Z1q rfl) rfl (ld rfl rfl (lh sc3 rfl rfl) rfl (tk rfl (PE.sub rfl rfl (by omega)) rfl ?_)))
 refine ZH ?_ ?_
 refine alc rfl zl3 rfl (fun b23 => ?_)
 refine bg (fun w hs => ⟨(lh sc3 rfl rfl) w hs, (lh sc3 rfl rfl) w hs, trivial⟩) ?_
 refine alc rfl zl3 rfl (fun b24 => ?_)
 refine bg (fun w hs => ⟨(lh sc3 rfl rfl) w hs, (lh sc3 rfl rfl) w hs, trivial⟩) ?_
 refine sto rfl rfl rfl cn3 rfl rfl rfl rfl ?_
 refine bg (fun w hs => ⟨(lh sc3 rfl rfl) w hs, trivial, trivial⟩) ?_
 refine sto rfl rfl rfl cn3 rfl rfl rfl rfl ?_
 refine bgT ?_
 exact Zv (b23, b24) (fun w h => St.sub (((((((h.del b19).del b13).del b12).del b11).del b10).pull b23).pull b24))
 refine ZH ?_ ?_
 refine alc rfl zl3 rfl (fun b24 => ?_)
 refine bg (fun w hs => ⟨(lh sc3 rfl rfl) w hs, (lh sc3 rfl rfl) w hs, trivial⟩) ?_
 refine alc rfl zl3 rfl (fun b23 => ?_)
 refine bg (fun w hs => ⟨(lh sc3 rfl rfl) w hs, (lh sc3 rfl rfl) w hs, trivial⟩) ?_
 refine sto rfl rfl rfl cn3 rfl rfl rfl rfl ?_
 refine bg (fun w hs => ⟨(lh sc3 rfl rfl) w hs, trivial, trivial⟩) ?_
 refine sto rfl rfl rfl cn3 rfl rfl rfl rfl ?_
 refine bgT ?_
 exact Zv (b23, b24) (fun w h => St.sub (((((((h.del b19).del b13).del b12).del b11).del b10).pull b23).pull b24))
 exact ZZ
 rintro ⟨b23, b24⟩
 dsimp only
 refine sqt 2 rfl ?_
 have hem0 := Int.emod_nonneg u (show l.folk - 1 ≠ 0 by omega)
 have hem1 := Int.emod_lt_of_pos u (show 0 < l.folk - 1 by omega)
 obtain ⟨who, hwho⟩ : ∃ w, w = 1 + u % (l.folk - 1) := ⟨_, rfl⟩
 rw [← hwho]
 have hw1 : 1 ≤ who ∧ who ≤ l.folk - 1 := by omega
 clear hwho hem0 hem1
 refine sp rfl (PE.makeFunc rfl rfl) rfl (pur 1 rfl (sqt 1 rfl (pur 1 rfl (Z0 (sqt 19 rfl (sp rfl (PE.fA ZQ rfl) rfl (spL rfl rfl (lh sc3 rfl rfl) rfl (sp rfl (PE.add rfl rfl (by omega)) rfl (sp rfl (PE.quo rfl rfl (by omega)) rfl (sp rfl (PE.fA ZQ rfl) rfl (spL rfl rfl (lh sc3 rfl rfl) rfl (sp rfl (PE.add rfl rfl (by omega)) rfl (sp rfl (PE.quo rfl rfl (by omega)) rfl (pur 1 rfl (sp rfl (PE.quo rfl rfl (by omega)) rfl ?_)))))))))))))))
 refine sp rfl (PE.fA ZM rfl) rfl (spL rfl rfl (lh sc3 rfl rfl) rfl (sp rfl (PE.quo rfl rfl (by omega)) rfl (sp rfl (PE.fA ZM rfl) rfl (spL rfl rfl (lh sc3 rfl rfl) rfl (sp rfl (PE.quo rfl rfl (by omega)) rfl ?_)))))
 refine bsl (out := [_, _, _, _, _]) rfl Z4a zl3 rfl rfl rfl rfl rfl rfl (fun b133 => ?_)
 refine sp rfl (PE.lenSl Z2x rfl) rfl (pur 1 rfl (Z4 ?_))
 obtain ⟨vs, hvs⟩ : ∃ vs : List Int, vs = [(A2 + 99) / 100, (B2 + 99) / 100, r / 100, B1 / 100, A1 / 100] := ⟨_, rfl⟩
 have hch : (B2 + 99) / 100 ≤ (A2 + 99) / 100 ∧ r / 100 ≤ (B2 + 99) / 100 ∧ B1 / 100 ≤ r / 100 ∧ A1 / 100 ≤ B1 / 100 := by omega
 have hdec : ∀ (k : Nat) (x y : Int), vs[k]? = some x → vs[k + 1]? = some y → y ≤ x := by rw [hvs]; exact ZdU hch
 have hvb : ∀ x ∈ vs, 0 ≤ x ∧ x ≤ 500 := by rw [hvs]; exact fun x hx => Zf0 hch (by omega) (by omega) hx
 have hvl : vs.length = 5 := by rw [hvs]; rfl
 obtain ⟨L, hL⟩ : ∃ L, L = Lo.owesL l who l.pays := ⟨_, rfl⟩
 refine Zc (ι := {x : Nat × Int // x.1 ≤ 5 ∧ ∀ y, vs[x.1]? = some y → x.2 ≤ max 0 (L - y)}) (fun x => ⟨[(25, .func (.func 13) #[] #[.pointer (some ⟨b22, 0, none⟩), .pointer (some ⟨b23, 0, none⟩), .pointer (some ⟨b24, 0, none⟩)]), (26, .int .i64 x.1.2), (133, .slice (some ⟨b133, 0, none⟩) 5 5), (134, .int .i64 5), (135, .int .i64 x.1.1)], (b133, cel 3 (Zd vs)) :: (b24, cel 3 [.int .i64 (l.years - 1)]) :: (b23, cel 3 [.int .i64 who]) :: (b22, cel 52 (Lo.lgl l y1 y2 y3 y4 y5 k1 k2 k3 k4 k5)) :: H,
   RowsA y4 3 (Lo.lnrows l.pays) :: RowsA y3 3 (Lo.lnrows l.loans) :: RowsA y2 1 (Lo.irows l.forg) :: RowsA y1 1 (Lo.irows l.bad) :: RowsA y5 3 (Lo.pmrows l.proms) :: R⟩) (fun x => 5 - x.1.1) ⟨(0, -1), by omega, fun y _ => by dsimp only; omega⟩ ?_ (fun x => ?_)
 exact Zk (fun w h => by rw [hvs]; exact (h.del b15).del b17)
 obtain ⟨⟨k, bf⟩, hk, hbf⟩ := x
 dsimp only at hk hbf ⊢
 refine sqt 1 rfl (pur 1 rfl (Z0 ?_))
 refine Z2 rfl ?_ ?_ <;> intro hc1
 try simp only [cS] at hc1
 obtain ⟨x, hx⟩ : ∃ x, vs[k]? = some x := ⟨_, List.getElem?_eq_getElem (by omega)⟩
 have hxb := hvb x (List.mem_of_getElem? hx)
 have hb1 := hbf x hx
 refine Z5 (Z0 (Z4 (sqt 3 rfl (sp rfl (PE.indexAddr Z73 rfl rfl (by omega) (by omega)) rfl ?_))))
 refine spL rfl rfl (lh sc3 rfl (show (Zd vs)[0 + ((k : Nat) : Int).toNat * 1]? = _ by rw [Nat.zero_add, Nat.mul_one, Int.toNat_natCast]; exact Gt.ints_get hx)) rfl ?_
 refine pur 1 rfl (sqt 8 rfl (pur 2 rfl ?_))
 refine clF rfl rfl (ZeY) rfl rfl (ZdG l y1 y2 y3 y4 y5 k1 k2 k3 k4 k5 hlo hk4 hl8 x who hxb hw1 b22 b23 b24 _ _) ?_
 rintro _ _ R1 ⟨rfl, rfl, hR1⟩
 obtain rfl := hR1.symm
 clear hR1
 rw [← hL]
 refine pur 5 rfl (Z0 (sqt 19 rfl (pur 3 rfl ?_)))
 refine Zp 147 rfl ?_ ?_ <;> intro g147
 exact absurd g147 (by simp; omega)
 refine pur 4 rfl ?_
 refine Zp 151 rfl ?_ ?_ <;> intro g151
 exact absurd g151 (by simp; omega)
 refine pur 3 rfl ?_
 refine Zp 154 rfl ?_ ?_ <;> intro g154
 try simp only [cS] at g154
 refine pur 5 rfl ?_
 refine Zp 159 rfl ?_ ?_ <;> intro g159
 exact absurd g159 (by simp; omega)
 refine pur 4 rfl ?_
 refine Z2 rfl ?_ ?_ <;> intro hc2
 exact absurd hc2 (by simp; omega)
 refine Z5 (sqr 2 rfl (pur 2 rfl (sqr 2 rfl (sp rfl (PE.add rfl rfl (by omega)) rfl (pur 1 rfl ?_)))))
 exact Ze ⟨(k + 1, max 0 (L - x)), by omega, fun y hy => by have := hdec k x y hx hy; dsimp only; omega⟩ idH
 refine pur 9 rfl ?_
 refine Z2 rfl ?_ ?_ <;> intro hc2
 exact absurd hc2 (by simp; omega)
 refine Z5 (sqr 2 rfl (pur 2 rfl (sqr 2 rfl (sp rfl (PE.add rfl rfl (by omega)) rfl (pur 1 rfl ?_)))))
 exact Ze ⟨(k + 1, max 0 (L - x)), by omega, fun y hy => by have := hdec k x y hx hy; dsimp only; omega⟩ idH
 refine Za (Zb (Zb (Zr (sqt 2 rfl ?_))))
 refine clV rfl ZfQ rfl rfl (Z7N _ _) ?_
 refine pur 1 rfl (Z1 ?_)
 exact rtA rfl rfl rfl ⟨rfl, rfl, rfl⟩ (fun w h => St.sub ((((h.del b133).del b24).del b23).del b22))
end Go.Proofs.YtjoajfdnlomapaaGreat
