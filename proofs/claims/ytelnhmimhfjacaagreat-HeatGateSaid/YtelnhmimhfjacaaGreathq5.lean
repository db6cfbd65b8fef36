/- Walks of the functions of the program, and the laws that join them: what the last theorem of this claim needs, in order. -/
import Derived.Test.YtelnhmimhfjacaaGreathq4
namespace Go.Proofs.YtelnhmimhfjacaaGreat.Ht
set_option linter.unusedSimpArgs false
set_option linter.unusedVariables false
open Go
theorem Z74 : Z1M Tryz.prog 149 = some 6 := by kernel_rfl
theorem Zex : apT Tryz.prog 151 = some (150, 1, 8) := by kernel_rfl
theorem Zg7 : apT Tryz.prog 56 = some (91, 1, 24) := by kernel_rfl
theorem Zdc : cal Tryz.prog 87 = true := by kernel_rfl
theorem Zew : cal Tryz.prog 88 = true := by kernel_rfl
theorem Z5F : ZT Tryz.prog 149 = some 6 := by kernel_rfl
theorem Zfj : ZT Tryz.prog 150 = some 1 := by kernel_rfl
theorem Zd1 : ZT Tryz.prog 151 = some 1 := by kernel_rfl
theorem ZfX : ZT Tryz.prog 91 = some 1 := by kernel_rfl
theorem Zbg : elN Tryz.prog 151 = some 1 := by kernel_rfl
theorem ZaB : eqB Tryz.prog 10000 149 = some (true, 6) := by kernel_rfl
theorem ZaH : Tryz.prog.eqGuardType Tryz.prog.depth 149 = false := by kernel_rfl
theorem Zc4 : Z0w Tryz.prog 149 0 = some 0 := by kernel_rfl
theorem ZbF : Z0w Tryz.prog 149 1 = some 4 := by kernel_rfl
theorem Z1j : Z0w Tryz.prog 149 2 = some 5 := by kernel_rfl
theorem Z35 : Z3v Tryz.prog 150 = some (83, 149) := by kernel_rfl
theorem Z8o : Z0c Tryz.prog 149 = some [(0, 4), (4, 1), (5, 1)] := by kernel_rfl
theorem Z29 : Z1v Tryz.prog 150 = true := by kernel_rfl
theorem Z64 : Z1v Tryz.prog 151 = true := by kernel_rfl
theorem ZcE : slE Tryz.prog 151 = some (150, 1) := by kernel_rfl
theorem Z2t : ZE Tryz.prog 149 = some ([.int .i64 0, .int .i64 0, .int .i64 0, .int .i64 0, .int .i64 0, .int .i64 0]) := by kernel_rfl
theorem Zbe : ZE Tryz.prog 150 = some ([.map none]) := by kernel_rfl
theorem Zek : ZE Tryz.prog 151 = some ([.slice none 0 0]) := by kernel_rfl
theorem Zcu : ZE Tryz.prog 91 = some ([.slice none 0 0]) := by kernel_rfl
theorem Zcn : zvl Tryz.prog 149 = some (.agg #[.int .i64 0, .int .i64 0, .int .i64 0, .int .i64 0, .int .i64 0, .int .i64 0]) := by kernel_rfl
abbrev MW := List (HSt × List Int)
def zw : List Int := [0, 0, 0, 0, 0, 0]
def wvl (w : List Int) : Value := .agg (Za w).toArray
def Z05 (m : MW) (s : HSt) : Option (List Int) := (m.find? fun e => decide (e.1 = s)).map (·.2)
def Z6k : MW → HSt → List Int → MW
  | [], k, v => [(k, v)]
  | (k', v') :: l, k, v => bif decide (k' = k) then (k, v) :: l else (k', v') :: Z6k l k v
def kvw (m : MW) : KV := m.map fun p => (p.1, wvl p.2)
theorem Z5U : ∀ (m : MW) (s : HSt), (kvw m).get s = (Z05 m s).map wvl
  | [], s => rfl
  | (k, v) :: m, s => by
    have ih := Z5U m s
    unfold KV.get Z05 at ih ⊢
    show (((k, wvl v) :: kvw m).find? fun e => decide (e.1 = s)).map (·.2) = _
    rw [List.find?_cons, List.find?_cons]
    dsimp only
    cases decide (k = s) with
    | true => rfl
    | false => exact ih
theorem Z33 : ∀ (m : MW) (k : HSt) (v : List Int), (kvw m).put k (wvl v) = kvw (Z6k m k v)
  | [], k, v => rfl
  | (k', v') :: m, k, v => by
    have ih := Z33 m k v
    show KV.put ((k', wvl v') :: kvw m) k (wvl v) = kvw (bif decide (k' = k) then (k, v) :: m else (k', v') :: Z6k m k v)
    unfold KV.put
    cases decide (k' = k) with
    | true => rfl
    | false =>
      rw [cond_false, cond_false]
      show (k', wvl v') :: (kvw m).put k (wvl v) = _
      rw [ih]; rfl
theorem Z3j : ∀ (m : MW) (k : HSt) (v : List Int) (s : HSt), Z05 (Z6k m k v) s = bif decide (k = s) then some v else Z05 m s
  | [], k, v, s => by
    unfold Z6k Z05
    rw [List.find?_cons]
    dsimp only
    cases decide (k = s) <;> rfl
  | (k', v') :: m, k, v, s => by
    have ih := Z3j m k v s
    unfold Z6k
    by_cases h : k' = k
    · subst h
      rw [decide_eq_true rfl, cond_true]
      unfold Z05
      rw [List.find?_cons, List.find?_cons]
      dsimp only
      cases decide (k' = s) <;> rfl
    · rw [decide_eq_false h, cond_false]
      unfold Z05 at ih ⊢
      rw [List.find?_cons, List.find?_cons]
      dsimp only
      by_cases h2 : k' = s
      · subst h2
        rw [decide_eq_true rfl, decide_eq_false (fun e => h e.symm)]; rfl
      · rw [decide_eq_false h2]; exact ih
structure WOk (B : Int) (e : HSt × List Int) : Prop where
  k : e.1.length = 4
  v : e.2.length = 6
  t : 0 ≤ na e.2 4 ∧ na e.2 4 < 16
  a : 0 ≤ na e.2 5 ∧ na e.2 5 ≤ B
def Z4L (B : Int) (m : MW) : Prop := ∀ e ∈ m, WOk B e
theorem Z8E {B : Int} : ∀ {m : MW} {k : HSt} {v : List Int}, Z4L B m → WOk B (k, v) → Z4L B (Z6k m k v)
  | [], k, v, _, h => fun e he => by rw [List.mem_singleton.1 he]; exact h
  | (k', v') :: m, k, v, hm, h => fun e he => by
    unfold Z6k at he
    cases hd : decide (k' = k) with
    | true =>
      rw [hd, cond_true] at he
      rcases List.mem_cons.1 he with rfl | h1
      · exact h
      · exact hm e (by simp [h1])
    | false =>
      rw [hd, cond_false] at he
      rcases List.mem_cons.1 he with rfl | h1
      · exact hm _ (by simp)
      · exact Z8E (m := m) (fun e he => hm e (by simp [he])) h e h1
theorem Z5E {B : Int} {m : MW} (hm : Z4L B m) {s : HSt} {w : List Int} (h : Z05 m s = some w) : w.length = 6 ∧ (0 ≤ na w 4 ∧ na w 4 < 16) ∧ 0 ≤ na w 5 ∧ na w 5 ≤ B := by
  unfold Z05 at h
  rw [Option.map_eq_some_iff] at h
  obtain ⟨e, he, rfl⟩ := h
  have := hm e (List.mem_of_find?_eq_some he)
  exact ⟨this.v, this.t, this.a⟩
theorem zw_ok : (0 ≤ na zw 4 ∧ na zw 4 < 16) ∧ 0 ≤ na zw 5 ∧ na zw 5 ≤ 0 := by decide
theorem Z2d {B : Int} {m : MW} (hm : Z4L B m) : ∀ e ∈ kvw m, e.1.length = 4 := fun e he => by
  obtain ⟨p, hp, rfl⟩ := List.mem_map.1 he
  exact (hm p hp).k
theorem wor {o : Option (List Int)} : (o.map wvl).getD (wvl zw) = wvl (o.getD zw) := by cases o <;> rfl
theorem Z9G {o : Option (List Int)} : (o.map wvl).isSome = o.isSome := by cases o <;> rfl
theorem Z59 {l : List Int} (h : l.length = 6) : ∃ a b c d e f, l = [a, b, c, d, e, f] := by
  match l, h with
  | [a, b, c, d, e, f], _ => exact ⟨a, b, c, d, e, f, rfl⟩
def Z1A (m : MW) (e : HSt × List Int) : MW := bif decide ((Z05 m e.1).getD zw = zw) || decide (na e.2 5 < na ((Z05 m e.1).getD zw) 5) then Z6k m e.1 e.2 else m
theorem ZbZ {B : Int} {m : MW} {e : HSt × List Int} (hm : Z4L B m) (he : WOk B e) : Z4L B (Z1A m e) := by
  unfold Z1A
  cases (decide ((Z05 m e.1).getD zw = zw) || decide (na e.2 5 < na ((Z05 m e.1).getD zw) 5)) with
  | true => exact Z8E hm he
  | false => exact hm
def Zcr (d : Dsk) (s : HSt) (c : Int) (l : List Nat) : Option (HSt × List Int) := (d.next s l).map fun t => (t, s ++ [(Z0z l : Int), c + (l.length : Int)])
def Z4J (d : Dsk) (m : MW) (s : HSt) (j : Nat) : List (HSt × List Int) := match Z05 m s with
  | none => []
  | some w => ((d.trs false).take j).filterMap (Zcr d s (na w 5))
def evW (d : Dsk) (m : MW) (s : HSt) : List (HSt × List Int) := Z4J d m s (d.trs false).length
def Z4V (d : Dsk) (m : MW) (k : Nat) : MW := ((d.sts.take k).flatMap (evW d m)).foldl Z1A []
def ZV (d : Dsk) (s0 : HSt) : Nat → MW
  | 0 => [(s0, zw)]
  | i + 1 => Z4V d (ZV d s0 i) d.nst
theorem Z93 {d : Dsk} {m : MW} {k : Nat} {s : HSt} (h : d.sts[k]? = some s) : Z4V d m (k + 1) = (evW d m s).foldl Z1A (Z4V d m k) := by
  unfold Z4V
  rw [ZY h, List.flatMap_append, List.foldl_append, List.flatMap_singleton]
theorem Z7z {d : Dsk} {m : MW} {s : HSt} (h : Z05 m s = none) (j : Nat) : Z4J d m s j = [] := by unfold Z4J; rw [h]
theorem Z8h (d : Dsk) (m : MW) (s : HSt) : Z4J d m s 0 = [] := by unfold Z4J; cases Z05 m s <;> simp
theorem Z95 {d : Dsk} {m : MW} {s : HSt} {w : List Int} (h : Z05 m s = some w) {j : Nat} {l : List Nat} (hl : (d.trs false)[j]? = some l) : Z4J d m s (j + 1) = Z4J d m s j ++ (match d.next s l with | none => [] | some t => [(t, s ++ [(Z0z l : Int), na w 5 + (l.length : Int)])]) := by
  unfold Z4J
  rw [h]
  dsimp only
  rw [ZY hl, List.filterMap_append]
  congr 1
  unfold Zcr
  cases hn : d.next s l with
  | none => simp [hn]
  | some t => simp [hn]
theorem Z4n {d : Dsk} (hd : d.ok) {full : Bool} {l : List Nat} (h : l ∈ d.trs full) : l.length ≤ 4 := by
  obtain ⟨i, _, rfl⟩ := List.mem_map.1 (List.mem_filter.1 h).1
  have := Z0X d.n i
  have := hd.n
  omega
theorem ZeH {d : Dsk} (hd : d.ok) {s t : HSt} {B c : Int} (hs : d.inS s) (hc : 0 ≤ c ∧ c ≤ B) {l : List Nat} (hl : l ∈ d.trs false) (hn : d.next s l = some t) : WOk (B + 4) (t, s ++ [(Z0z l : Int), c + (l.length : Int)]) := by
  have h1 := d.trs_lt hl
  have h2 := Z4n hd hl
  have h3 := Z48 (l := l) (m := 4) (fun k hk => by have := h1 k hk; have := hd.n; omega)
  obtain ⟨s0, s1, s2, s3, rfl⟩ := Z0x hs.len
  refine ⟨(d.next_inS hd hs h1 hn).len, rfl, ?_, ?_⟩
  · show 0 ≤ (Z0z l : Int) ∧ (Z0z l : Int) < 16; omega
  · show 0 ≤ c + (l.length : Int) ∧ c + (l.length : Int) ≤ B + 4; omega
theorem Z61 {B : Int} : ∀ {es : List (HSt × List Int)} {m : MW}, Z4L B m → (∀ e ∈ es, WOk B e) → Z4L B (es.foldl Z1A m)
  | [], _, hm, _ => hm
  | e :: es, m, hm, he => Z61 (m := Z1A m e) (ZbZ hm (he e (by simp))) (fun f hf => he f (by simp [hf]))
theorem Z8e {d : Dsk} (hd : d.ok) {m : MW} {B : Int} (hm : Z4L B m) {s : HSt} (hs : s ∈ d.sts) (j : Nat) : ∀ e ∈ Z4J d m s j, WOk (B + 4) e := fun e he => by
  unfold Z4J at he
  cases h : Z05 m s with
  | none => rw [h] at he; cases he
  | some w =>
    rw [h] at he
    obtain ⟨l, hl, hle⟩ := List.mem_filterMap.1 he
    unfold Zcr at hle
    rw [Option.map_eq_some_iff] at hle
    obtain ⟨t, ht, rfl⟩ := hle
    exact ZeH hd ((d.mem_sts hd s).1 hs) (Z5E hm h).2.2 (List.mem_of_mem_take hl) ht
theorem Z8x {d : Dsk} (hd : d.ok) {m : MW} {B : Int} (hm : Z4L B m) (k : Nat) : Z4L (B + 4) (Z4V d m k) := by
  refine Z61 (fun e he => by cases he) fun e he => ?_
  obtain ⟨s, hs, hes⟩ := List.mem_flatMap.1 he
  exact Z8e hd hm (List.mem_of_mem_take hs) _ e hes
theorem Z5D {d : Dsk} (hd : d.ok) {s0 : HSt} (hs : s0.length = 4) : ∀ (i : Nat), Z4L (4 * i) (ZV d s0 i)
  | 0 => fun e he => by rw [List.mem_singleton.1 he]; exact ⟨hs, rfl, zw_ok.1, ⟨zw_ok.2.1, zw_ok.2.2⟩⟩
  | i + 1 => by
    have := Z8x hd (Z5D hd hs i) d.nst
    have e : (4 * ((i + 1 : Nat) : Int)) = 4 * (i : Int) + 4 := by push_cast; omega
    rw [e]; exact this
def Z2N (m : MW) (acc : Option (HSt × Int)) (s : HSt) : Option (HSt × Int) := match Z05 m s with
  | none => acc
  | some w => match acc with
    | none => some (s, na w 5)
    | some (t, n) => bif decide (na w 5 < n) then some (s, na w 5) else some (t, n)
def Z0f (d : Dsk) (m : MW) (k : Nat) : Option (HSt × Int) := (d.sts.take k).foldl (Z2N m) none
theorem Z73 {d : Dsk} {m : MW} {k : Nat} {s : HSt} (h : d.sts[k]? = some s) : Z0f d m (k + 1) = Z2N m (Z0f d m k) s := by
  unfold Z0f; rw [ZY h, List.foldl_append]; rfl
def Z0K (d : Dsk) (s0 : HSt) : Nat → HSt → List (List Nat)
  | 0, _ => []
  | j + 1, s => Z0K d s0 j (((Z05 (ZV d s0 (j + 1)) s).getD zw).take 4) ++ [ZF 4 (na ((Z05 (ZV d s0 (j + 1)) s).getD zw) 4).toNat]
def Z1N (ms : List (Nat × MW)) (w : World) : Prop := ∀ p ∈ ms, w.heap[p.1]? = some (Z0h true (kvw p.2))
def Z22 (ms : List (Nat × MW)) : List (List Value) := ms.map fun p => [.map (some p.1)]
def Z15 (ms : List (Nat × MW)) : List Value := ms.map fun p => .map (some p.1)
theorem Z2c (ms : List (Nat × MW)) : (Z22 ms).length = ms.length := List.length_map _
theorem Z70 (ms : List (Nat × MW)) : (Z15 ms).length = ms.length := List.length_map _
theorem Z39 : ∀ (ms : List (Nat × MW)), (Z22 ms).flatten = Z15 ms
  | [] => rfl
  | p :: ms => by show [Value.map (some p.1)] ++ (Z22 ms).flatten = _; rw [Z39 ms]; rfl
theorem Z3X {ms : List (Nat × MW)} {junk : List Value} {d i : Nat} {p : Nat × MW} (h : ms[d]? = some p) (e : i = d) : (Z15 ms ++ junk)[i]? = some (.map (some p.1)) := by
  subst e
  rw [List.getElem?_append_left (by rw [Z70]; exact (List.getElem?_eq_some_iff.1 h).1)]
  simp [Z15, h]
theorem Z1n {ms : List (Nat × MW)} {H : Z7} {R : Z5} [m : MemF (Z1N ms) R] {p : Nat × MW} (hp : p ∈ ms) : ∀ w, St H R w → w.heap[p.1]? = some (Z0h true (kvw p.2)) := fun w hs => hs.now m.mem p hp
theorem St.maps {ms : List (Nat × MW)} {x : Nat} {m : MW} {H : Z7} {R : Z5} {w : World} [mf : MemF (Z1N ms) R] (h : St ((x, Z0h true (kvw m)) :: H) R w) : St H (Z1N (ms ++ [(x, m)]) :: R) w := by
  have h1 := (St.freeze h).also (f := Z1N (ms ++ [(x, m)])) (fun w' hw p hp => by
    rcases List.mem_append.1 hp with h2 | h2
    · exact hw _ (List.mem_cons_of_mem _ mf.mem) p h2
    · rw [List.mem_singleton.1 h2]; exact hw (fun w => w.heap[x]? = some (Z0h true (kvw m))) (by simp))
  exact h1.facts (fun g hg => by rcases List.mem_cons.1 hg with h2 | h2 <;> simp [h2])
theorem St.maps1 {x : Nat} {m : MW} {H : Z7} {R : Z5} {w : World} (h : St ((x, Z0h true (kvw m)) :: H) R w) : St H (Z1N [(x, m)] :: R) w := by
  have h1 := (St.freeze h).also (f := Z1N [(x, m)]) (fun w' hw p hp => by
    rw [List.mem_singleton.1 hp]; exact hw (fun w => w.heap[x]? = some (Z0h true (kvw m))) (by simp))
  exact h1.facts (fun g hg => by rcases List.mem_cons.1 hg with h2 | h2 <;> simp [h2])
def MsOk (d : Dsk) (s0 : HSt) (ms : List (Nat × MW)) (n : Nat) : Prop := ms.length = n ∧ ∀ j < n, ∃ x, ms[j]? = some (x, ZV d s0 j)
theorem Zdv {H : Z7} {R : Z5} {m : MW} {B : Int} (hm : Z4L B m) {x : Nat} (hx : ∀ w, St H R w → w.heap[x]? = some (Z0h true (kvw m))) (s : HSt) (hs : s.length = 4) :
    ∀ w, St H R w → Lkp Tryz.prog 150 (.map (some x)) (mkv true s) true (.tuple #[wvl ((Z05 m s).getD zw), .bool (Z05 m s).isSome]) w := fun w hw => by
  have h := Z80 (b := true) (kvw m) s Z35 (KeyT.of Z2w Z2u) (Z4Y Zcn) hs (Z2d hm) hx true w hw
  rw [Z5U] at h
  rw [← wor, ← Z9G]
  exact h
theorem Z63 {H : Z7} {R : Z5} {m : MW} {B : Int} (hm : Z4L B m) {x : Nat} (hx : ∀ w, St H R w → w.heap[x]? = some (Z0h true (kvw m))) (s : HSt) (hs : s.length = 4) :
    ∀ w, St H R w → Lkp Tryz.prog 150 (.map (some x)) (mkv true s) false (wvl ((Z05 m s).getD zw)) w := fun w hw => by
  have h := Z80 (b := true) (kvw m) s Z35 (KeyT.of Z2w Z2u) (Z4Y Zcn) hs (Z2d hm) hx false w hw
  rw [Z5U] at h
  rw [← wor]
  exact h
theorem Zdq {H : Z7} {R : Z5} {x : Nat} {o : Obj} [mm : Mem1 x o H] : ∀ w, St H R w → w.heap[x]? = some o := fun w hs => hs.held _ mm.mem
theorem Z5v {B : Int} {m : MW} (hm : Z4L B m) (s : HSt) : ((Z05 m s).getD zw).length = 6 ∧ (0 ≤ na ((Z05 m s).getD zw) 4 ∧ na ((Z05 m s).getD zw) 4 < 16) ∧ 0 ≤ na ((Z05 m s).getD zw) 5 := by
  cases h : Z05 m s with
  | none => exact ⟨rfl, by decide, by decide⟩
  | some w => have := Z5E hm h; exact ⟨this.1, this.2.1, this.2.2.1⟩
theorem Z40 {H : Z7} {R : Z5} {m : MW} {B : Int} (hm : Z4L B m) {x : Nat} (hx : ∀ w, St H R w → w.heap[x]? = some (Z0h true (kvw m))) (s : HSt) (hs : s.length = 4) {wo : Option (List Int)} (hwo : Z05 m s = wo) :
    ∀ w, St H R w → Lkp Tryz.prog 150 (.map (some x)) (mkv true s) true (.tuple #[wvl (wo.getD zw), .bool wo.isSome]) w := by subst hwo; exact Zdv hm hx s hs
theorem Z6g {H : Z7} {R : Z5} {m : MW} {B : Int} (hm : Z4L B m) {x : Nat} (hx : ∀ w, St H R w → w.heap[x]? = some (Z0h true (kvw m))) (s : HSt) (hs : s.length = 4) {wo : List Int} (hwo : (Z05 m s).getD zw = wo) :
    ∀ w, St H R w → Lkp Tryz.prog 150 (.map (some x)) (mkv true s) false (wvl wo) w := by subst hwo; exact Z63 hm hx s hs
def bN (a : Option (HSt × Int)) : Int := match a with
  | none => 0
  | some p => p.2
def bS (a : Option (HSt × Int)) : HSt := match a with
  | none => [0, 0, 0, 0]
  | some p => p.1
def Zg6 (d : Dsk) (s0 : HSt) (days : Nat) (H : Z7) (R : Z5) : Value → Z7 → Z5 → Prop := fun v H' R' => H' = H ∧
  ((Z0f d (ZV d s0 days) d.nst = none ∧ v = .tuple #[.slice none 0 0, .int .i64 0, .bool false] ∧ R' = R) ∨
   (∃ (s : HSt) (n : Int) (pl : List PL) (bp : Nat), Z0f d (ZV d s0 days) d.nst = some (s, n) ∧ lls pl = (Z0K d s0 days s).map il ∧ v = .tuple #[.slice (some ⟨bp, 0, none⟩) days days, .int .i64 n, .bool true] ∧ R' = RowsA (some ⟨bp, 0, none⟩) 1 (Zz pl) :: Inn pl :: R))
theorem Z67 (ms : List (Nat × MW)) (x : Nat) (m : MW) : Z22 (ms ++ [(x, m)]) = Z22 ms ++ [[.map (some x)]] := by simp [Z22]
theorem MsOk.start (d : Dsk) (s0 : HSt) (x : Nat) : MsOk d s0 [(x, [(s0, zw)])] 1 := ⟨rfl, fun j hj => by
  obtain rfl : j = 0 := by omega
  exact ⟨x, rfl⟩⟩
theorem MsOk.snoc {d : Dsk} {s0 : HSt} {ms : List (Nat × MW)} {n : Nat} (h : MsOk d s0 ms (n + 1)) (x : Nat) : MsOk d s0 (ms ++ [(x, Z4V d (ZV d s0 n) d.nst)]) (n + 1 + 1) := by
  obtain ⟨h1, h2⟩ := h
  refine ⟨by rw [List.length_append, h1]; rfl, fun j hj => ?_⟩
  rcases Nat.lt_or_ge j (n + 1) with h3 | h3
  · obtain ⟨y, hy⟩ := h2 j h3
    exact ⟨y, by rw [List.getElem?_append_left (by omega)]; exact hy⟩
  · obtain rfl : j = n + 1 := by omega
    exact ⟨x, by rw [List.getElem?_append_right (by omega), h1, Nat.sub_self]; rfl⟩
theorem Zaj {j i : Nat} {v z : Value} {cs : List Value} (e : i = j) : spl (List.replicate (j + 1) z ++ cs) i [v] = List.replicate j z ++ v :: cs := by
  subst e
  rw [List.replicate_succ', List.append_assoc]
  have := Z8j (p := List.replicate i z) (q := [z]) (s := cs) (vs := [v]) rfl
  rw [List.length_replicate] at this
  exact this
theorem St.innCons {a : Option Addr} {c : Nat} {l0 : List Int} {l : List PL} {H : Z7} {R : Z5} {w : World} [m1 : MemF (Inn l) R] [m2 : MemRows a 1 (Zn l0) R] (h : St H R w) : St H (Inn (⟨a, c, l0⟩ :: l) :: R) w :=
  h.also fun _ hw y hy => by
    rcases List.mem_cons.1 hy with rfl | hy
    · exact hw _ m2.mem
    · exact hw _ m1.mem y hy
theorem Z53 {d : Dsk} (hd : d.ok) (m : MW) : ∀ k, (bS (Z0f d m k)).length = 4 := by
  have key : ∀ (l : List HSt) (acc : Option (HSt × Int)), (∀ s ∈ l, s.length = 4) → (bS acc).length = 4 → (bS (l.foldl (Z2N m) acc)).length = 4 := by
    intro l
    induction l with
    | nil => intro acc _ h; exact h
    | cons s l ih =>
      intro acc hl h
      refine ih _ (fun t ht => hl t (by simp [ht])) ?_
      have hs := hl s (by simp)
      unfold Z2N
      cases Z05 m s with
      | none => exact h
      | some w =>
        cases acc with
        | none => exact hs
        | some p =>
          obtain ⟨t, n⟩ := p
          dsimp only
          cases decide (na w 5 < n) with
          | true => exact hs
          | false => exact h
  exact fun k => key _ none (fun s hs => ((d.mem_sts hd s).1 (List.mem_of_mem_take hs)).len) rfl
set_option maxHeartbeats 4000000 in
theorem Zac (b : Barn) (hok : b.ok) (ab : Option Addr) (cb bd m : Nat) (days : Nat) (hdy : days ≤ 20) (H : Z7) (R : Z5) [hD : MemRows (some ⟨bd, 0, none⟩) 18 [dcs b (b.sl ab cb) b.lasts b.most m] R] [hB : MemRows ab 4 (brows b.bins) R] :
    Fn Tryz.prog 61 [.pointer (some ⟨bd, 0, none⟩), .int .i64 days] H R (Zg6 b.dsk b.state days H R) := by
 have hdk := b.dsk_ok hok
 have hl4 := hdk.lasts.len
 have hm4 := hdk.most.len
 refine Z92 Tryz.func61 rfl Tryz.ntmps61 rfl ?_
 refine sqt 5 rfl (bx rfl rfl rfl (fun b2 => bx rfl rfl rfl (fun b3 => pur 3 rfl (sqt 12 rfl ?_))))
 refine mkm rfl rfl true (fun m27 => ?_)
 refine spL rfl rfl (lh Z3r rfl rfl) rfl (sp rfl (PE.nilCheck rfl) rfl (sp rfl (PE.fA Z1y rfl) rfl (spL rfl rfl (Zg9 (sz := 18) (btl b (b.sl ab cb)) Zt rfl rfl) rfl ?_)))
 refine clV rfl Z7P rfl rfl (Z2V b ab cb hok _ _) ?_
 refine sp rfl (PE.build (out := [_, _, _, _, _, _]) Z8o Z2t rfl rfl) rfl ?_
 refine mpi [] b.state rfl Z35 (KeyT.of Z2w Z2u) rfl rfl rfl (b.state_sml hok).len (by simp) ?_
 refine pur 1 rfl ?_
 refine bsl (out := [_]) rfl ZcE Zbe rfl rfl rfl rfl rfl rfl (fun b35 => ?_)
 refine alc rfl Zek rfl (fun b7 => ?_)
 refine sto rfl rfl rfl Zd1 rfl rfl rfl rfl ?_
 refine Z0 (sqt 2 rfl (spL rfl rfl (lh sc3 rfl rfl) rfl (pur 1 rfl (Z3 ?_))))
 refine Sy.heap (fun w h => St.maps1 (x := m27) (m := [(b.state, zw)]) (h.pull m27)) ?_
 obtain ⟨o0, h0f, h0g⟩ : ∃ o : OSl 150 1 (Z22 [(m27, [(b.state, zw)])]), o.fs = .slice (some ⟨b35, 0, none⟩) 1 1 ∧ o.G = [(b35, cel 150 [.map (some m27)])] := ⟨⟨.slice (some ⟨b35, 0, none⟩) 1 1, [(b35, cel 150 [.map (some m27)])], by intro r hr; simp only [Z22, List.map_cons, List.map_nil, List.mem_singleton] at hr; subst hr; rfl, .inr ⟨b35, 1, [], rfl, rfl, rfl, Nat.le_refl _, by decide⟩⟩, rfl, rfl⟩
 refine Sy.heap (H' := (b7, cel 151 [o0.fs]) :: (b3, cel 3 [.int .i64 days]) :: (b2, cel 80 [.pointer (some ⟨bd, 0, none⟩)]) :: (o0.G ++ (mkh [] ++ H))) (fun w h => by rw [h0f, h0g]; exact (((h.pull b35).pull b2).pull b3).pull b7) ?_
 have hs0 : b.state.length = 4 := (b.state_sml hok).len
 refine Z9M (ι := (x : {x : Nat × List (Nat × MW) × List Nat // x.1 ≤ days ∧ MsOk b.dsk b.state x.2.1 (x.1 + 1)}) × OSl 150 1 (Z22 x.1.2.1)) (fun x => ⟨[(2, .pointer (some ⟨b2, 0, none⟩)), (3, .pointer (some ⟨b3, 0, none⟩)), (7, .pointer (some ⟨b7, 0, none⟩)), (36, .int .i64 days), (37, .int .i64 x.1.1.1)], mks x.1.1.2.2, (b7, cel 151 [x.2.fs]) :: (b3, cel 3 [.int .i64 days]) :: (b2, cel 80 [.pointer (some ⟨bd, 0, none⟩)]) :: (x.2.G ++ (mkh x.1.1.2.2 ++ H)), Z1N x.1.1.2.1 :: R⟩) (fun x => days - x.1.1.1) ⟨⟨(0, [(m27, [(b.state, zw)])], []), Nat.zero_le _, MsOk.start _ _ _⟩, o0⟩ ?_ (fun x => ?_)
 exact Zd5 (by repeat' first | exact Sub.nil | apply Sub.cons | rfl | (simp [lk]; omega)) rfl idH
 ·
  obtain ⟨⟨⟨d, ms, mk⟩, hd, hms⟩, o⟩ := x
  dsimp only at hd hms o ⊢
  obtain ⟨hml, hmg⟩ := hms
  obtain ⟨br, cr, jr, hrf, hrG, hrj, hrc, hrx⟩ := o.is.resolve_left (fun h => by have := congrArg List.length h.1; rw [Z2c] at this; simp only [List.length_nil] at this; omega)
  rw [Z2c] at hrf hrj hrc
  rw [Z39] at hrG
  rw [hrf]
  refine Sy.heap (H' := (b7, cel 151 [.slice (some ⟨br, 0, none⟩) ms.length cr]) :: (b3, cel 3 [.int .i64 days]) :: (b2, cel 80 [.pointer (some ⟨bd, 0, none⟩)]) :: (br, cel 150 (Z15 ms ++ jr)) :: (mkh mk ++ H)) (fun w h => by rw [hrG] at h; exact h) ?_
  obtain ⟨mj, hmj⟩ := hmg d (by omega)
  have hmok := Z5D hdk hs0 d
  refine sqt 1 rfl (pur 1 rfl (Z0 ?_))
  refine Z2 rfl ?_ ?_ <;> intro hc0 <;> try simp only [cS] at hc0
  ·
   refine Z4 (Z0 (Z3 (sqt 3 rfl (pur 1 rfl (alc rfl zl3 rfl (fun b8 => ?_))))))
   refine sto rfl rfl rfl cn3 rfl rfl rfl rfl ?_
   refine sqt 3 rfl ?_
   refine mkm rfl rfl true (fun m40 => ?_)
   refine alc rfl Zbe rfl (fun b9 => ?_)
   refine sto rfl rfl rfl Zfj rfl rfl rfl rfl ?_
   refine Z0 (sqt 2 rfl (spL rfl rfl (lh Z3r rfl rfl) rfl ?_))
   refine cl rfl Zc8 rfl rfl (Z4d bd _ _) ?_
   rintro _ _ _ ⟨xb, rfl, rfl, rfl⟩
   refine Z3 ?_
   refine Z2K rfl Zb7 (fun c0 bl0 bd0 hcp0 hca0 hcb0 hck0 => ?_)
   refine ⟨fun st pend T R' => st = .ready ∧ pend = none ∧ T = (bd0, .deferred (some [])) :: (b9, cel 150 [.map (some m40)]) :: (m40, Z0h true (kvw (Z4V b.dsk (ZV b.dsk b.state d) b.dsk.nst))) :: (b8, cel 3 [.int .i64 d]) :: (b7, cel 151 [.slice (some ⟨br, 0, none⟩) ms.length cr]) :: (b3, cel 3 [.int .i64 days]) :: (b2, cel 80 [.pointer (some ⟨bd, 0, none⟩)]) :: (br, cel 150 (Z15 ms ++ jr)) :: (mkh mk ++ H) ∧ R' = RowsA (some ⟨xb, 0, none⟩) 1 [[.pointer (some ⟨bd, 0, none⟩)]] :: Z1N ms :: R,
     Fn.mono (Z31 b hok ab cb bd m xb bl0 (fun k H' R' => H' = (bl0, lob c0 .ready none) :: (bd0, .deferred (some [])) :: (b9, cel 150 [.map (some m40)]) :: (m40, Z0h true (kvw (Z4V b.dsk (ZV b.dsk b.state d) k))) :: (b8, cel 3 [.int .i64 d]) :: (b7, cel 151 [.slice (some ⟨br, 0, none⟩) ms.length cr]) :: (b3, cel 3 [.int .i64 days]) :: (b2, cel 80 [.pointer (some ⟨bd, 0, none⟩)]) :: (br, cel 150 (Z15 ms ++ jr)) :: (mkh mk ++ H) ∧ R' = RowsA (some ⟨xb, 0, none⟩) 1 [[.pointer (some ⟨bd, 0, none⟩)]] :: Z1N ms :: R) (fun _ _ => False)
       (fun k H' R' h => by obtain ⟨_, rfl⟩ := h; exact ⟨by simp, List.mem_cons_of_mem _ (List.mem_cons_of_mem _ hD.mem)⟩) (fun k s q oo H' R' hk hI => ?_) _ _ ⟨rfl, rfl⟩) (fun v H' R' h => ?_), ?_⟩
   rotate_left
   · rcases h with ⟨rfl, rfl⟩ | h
     · exact ⟨.ready, none, _, by simp, .refl _, rfl, rfl, rfl, rfl⟩
     · exact h.elim
   rotate_left
   ·
    have hmem := List.mem_of_getElem? hk
    have hsi := (b.dsk.mem_sts hdk s).1 hmem
    obtain ⟨s0, s1, s2, s3, rfl⟩ := Z0x hsi.len
    have hnk := Z93 (m := (ZV b.dsk b.state d)) hk
    obtain ⟨hw6, hw4, hw5⟩ := Z5v hmok [s0, s1, s2, s3]
    obtain ⟨wo, hwo⟩ : ∃ wo, Z05 (ZV b.dsk b.state d) [s0, s1, s2, s3] = wo := ⟨_, rfl⟩
    rw [hwo] at hw6 hw4 hw5
    obtain ⟨rfl, rfl⟩ := hI
    refine Z8m hcp0 hca0 hcb0 hck0 rfl ?_
    refine sqr 2 rfl (alc rfl Z4u rfl (fun b10 => ?_))
    refine sto rfl rfl rfl Z4I rfl rfl rfl rfl ?_
    refine Z09 ?_
    refine Z3 (Z0 ?_)
    refine Z8 [0, 0, 3, 7, 0, 31, 63, 127, 127, 0, 767, 2047] (.ld 0 (.ld 1 (.tk 2 (.ld 3 (.ld 4 (.ld 5 (tks 6 3 (.big 9 (.big 10 (.tk 11 .done)))))))))) Zr (by kernel_rfl) ?_
    refine ld rfl rfl (lh Z64 rfl rfl) rfl (ld rfl rfl (lh sc3 rfl rfl) rfl (tk rfl (PE.indexAddr Zbg rfl rfl (by omega) (by omega)) rfl (ld rfl rfl (lh Z29 rfl (Z3X hmj (by show 0 + ((d : Nat) : Int).toNat * 1 = d; omega))) rfl (ld rfl rfl (lhA [_, _, _, _] Z0J rfl rfl rfl) rfl ?_))))
    refine ldK rfl rfl rfl (Z40 hmok (Z1n (List.mem_of_getElem? hmj)) [s0, s1, s2, s3] rfl hwo) rfl ?_
    refine Zg 3 rfl (alc rfl Z2t rfl (fun b11 => ?_))
    refine bg (fun w hs => ⟨(Z40 hmok (Z1n (List.mem_of_getElem? hmj)) [s0, s1, s2, s3] rfl hwo) w hs, (lhA [_, _, _, _] Z0J rfl rfl rfl) w hs, (lh Z29 rfl (Z3X hmj (by show 0 + ((d : Nat) : Int).toNat * 1 = d; omega))) w hs, (lh sc3 rfl rfl) w hs, (lh Z64 rfl rfl) w hs, trivial⟩) ?_
    refine Z2l (vs := Za (wo.getD zw)) rfl rfl rfl Z5F rfl (by rw [ints_length]; exact hw6) rfl (Zs _) ?_
    refine bgT (Zg 1 rfl (Z0 (sqt 2 rfl (pur 2 rfl ?_))))
    refine Z2 rfl ?_ ?_ <;> intro hc1
    have hwn : wo = none := by cases wo with
      | none => rfl
      | some w => cases hc1
    have hev : evW b.dsk (ZV b.dsk b.state d) [s0, s1, s2, s3] = [] := Z7z (hwo.trans hwn) _
    refine Zb (Zc (ZA ?_))
    exact Zw (.inl ⟨rfl, _, rfl, rfl, rfl⟩) (fun w h => by rw [hnk, hev]; exact (h.del b11).del b10)
    ·
     obtain ⟨w, rfl⟩ : ∃ w, wo = some w := by cases wo with
       | none => cases hc1
       | some w => exact ⟨w, rfl⟩
     obtain ⟨w0, w1, w2, w3, w4, w5, rfl⟩ := Z59 (show w.length = 6 from hw6)
     have hwb : 0 ≤ w5 ∧ w5 ≤ 4 * (d : Int) := (Z5E hmok hwo).2.2
     refine Z4 (sqt 2 rfl (spL rfl rfl (lh Z3r rfl rfl) rfl ?_))
     refine cl rfl Zcm rfl rfl (Z3F bd false _ _) ?_
     rintro _ _ _ ⟨xt, xf, rfl, rfl, rfl⟩
     refine Z3 ?_
     refine Z8l rfl ZaD (fun c1 bl1 hcp1 hca1 hcb1 hck1 => ?_)
     refine ⟨fun st pend T R' => st = .ready ∧ pend = none ∧ T = (b11, cel 149 [.int .i64 w0, .int .i64 w1, .int .i64 w2, .int .i64 w3, .int .i64 w4, .int .i64 w5]) :: (b10, cel 83 [.int .i64 s0, .int .i64 s1, .int .i64 s2, .int .i64 s3]) :: (q, oo) :: (bl0, lob c0 .busy none) :: (bd0, .deferred (some [])) :: (b9, cel 150 [.map (some m40)]) :: (m40, Z0h true (kvw ((Z4J b.dsk (ZV b.dsk b.state d) [s0, s1, s2, s3] (b.dsk.trs false).length).foldl Z1A (Z4V b.dsk (ZV b.dsk b.state d) k)))) :: (b8, cel 3 [.int .i64 d]) :: (b7, cel 151 [.slice (some ⟨br, 0, none⟩) ms.length cr]) :: (b3, cel 3 [.int .i64 days]) :: (b2, cel 80 [.pointer (some ⟨bd, 0, none⟩)]) :: (br, cel 150 (Z15 ms ++ jr)) :: (mkh mk ++ H) ∧ R' = RowsA (some ⟨xf, 0, none⟩) 1 [[.bool false]] :: RowsA (some ⟨xt, 0, none⟩) 1 [[.pointer (some ⟨bd, 0, none⟩)]] :: RowsA (some ⟨xb, 0, none⟩) 1 [[.pointer (some ⟨bd, 0, none⟩)]] :: Z1N ms :: R,
       Fn.mono (Z2M b hok ab cb bd m false xt xf bl1 (fun j H' R' => H' = (bl1, lob c1 .ready none) :: (b11, cel 149 [.int .i64 w0, .int .i64 w1, .int .i64 w2, .int .i64 w3, .int .i64 w4, .int .i64 w5]) :: (b10, cel 83 [.int .i64 s0, .int .i64 s1, .int .i64 s2, .int .i64 s3]) :: (q, oo) :: (bl0, lob c0 .busy none) :: (bd0, .deferred (some [])) :: (b9, cel 150 [.map (some m40)]) :: (m40, Z0h true (kvw ((Z4J b.dsk (ZV b.dsk b.state d) [s0, s1, s2, s3] j).foldl Z1A (Z4V b.dsk (ZV b.dsk b.state d) k)))) :: (b8, cel 3 [.int .i64 d]) :: (b7, cel 151 [.slice (some ⟨br, 0, none⟩) ms.length cr]) :: (b3, cel 3 [.int .i64 days]) :: (b2, cel 80 [.pointer (some ⟨bd, 0, none⟩)]) :: (br, cel 150 (Z15 ms ++ jr)) :: (mkh mk ++ H) ∧ R' = RowsA (some ⟨xf, 0, none⟩) 1 [[.bool false]] :: RowsA (some ⟨xt, 0, none⟩) 1 [[.pointer (some ⟨bd, 0, none⟩)]] :: RowsA (some ⟨xb, 0, none⟩) 1 [[.pointer (some ⟨bd, 0, none⟩)]] :: Z1N ms :: R) (fun _ _ => False)
         (fun k H' R' h => by obtain ⟨_, rfl⟩ := h; exact ⟨by simp, by simp, List.mem_cons_of_mem _ (List.mem_cons_of_mem _ (List.mem_cons_of_mem _ (List.mem_cons_of_mem _ hD.mem)))⟩) (fun j l a c H' R' hj hI => ?_) _ _ ⟨by rw [Z8h]; rfl, rfl⟩) (fun v H' R' h => ?_), ?_⟩
     rotate_left
     · rcases h with ⟨rfl, rfl⟩ | h
       · exact ⟨.ready, none, _, by simp, .refl _, rfl, rfl, rfl, rfl⟩
       · exact h.elim
     rotate_left
     have hlm := List.mem_of_getElem? hj
     have hlt := b.dsk.trs_lt hlm
     have hl4' := Z4n hdk hlm
     have hll : l.length ≤ 1000000 := by omega
     have hcm : Z4L (4 * (d : Int) + 4) ((Z4J b.dsk (ZV b.dsk b.state d) [s0, s1, s2, s3] j).foldl Z1A (Z4V b.dsk (ZV b.dsk b.state d) k)) := Z61 (Z8x hdk hmok k) (Z8e hdk hmok hmem j)
     have hes := Z95 hwo hj
     obtain ⟨cu, hcu⟩ : ∃ cu, ((Z4J b.dsk (ZV b.dsk b.state d) [s0, s1, s2, s3] j).foldl Z1A (Z4V b.dsk (ZV b.dsk b.state d) k)) = cu := ⟨_, rfl⟩
     have hcs : ((Z4J b.dsk (ZV b.dsk b.state d) [s0, s1, s2, s3] (j + 1)).foldl Z1A (Z4V b.dsk (ZV b.dsk b.state d) k)) = (match b.dsk.next [s0, s1, s2, s3] l with | none => cu | some t => Z1A cu (t, [s0, s1, s2, s3, (Z0z l : Int), w5 + (l.length : Int)])) := by
       rw [hes, List.foldl_append, hcu]; cases b.dsk.next [s0, s1, s2, s3] l <;> rfl
     obtain ⟨rfl, rfl⟩ := hI
     rw [hcu] at hcm ⊢
     refine Z8m hcp1 hca1 hcb1 hck1 rfl ?_
     refine sqr 1 rfl (pur 1 rfl ?_)
     refine Z09 ?_
     refine Z3 (sqt 10 rfl (spL rfl rfl (lh Z3r rfl rfl) rfl (spL rfl rfl (lhA [_, _, _, _] Z0J rfl rfl rfl) rfl (pur 1 rfl ?_))))
     refine cl rfl ZcQ rfl rfl (Zax b hok ab cb bd m [s0, s1, s2, s3] (b.dsk.inS_sml hdk hsi) l hlt hll a c _ _) ?_
     rintro _ _ _ ⟨rfl, rfl, rfl⟩
     rcases hnx : b.dsk.next [s0, s1, s2, s3] l with _ | t
     have hcs2 : ((Z4J b.dsk (ZV b.dsk b.state d) [s0, s1, s2, s3] (j + 1)).foldl Z1A (Z4V b.dsk (ZV b.dsk b.state d) k)) = cu := by rw [hcs, hnx]
     refine pur 3 rfl (alc rfl Z4u rfl (fun b14 => ?_))
     refine sto rfl rfl rfl Z4I rfl rfl rfl rfl ?_
     refine pur 1 rfl (Z0 (sqt 2 rfl (pur 2 rfl ?_)))
     refine Zv rfl ?_
     refine Zb (Zc (ZA ?_))
     exact Zw (.inl ⟨rfl, rfl, rfl⟩) (fun w h => by rw [hcs2]; exact (h.del b14).ftail)
     have hts := b.dsk.next_inS hdk hsi hlt hnx
     obtain ⟨t0, t1, t2, t3, rfl⟩ := Z0x hts.len
     have hcs2 : ((Z4J b.dsk (ZV b.dsk b.state d) [s0, s1, s2, s3] (j + 1)).foldl Z1A (Z4V b.dsk (ZV b.dsk b.state d) k)) = Z1A cu ([t0, t1, t2, t3], [s0, s1, s2, s3, (Z0z l : Int), w5 + (l.length : Int)]) := by rw [hcs, hnx]
     refine pur 3 rfl (alc rfl Z4u rfl (fun b14 => ?_))
     refine sto rfl rfl rfl Z4I rfl rfl rfl rfl ?_
     refine pur 1 rfl (Z0 (sqt 2 rfl (pur 2 rfl ?_)))
     refine ZD rfl ?_
     refine Z4 (Z0 ?_)
     refine Z8 [0, 0, 2, 0, 8, 0, 32, 120, 255, 0, 1023] (.ld 0 (.tk 1 (.tk 3 (.ld 4 (tks 5 3 (.any (.alt 2 (.tk 8 (.big 9 (.big 10 .done))) (.alt 9 (.big 2 (.tk 8 (.big 10 .done))) .stop)))))))) Zr (by kernel_rfl) ?_
     refine ld rfl rfl (lhA [_, _, _, _] Z0J rfl rfl rfl) rfl (Zg 1 rfl (tk rfl (PE.fA Z1j rfl) rfl (ld rfl rfl (lh sc3 rfl rfl) rfl (Zg 1 rfl (tk rfl (PE.lenSl Z1u rfl) rfl (tk rfl (PE.add rfl rfl (by omega)) rfl ?_))))))
     refine Zx ?_ ?_
     refine clV rfl Zdc rfl rfl (Zcg l (fun k hk => by have h1 := hlt k hk; have h2 : b.dsk.n ≤ 4 := hdk.n.2; omega) hll a c _ _) ?_
     refine bg (fun w hs => ⟨(lh sc3 rfl rfl) w hs, (lhA [_, _, _, _] Z0J rfl rfl rfl) w hs, trivial⟩) ?_
     refine tk rfl (PE.build (out := [_, _, _, _, _, _]) Z8o Z2t rfl rfl) rfl (alc rfl Z2t rfl (fun b16 => ?_))
     refine bg (fun w hs => ⟨(lh sc3 rfl rfl) w hs, (lhA [_, _, _, _] Z0J rfl rfl rfl) w hs, trivial⟩) ?_
     refine sto rfl rfl rfl Z5F rfl rfl rfl rfl ?_
     refine bgT (sqt 5 rfl (spL rfl rfl (lh Z29 rfl rfl) rfl (spL rfl rfl (lhA [_, _, _, _] Z0J rfl rfl rfl) rfl ?_)))
     refine spK rfl rfl rfl (Z63 hcm (Zdq (x := m40)) [t0, t1, t2, t3] rfl) rfl ?_
     have hl6 := (Z5v hcm [t0, t1, t2, t3]).1
     obtain ⟨ol, hol⟩ : ∃ ol, (Z05 cu [t0, t1, t2, t3]).getD zw = ol := ⟨_, rfl⟩
     rw [hol] at hl6 ⊢
     obtain ⟨o0, o1, o2, o3, o4, o5, rfl⟩ := Z59 hl6
     refine alc rfl Z2t rfl (fun b17 => ?_)
     refine sto rfl rfl rfl Z5F rfl rfl rfl rfl ?_
     refine sqt 10 rfl (spL rfl rfl (lhA [_, _, _, _, _, _] Z74 rfl rfl rfl) rfl (sp rfl (PE.build (out := [_, _, _, _, _, _]) Z8o Z2t rfl rfl) rfl (sp rfl (PE.eqlAgg [o0, o1, o2, o3, o4, o5] [0, 0, 0, 0, 0, 0] (Z0D 10000 149 true 6 ZaB) ZaH rfl rfl rfl rfl) rfl (pur 1 rfl ?_))))
     refine Zy 82 rfl ?_ ?_ <;> intro g82
     have hu : Z1A cu ([t0, t1, t2, t3], [s0, s1, s2, s3, (Z0z l : Int), w5 + (l.length : Int)]) = Z6k cu [t0, t1, t2, t3] [s0, s1, s2, s3, (Z0z l : Int), w5 + (l.length : Int)] := by unfold Z1A; dsimp only; rw [hol, show decide ([o0, o1, o2, o3, o4, o5] = zw) = true from g82]; rfl
     refine pur 6 rfl ?_
     refine Zv rfl ?_
     refine sqr 4 rfl (spL rfl rfl (lh Z29 rfl rfl) rfl (spL rfl rfl (lhA [_, _, _, _] Z0J rfl rfl rfl) rfl (spL rfl rfl (lhA [_, _, _, _, _, _] Z74 rfl rfl rfl) rfl ?_)))
     refine mpu (kvw cu) [t0, t1, t2, t3] (v := wvl [s0, s1, s2, s3, (Z0z l : Int), w5 + (l.length : Int)]) rfl Z35 (KeyT.of Z2w Z2u) rfl rfl rfl rfl (Z2d hcm) ?_
     rw [Z33]
     exact Zw (.inl ⟨rfl, rfl, rfl⟩) (fun w h => by rw [hcs2, hu]; exact (((h.del b17).del b16).del b14).ftail)
     refine spG rfl rfl rfl rfl (PE.fA Z1j rfl) rfl ?_
     refine Z25 rfl rfl rfl rfl rfl (lh sc3 rfl rfl) rfl ?_
     refine spG rfl rfl rfl rfl (PE.fA Z1j rfl) rfl ?_
     refine Z25 rfl rfl rfl rfl rfl (lh sc3 rfl rfl) rfl (pur 2 rfl ?_)
     refine Z2 rfl ?_ ?_ <;> intro hc3
     have hu : Z1A cu ([t0, t1, t2, t3], [s0, s1, s2, s3, (Z0z l : Int), w5 + (l.length : Int)]) = Z6k cu [t0, t1, t2, t3] [s0, s1, s2, s3, (Z0z l : Int), w5 + (l.length : Int)] := by unfold Z1A; dsimp only; rw [hol, show decide ([o0, o1, o2, o3, o4, o5] = zw) = false from g82, show decide (na [s0, s1, s2, s3, (Z0z l : Int), w5 + (l.length : Int)] 5 < na [o0, o1, o2, o3, o4, o5] 5) = true from hc3]; rfl
     refine sqr 4 rfl (spL rfl rfl (lh Z29 rfl rfl) rfl (spL rfl rfl (lhA [_, _, _, _] Z0J rfl rfl rfl) rfl (spL rfl rfl (lhA [_, _, _, _, _, _] Z74 rfl rfl rfl) rfl ?_)))
     refine mpu (kvw cu) [t0, t1, t2, t3] (v := wvl [s0, s1, s2, s3, (Z0z l : Int), w5 + (l.length : Int)]) rfl Z35 (KeyT.of Z2w Z2u) rfl rfl rfl rfl (Z2d hcm) ?_
     rw [Z33]
     exact Zw (.inl ⟨rfl, rfl, rfl⟩) (fun w h => by rw [hcs2, hu]; exact (((h.del b17).del b16).del b14).ftail)
     have hu : Z1A cu ([t0, t1, t2, t3], [s0, s1, s2, s3, (Z0z l : Int), w5 + (l.length : Int)]) = cu := by unfold Z1A; dsimp only; rw [hol, show decide ([o0, o1, o2, o3, o4, o5] = zw) = false from g82, show decide (na [s0, s1, s2, s3, (Z0z l : Int), w5 + (l.length : Int)] 5 < na [o0, o1, o2, o3, o4, o5] 5) = false from hc3]; rfl
     refine Z4 ?_
     exact Zw (.inl ⟨rfl, rfl, rfl⟩) (fun w h => by rw [hcs2, hu]; exact (((h.del b17).del b16).del b14).ftail)
     refine Zx ?_ ?_
     refine alc rfl Z2t rfl (fun b16 => ?_)
     refine bg (fun w hs => ⟨(lh sc3 rfl rfl) w hs, (lhA [_, _, _, _] Z0J rfl rfl rfl) w hs, trivial⟩) ?_
     refine clV rfl Zdc rfl rfl (Zcg l (fun k hk => by have h1 := hlt k hk; have h2 : b.dsk.n ≤ 4 := hdk.n.2; omega) hll a c _ _) ?_
     refine bg (fun w hs => ⟨(lh sc3 rfl rfl) w hs, (lhA [_, _, _, _] Z0J rfl rfl rfl) w hs, trivial⟩) ?_
     refine tk rfl (PE.build (out := [_, _, _, _, _, _]) Z8o Z2t rfl rfl) rfl ?_
     refine sto rfl rfl rfl Z5F rfl rfl rfl rfl ?_
     refine bgT (sqt 5 rfl (spL rfl rfl (lh Z29 rfl rfl) rfl (spL rfl rfl (lhA [_, _, _, _] Z0J rfl rfl rfl) rfl ?_)))
     refine spK rfl rfl rfl (Z63 hcm (Zdq (x := m40)) [t0, t1, t2, t3] rfl) rfl ?_
     have hl6 := (Z5v hcm [t0, t1, t2, t3]).1
     obtain ⟨ol, hol⟩ : ∃ ol, (Z05 cu [t0, t1, t2, t3]).getD zw = ol := ⟨_, rfl⟩
     rw [hol] at hl6 ⊢
     obtain ⟨o0, o1, o2, o3, o4, o5, rfl⟩ := Z59 hl6
     refine alc rfl Z2t rfl (fun b17 => ?_)
     refine sto rfl rfl rfl Z5F rfl rfl rfl rfl ?_
     refine sqt 10 rfl (spL rfl rfl (lhA [_, _, _, _, _, _] Z74 rfl rfl rfl) rfl (sp rfl (PE.build (out := [_, _, _, _, _, _]) Z8o Z2t rfl rfl) rfl (sp rfl (PE.eqlAgg [o0, o1, o2, o3, o4, o5] [0, 0, 0, 0, 0, 0] (Z0D 10000 149 true 6 ZaB) ZaH rfl rfl rfl rfl) rfl (pur 1 rfl ?_))))
     refine Zy 82 rfl ?_ ?_ <;> intro g82
     have hu : Z1A cu ([t0, t1, t2, t3], [s0, s1, s2, s3, (Z0z l : Int), w5 + (l.length : Int)]) = Z6k cu [t0, t1, t2, t3] [s0, s1, s2, s3, (Z0z l : Int), w5 + (l.length : Int)] := by unfold Z1A; dsimp only; rw [hol, show decide ([o0, o1, o2, o3, o4, o5] = zw) = true from g82]; rfl
     refine pur 6 rfl ?_
     refine Zv rfl ?_
     refine sqr 4 rfl (spL rfl rfl (lh Z29 rfl rfl) rfl (spL rfl rfl (lhA [_, _, _, _] Z0J rfl rfl rfl) rfl (spL rfl rfl (lhA [_, _, _, _, _, _] Z74 rfl rfl rfl) rfl ?_)))
     refine mpu (kvw cu) [t0, t1, t2, t3] (v := wvl [s0, s1, s2, s3, (Z0z l : Int), w5 + (l.length : Int)]) rfl Z35 (KeyT.of Z2w Z2u) rfl rfl rfl rfl (Z2d hcm) ?_
     rw [Z33]
     exact Zw (.inl ⟨rfl, rfl, rfl⟩) (fun w h => by rw [hcs2, hu]; exact (((h.del b17).del b16).del b14).ftail)
     refine spG rfl rfl rfl rfl (PE.fA Z1j rfl) rfl ?_
     refine Z25 rfl rfl rfl rfl rfl (lh sc3 rfl rfl) rfl ?_
     refine spG rfl rfl rfl rfl (PE.fA Z1j rfl) rfl ?_
     refine Z25 rfl rfl rfl rfl rfl (lh sc3 rfl rfl) rfl (pur 2 rfl ?_)
     refine Z2 rfl ?_ ?_ <;> intro hc3
     have hu : Z1A cu ([t0, t1, t2, t3], [s0, s1, s2, s3, (Z0z l : Int), w5 + (l.length : Int)]) = Z6k cu [t0, t1, t2, t3] [s0, s1, s2, s3, (Z0z l : Int), w5 + (l.length : Int)] := by unfold Z1A; dsimp only; rw [hol, show decide ([o0, o1, o2, o3, o4, o5] = zw) = false from g82, show decide (na [s0, s1, s2, s3, (Z0z l : Int), w5 + (l.length : Int)] 5 < na [o0, o1, o2, o3, o4, o5] 5) = true from hc3]; rfl
     refine sqr 4 rfl (spL rfl rfl (lh Z29 rfl rfl) rfl (spL rfl rfl (lhA [_, _, _, _] Z0J rfl rfl rfl) rfl (spL rfl rfl (lhA [_, _, _, _, _, _] Z74 rfl rfl rfl) rfl ?_)))
     refine mpu (kvw cu) [t0, t1, t2, t3] (v := wvl [s0, s1, s2, s3, (Z0z l : Int), w5 + (l.length : Int)]) rfl Z35 (KeyT.of Z2w Z2u) rfl rfl rfl rfl (Z2d hcm) ?_
     rw [Z33]
     exact Zw (.inl ⟨rfl, rfl, rfl⟩) (fun w h => by rw [hcs2, hu]; exact (((h.del b17).del b16).del b14).ftail)
     have hu : Z1A cu ([t0, t1, t2, t3], [s0, s1, s2, s3, (Z0z l : Int), w5 + (l.length : Int)]) = cu := by unfold Z1A; dsimp only; rw [hol, show decide ([o0, o1, o2, o3, o4, o5] = zw) = false from g82, show decide (na [s0, s1, s2, s3, (Z0z l : Int), w5 + (l.length : Int)] 5 < na [o0, o1, o2, o3, o4, o5] 5) = false from hc3]; rfl
     refine Z4 ?_
     exact Zw (.inl ⟨rfl, rfl, rfl⟩) (fun w h => by rw [hcs2, hu]; exact (((h.del b17).del b16).del b14).ftail)
     exact ZP
     rintro _ _ _ _ ⟨rfl, rfl, rfl, rfl⟩
     refine Z8N ?_
     exact Zw (.inl ⟨rfl, _, rfl, rfl, rfl⟩) (fun w h => by rw [hnk]; exact ((h.del b11).del b10).ftail.ftail)
   rintro _ _ _ _ ⟨rfl, rfl, rfl, rfl⟩
   refine Z8N ?_
   refine sqr 5 rfl (spL rfl rfl (lh Z64 rfl rfl) rfl (spL rfl rfl (lh Z29 rfl rfl) rfl ?_))
   refine bsl (out := [_]) rfl ZcE Zbe rfl rfl rfl rfl rfl rfl (fun b94 => ?_)
   rw [← hrf]
   refine Sy.heap (H' := (b94, cel 150 [.map (some m40)]) :: (bd0, .deferred (some [])) :: (b9, cel 150 [.map (some m40)]) :: (m40, Z0h true (kvw (Z4V b.dsk (ZV b.dsk b.state d) b.dsk.nst))) :: (b8, cel 3 [.int .i64 d]) :: (b7, cel 151 [o.fs]) :: (b3, cel 3 [.int .i64 days]) :: (b2, cel 80 [.pointer (some ⟨bd, 0, none⟩)]) :: (o.G ++ (mkh mk ++ H))) (fun w h => by rw [hrG]; exact h) ?_
   refine apO (o) rfl Zex rfl rfl (Z3g (row := [.map (some m40)]) rfl) rfl rfl ((by rw [Z2c]; simp only [List.length_singleton]; omega)) rfl (fun o95 => ?_)
   refine ZQ (l' := [o95.fs]) rfl rfl rfl Zd1 rfl (by rw [o95.cells.1]; first | done | rfl) (by rw [o95.cells.1]; simp [o95.cells.2]) (by rw [o95.cells.1]; first | done | rfl) (by rw [o95.cells.1]; first | done | exact Nat.le_refl _) ?_
   refine sqr 2 rfl (sp rfl (PE.add rfl rfl (by omega)) rfl (pur 1 rfl ?_))
   exact Zaf ⟨⟨(d + 1, ms ++ [(m40, (Z4V b.dsk (ZV b.dsk b.state d) b.dsk.nst))], bd0 :: mk), by dsimp only; omega, MsOk.snoc ⟨hml, hmg⟩ m40⟩, o95.cast (Z67 ms m40 _).symm⟩ (by dsimp only; omega) (by repeat' first | exact Sub.nil | apply Sub.cons | rfl | (simp [lk]; omega)) rfl (fun w h => St.sub ((St.maps (ms := ms) ((((h.del b94).del b9).del b8).pull m40)).perm (Z0g [_] ([_, _, _] ++ o95.G) _)))
  ·
   obtain rfl : days = d := by omega
   refine Zb (Zc (Zc (ZA (sqt 1 rfl (alc rfl Z4u rfl (fun b18 => sqt 4 rfl (alc rfl zl3 rfl (fun b19 => alc rfl zl4 rfl (fun b20 => ?_)))))))))
   refine sto rfl rfl rfl cn3 rfl rfl rfl rfl ?_
   refine sto rfl rfl rfl cn4 rfl rfl rfl rfl ?_
   refine Z0 (sqt 2 rfl (spL rfl rfl (lh Z3r rfl rfl) rfl ?_))
   refine cl rfl Zc8 rfl rfl (Z4d bd _ _) ?_
   rintro _ _ _ ⟨xb, rfl, rfl, rfl⟩
   refine Z3 ?_
   refine Z2K rfl Zb7 (fun c2 bl2 bd2 hcp2 hca2 hcb2 hck2 => ?_)
   refine ⟨fun st pend T R' => st = .ready ∧ pend = none ∧ T = (bd2, .deferred (some [])) :: (b20, cel 4 [.bool (Z0f b.dsk (ZV b.dsk b.state days) b.dsk.nst).isSome]) :: (b19, cel 3 [.int .i64 (bN (Z0f b.dsk (ZV b.dsk b.state days) b.dsk.nst))]) :: (b18, cel 83 (Za (bS (Z0f b.dsk (ZV b.dsk b.state days) b.dsk.nst)))) :: (b7, cel 151 [.slice (some ⟨br, 0, none⟩) ms.length cr]) :: (b3, cel 3 [.int .i64 days]) :: (b2, cel 80 [.pointer (some ⟨bd, 0, none⟩)]) :: (br, cel 150 (Z15 ms ++ jr)) :: (mkh mk ++ H) ∧ R' = RowsA (some ⟨xb, 0, none⟩) 1 [[.pointer (some ⟨bd, 0, none⟩)]] :: Z1N ms :: R,
     Fn.mono (Z31 b hok ab cb bd m xb bl2 (fun k H' R' => H' = (bl2, lob c2 .ready none) :: (bd2, .deferred (some [])) :: (b20, cel 4 [.bool (Z0f b.dsk (ZV b.dsk b.state days) k).isSome]) :: (b19, cel 3 [.int .i64 (bN (Z0f b.dsk (ZV b.dsk b.state days) k))]) :: (b18, cel 83 (Za (bS (Z0f b.dsk (ZV b.dsk b.state days) k)))) :: (b7, cel 151 [.slice (some ⟨br, 0, none⟩) ms.length cr]) :: (b3, cel 3 [.int .i64 days]) :: (b2, cel 80 [.pointer (some ⟨bd, 0, none⟩)]) :: (br, cel 150 (Z15 ms ++ jr)) :: (mkh mk ++ H) ∧ R' = RowsA (some ⟨xb, 0, none⟩) 1 [[.pointer (some ⟨bd, 0, none⟩)]] :: Z1N ms :: R) (fun _ _ => False)
       (fun k H' R' h => by obtain ⟨_, rfl⟩ := h; exact ⟨by simp, List.mem_cons_of_mem _ (List.mem_cons_of_mem _ hD.mem)⟩) (fun k s q oo H' R' hk hI => ?_) _ _ ⟨rfl, rfl⟩) (fun v H' R' h => ?_), ?_⟩
   rotate_left
   · rcases h with ⟨rfl, rfl⟩ | h
     · exact ⟨.ready, none, _, by simp, .refl _, rfl, rfl, rfl, rfl⟩
     · exact h.elim
   rotate_left
   have hmem := List.mem_of_getElem? hk
   have hsi := (b.dsk.mem_sts hdk s).1 hmem
   obtain ⟨s0, s1, s2, s3, rfl⟩ := Z0x hsi.len
   have hbs := Z73 (m := (ZV b.dsk b.state days)) hk
   have hbl := Z53 hdk (ZV b.dsk b.state days) k
   obtain ⟨hw6, hw4, hw5⟩ := Z5v hmok [s0, s1, s2, s3]
   obtain ⟨wo, hwo⟩ : ∃ wo, Z05 (ZV b.dsk b.state days) [s0, s1, s2, s3] = wo := ⟨_, rfl⟩
   rw [hwo] at hw6 hw4 hw5
   obtain ⟨rfl, rfl⟩ := hI
   obtain ⟨acc, hacc⟩ : ∃ acc, (Z0f b.dsk (ZV b.dsk b.state days) k) = acc := ⟨_, rfl⟩
   rw [hacc] at hbs hbl ⊢
   refine Z8m hcp2 hca2 hcb2 hck2 rfl ?_
   refine sqr 2 rfl (alc rfl Z4u rfl (fun b21 => ?_))
   refine sto rfl rfl rfl Z4I rfl rfl rfl rfl ?_
   refine Z09 ?_
   refine Z3 (Z0 ?_)
   refine Z8 [0, 0, 3, 7, 0, 31, 63, 127, 127, 0, 767, 2047] (.ld 0 (.ld 1 (.tk 2 (.ld 3 (.ld 4 (.ld 5 (tks 6 3 (.big 9 (.big 10 (.tk 11 .done)))))))))) Zr (by kernel_rfl) ?_
   refine ld rfl rfl (lh Z64 rfl rfl) rfl (ld rfl rfl (lh sc3 rfl rfl) rfl (tk rfl (PE.indexAddr Zbg rfl rfl (by omega) (by omega)) rfl (ld rfl rfl (lh Z29 rfl (Z3X hmj (by show 0 + ((days : Nat) : Int).toNat * 1 = days; omega))) rfl (ld rfl rfl (lhA [_, _, _, _] Z0J rfl rfl rfl) rfl ?_))))
   refine ldK rfl rfl rfl (Z40 hmok (Z1n (List.mem_of_getElem? hmj)) [s0, s1, s2, s3] rfl hwo) rfl ?_
   refine Zg 3 rfl (alc rfl Z2t rfl (fun b22 => ?_))
   refine bg (fun w hs => ⟨(Z40 hmok (Z1n (List.mem_of_getElem? hmj)) [s0, s1, s2, s3] rfl hwo) w hs, (lhA [_, _, _, _] Z0J rfl rfl rfl) w hs, (lh Z29 rfl (Z3X hmj (by show 0 + ((days : Nat) : Int).toNat * 1 = days; omega))) w hs, (lh sc3 rfl rfl) w hs, (lh Z64 rfl rfl) w hs, trivial⟩) ?_
   refine Z2l (vs := Za (wo.getD zw)) rfl rfl rfl Z5F rfl (by rw [ints_length]; exact hw6) rfl (Zs _) ?_
   refine bgT (Zg 1 rfl (sqt 11 rfl (pur 2 rfl ?_)))
   refine Zy 110 rfl ?_ ?_ <;> intro g110
   obtain ⟨w, rfl⟩ : ∃ w, wo = some w := Option.isSome_iff_exists.1 g110
   obtain ⟨w0, w1, w2, w3, w4, w5, rfl⟩ := Z59 (show w.length = 6 from hw6)
   refine Z25 rfl rfl rfl rfl rfl (lh sc4 rfl rfl) rfl (pur 2 rfl ?_)
   refine Zy 113 rfl ?_ ?_ <;> intro g113
   have han : acc = none := by cases acc with
     | none => rfl
     | some w => cases g113
   subst han
   have hb2 : (Z0f b.dsk (ZV b.dsk b.state days) (k + 1)) = some ([s0, s1, s2, s3], w5) := by rw [hbs]; unfold Z2N; rw [hwo]; rfl
   refine pur 6 rfl ?_
   refine Zv rfl ?_
   refine Z8 [0, 0, 2, 1, 15, 31] (.ld 0 (.tk 1 (.ld 2 (.big 3 (.big 4 (.big 5 .done)))))) Zr (by kernel_rfl) ?_
   refine ld rfl rfl (lhA [_, _, _, _] Z0J rfl rfl rfl) rfl (tk rfl (PE.fA Z1j rfl) rfl (ld rfl rfl (lh sc3 rfl rfl) rfl ?_))
   refine sto rfl rfl rfl Z4I rfl rfl rfl rfl ?_
   refine bg (fun w hs => ⟨(lh sc3 rfl rfl) w hs, trivial, trivial⟩) ?_
   refine sto rfl rfl rfl cn3 rfl rfl rfl rfl ?_
   refine bgT ?_
   refine sto rfl rfl rfl cn4 rfl rfl rfl rfl ?_
   refine bgT ?_
   exact Zw (.inl ⟨rfl, _, rfl, rfl, rfl⟩) (fun w h => by rw [hb2]; exact (h.del b22).del b21)
   obtain ⟨⟨ta, nn⟩, rfl⟩ : ∃ p, acc = some p := by cases acc with
     | none => cases g113
     | some p => exact ⟨p, rfl⟩
   obtain ⟨a0, a1, a2, a3, rfl⟩ := Z0x (show ta.length = 4 from hbl)
   refine spG rfl rfl rfl rfl (PE.fA Z1j rfl) rfl ?_
   refine Z25 rfl rfl rfl rfl rfl (lh sc3 rfl rfl) rfl (Z25 rfl rfl rfl rfl rfl (lh sc3 rfl rfl) rfl (pur 3 rfl ?_))
   refine Z2 rfl ?_ ?_ <;> intro hc4
   have hb2 : (Z0f b.dsk (ZV b.dsk b.state days) (k + 1)) = some ([s0, s1, s2, s3], w5) := by rw [hbs]; unfold Z2N; rw [hwo]; dsimp only; rw [show decide (na [w0, w1, w2, w3, w4, w5] 5 < nn) = true from hc4]; rfl
   refine Z8 [0, 0, 2, 1, 15, 31] (.ld 0 (.tk 1 (.ld 2 (.big 3 (.big 4 (.big 5 .done)))))) Zr (by kernel_rfl) ?_
   refine ld rfl rfl (lhA [_, _, _, _] Z0J rfl rfl rfl) rfl (tk rfl (PE.fA Z1j rfl) rfl (ld rfl rfl (lh sc3 rfl rfl) rfl ?_))
   refine sto rfl rfl rfl Z4I rfl rfl rfl rfl ?_
   refine bg (fun w hs => ⟨(lh sc3 rfl rfl) w hs, trivial, trivial⟩) ?_
   refine sto rfl rfl rfl cn3 rfl rfl rfl rfl ?_
   refine bgT ?_
   refine sto rfl rfl rfl cn4 rfl rfl rfl rfl ?_
   refine bgT ?_
   exact Zw (.inl ⟨rfl, _, rfl, rfl, rfl⟩) (fun w h => by rw [hb2]; exact (h.del b22).del b21)
   have hb2 : (Z0f b.dsk (ZV b.dsk b.state days) (k + 1)) = some ([a0, a1, a2, a3], nn) := by rw [hbs]; unfold Z2N; rw [hwo]; dsimp only; rw [show decide (na [w0, w1, w2, w3, w4, w5] 5 < nn) = false from hc4]; rfl
   refine Z4 ?_
   exact Zw (.inl ⟨rfl, _, rfl, rfl, rfl⟩) (fun w h => by rw [hb2]; exact (h.del b22).del b21)
   have hwn : wo = none := by cases wo with
     | none => rfl
     | some w => cases g110
   have hb2 : (Z0f b.dsk (ZV b.dsk b.state days) (k + 1)) = acc := by rw [hbs]; unfold Z2N; rw [hwo.trans hwn]
   refine pur 3 rfl ?_
   repeat refine spU rfl rfl rfl rfl rfl rfl rfl ?_
   refine pur 2 rfl ?_
   refine ZD rfl ?_
   refine Z4 ?_
   exact Zw (.inl ⟨rfl, _, rfl, rfl, rfl⟩) (fun w h => by rw [hb2]; exact (h.del b22).del b21)
   rintro _ _ _ _ ⟨rfl, rfl, rfl, rfl⟩
   have hbl := Z53 hdk (ZV b.dsk b.state days) b.dsk.nst
   obtain ⟨acc, hacc⟩ : ∃ acc, (Z0f b.dsk (ZV b.dsk b.state days) b.dsk.nst) = acc := ⟨_, rfl⟩
   rw [hacc] at hbl ⊢
   refine Z8N ?_
   refine Z0 (sqt 2 rfl (spL rfl rfl (lh sc4 rfl rfl) rfl (pur 1 rfl ?_)))
   refine Z2 rfl ?_ ?_ <;> intro hc5
   have han : acc = none := by cases acc with
     | none => rfl
     | some w => cases hc5
   subst han
   refine sqt 3 rfl (pur 3 rfl (Z1 ?_))
   refine Sy.heap (H' := mkh (bd2 :: mk) ++ H) (R' := R) (fun w h => St.sub (((((((h.del b20).del b19).del b18).del b7).del b3).del b2).del br)) ?_
   exact Z0S (bd2 :: mk) idH rfl (.cons (RV.tmp rfl) (.cons (RV.tmp rfl) (.cons (RV.tmp rfl) .nil))) rfl ⟨rfl, .inl ⟨hacc, rfl, rfl⟩⟩ idH
   obtain ⟨⟨sb, nb⟩, rfl⟩ : ∃ p, acc = some p := by cases acc with
     | none => cases hc5
     | some p => exact ⟨p, rfl⟩
   have hsb : sb.length = 4 := hbl
   refine Z4 (sqt 3 rfl (spL rfl rfl (lh sc3 rfl rfl) rfl ?_))
   refine mkS rfl Zg7 Zcu rfl rfl (Nat.le_refl _) ⟨by omega, by omega⟩ rfl (fun b126 => ?_)
   rw [Zf1]
   refine pur 1 rfl (Z0 (sqt 2 rfl (spL rfl rfl (lh sc3 rfl rfl) rfl (pur 1 rfl (Z3 ?_)))))
   refine Ze (ι := {x : Nat × HSt × List PL // x.1 ≤ days ∧ x.2.1.length = 4 ∧ x.2.2.length + x.1 = days ∧ (Z0K b.dsk b.state days sb).map il = (Z0K b.dsk b.state x.1 x.2.1).map il ++ lls x.2.2}) (fun x => ⟨[(7, .pointer (some ⟨b7, 0, none⟩)), (18, .pointer (some ⟨b18, 0, none⟩)), (19, .pointer (some ⟨b19, 0, none⟩)), (24, .slice (some ⟨b126, 0, none⟩) days days), (25, .int .i64 x.1.1)], (b126, cel 91 (List.replicate x.1.1 (.slice none 0 0) ++ (Zz x.1.2.2).flatten)) :: (bd2, .deferred (some [])) :: (b20, cel 4 [.bool true]) :: (b19, cel 3 [.int .i64 nb]) :: (b18, cel 83 (Za x.1.2.1)) :: (b7, cel 151 [.slice (some ⟨br, 0, none⟩) ms.length cr]) :: (b3, cel 3 [.int .i64 days]) :: (b2, cel 80 [.pointer (some ⟨bd, 0, none⟩)]) :: (br, cel 150 (Z15 ms ++ jr)) :: (mkh mk ++ H), Inn x.1.2.2 :: RowsA (some ⟨xb, 0, none⟩) 1 [[.pointer (some ⟨bd, 0, none⟩)]] :: Z1N ms :: R⟩) (fun x => x.1.1) ⟨(days, sb, []), Nat.le_refl _, hsb, by simp, by simp [lls]⟩ ?_ (fun x => ?_)
   exact Zl (fun w h => by dsimp only; rw [show (Zz []).flatten = [] from rfl, List.append_nil]; exact h.also fun _ _ y hy => by cases hy)
   obtain ⟨⟨j, sj, pl⟩, hj, hjs, hjl, hjb⟩ := x
   dsimp only at hj hjs hjl hjb ⊢
   refine Z0 (sqt 2 rfl (pur 2 rfl ?_))
   refine Z2 rfl ?_ ?_ <;> intro hc6 <;> try simp only [cS] at hc6
   obtain ⟨i, rfl⟩ : ∃ i, j = i + 1 := ⟨j - 1, by omega⟩
   obtain ⟨s0, s1, s2, s3, rfl⟩ := Z0x hjs
   obtain ⟨mi, hmi⟩ := hmg (i + 1) (by omega)
   have hmo := Z5D hdk hs0 (i + 1)
   obtain ⟨hw6, hw4, _⟩ := Z5v hmo [s0, s1, s2, s3]
   obtain ⟨wo, hwo⟩ : ∃ wo, (Z05 (ZV b.dsk b.state (i + 1)) [s0, s1, s2, s3]).getD zw = wo := ⟨_, rfl⟩
   rw [hwo] at hw6 hw4
   obtain ⟨w0, w1, w2, w3, w4, w5, rfl⟩ := Z59 hw6
   have hw4' : 0 ≤ w4 ∧ w4 < 16 := hw4
   obtain ⟨n4, rfl⟩ : ∃ n : Nat, w4 = n := ⟨w4.toNat, by omega⟩
   have hback : Z0K b.dsk b.state (i + 1) [s0, s1, s2, s3] = Z0K b.dsk b.state i [w0, w1, w2, w3] ++ [ZF 4 n4] := by
     show Z0K b.dsk b.state i (((Z05 (ZV b.dsk b.state (i + 1)) [s0, s1, s2, s3]).getD zw).take 4) ++ [ZF 4 (na ((Z05 (ZV b.dsk b.state (i + 1)) [s0, s1, s2, s3]).getD zw) 4).toNat] = _
     rw [hwo]; rfl
   refine Z4 (Z0 (Z3 (Z0 ?_)))
   refine Z8 [0, 0, 3, 7, 0, 31, 0, 127] (.ld 0 (.tk 1 (.tk 2 (.ld 3 (.ld 4 (.ld 5 (.big 6 (.big 7 .done)))))))) Zr (by kernel_rfl) ?_
   refine ld rfl rfl (lh Z64 rfl rfl) rfl (Zg 1 rfl (tk rfl (PE.indexAddr Zbg rfl rfl (by omega) (by omega)) rfl (ld rfl rfl (lh Z29 rfl (Z3X hmi (by show 0 + ((i + 1 : Nat) : Int).toNat * 1 = i + 1; omega))) rfl (ld rfl rfl (lhA [_, _, _, _] Z0J rfl rfl rfl) rfl ?_))))
   refine ldK rfl rfl rfl (Z6g hmo (Z1n (List.mem_of_getElem? hmi)) [s0, s1, s2, s3] rfl hwo) rfl ?_
   refine alc rfl Z2t rfl (fun b26 => ?_)
   refine bg (fun w hs => ⟨(Z6g hmo (Z1n (List.mem_of_getElem? hmi)) [s0, s1, s2, s3] rfl hwo) w hs, (lhA [_, _, _, _] Z0J rfl rfl rfl) w hs, (lh Z29 rfl (Z3X hmi (by show 0 + ((i + 1 : Nat) : Int).toNat * 1 = i + 1; omega))) w hs, (lh Z64 rfl rfl) w hs, trivial⟩) ?_
   refine sto rfl rfl rfl Z5F rfl rfl rfl rfl ?_
   refine bgT ?_
   refine Z8 [0, 0, 2, 0, 8, 24, 0, 64, 63, 319, 1023] (tks 0 4 (.ld 4 (.tk 6 (.ld 7 (.big 5 (.tk 8 (.big 9 (.big 10 .done)))))))) Zr (by kernel_rfl) ?_
   refine Zg 2 rfl (tk rfl (PE.sub rfl rfl (by omega)) rfl (tk rfl (PE.fA ZbF rfl) rfl (ld rfl rfl (lh sc3 rfl rfl) rfl (tk rfl (PE.fA Zc4 rfl) rfl (ld rfl rfl (lhA [_, _, _, _] Z0J rfl rfl rfl) rfl ?_)))))
   refine cl rfl Zew rfl rfl (ZdP n4 (by omega) _ _) ?_
   rintro _ _ _ ⟨ol, rfl, rfl, rfl⟩
   refine bg (fun w hs => ⟨(lhA [_, _, _, _] Z0J rfl rfl rfl) w hs, trivial, trivial⟩) ?_
   refine tk rfl (PE.indexAddr ZdZ rfl rfl (by omega) (by omega)) rfl ?_
   refine ZQ (l' := List.replicate i (.slice none 0 0) ++ (ol.fs :: (Zz pl).flatten)) rfl rfl rfl ZfX rfl (by rw [ol.cells.1]; first | done | rfl) (by rw [ol.cells.1]; simp [ol.cells.2]) (by rw [ol.cells.1]; exact Zaj (by show 0 + (((i + 1 : Nat) : Int) - 1).toNat * 1 = i; omega)) (by rw [ol.cells.1, List.length_append, List.length_replicate]; show 0 + (((i + 1 : Nat) : Int) - 1).toNat * 1 + 1 ≤ _; omega) ?_
   refine bg (fun w hs => ⟨(lhA [_, _, _, _] Z0J rfl rfl rfl) w hs, trivial⟩) ?_
   refine sto rfl rfl rfl Z4I rfl rfl rfl rfl ?_
   refine bgT (sqr 3 rfl ?_)
   obtain ⟨al, cl, he, hf⟩ := ol.freeze
   rw [he, Zq]
   refine Sy.heap (fun w h => hf h) ?_
   clear he hf
   refine pur 1 rfl (sp rfl (PE.sub rfl rfl (by omega)) rfl (pur 1 rfl ?_))
   rw [show (((i + 1 : Nat) : Int) - 1) = (i : Int) by omega]
   exact Zm ⟨(i, [w0, w1, w2, w3], ⟨al, cl, il (ZF 4 n4)⟩ :: pl), by dsimp only; omega, rfl, by simp only [List.length_cons]; omega, by rw [hjb, hback]; simp [lls]⟩ (fun w h => St.sub (St.innCons (a := al) (c := cl) (l0 := il (ZF 4 n4)) (l := pl) (h.del b26)))
   obtain rfl : j = 0 := by omega
   refine Zb (Zc (Zc (ZA (Z0 ?_))))
   refine Z8 [0, 0, 1, 7, 15] (.tk 0 (.ld 1 (tks 2 3 .done))) Zr (by kernel_rfl) ?_
   refine Zg 1 rfl (ld rfl rfl (lh sc3 rfl rfl) rfl (Zg 3 rfl (Z1 ?_)))
   refine Sy.heap (H' := mkh (bd2 :: mk) ++ H) (R' := RowsA (some ⟨b126, 0, none⟩) 1 (Zz pl) :: Inn pl :: R) (fun w h => St.sub (St.rows (sz := 1) (rows := Zz pl) (rest := []) (by rw [List.append_nil]; exact (((((((h.del b20).del b19).del b18).del b7).del b3).del b2).del br)) (fun r hr => by obtain ⟨x, _, rfl⟩ := List.mem_map.1 hr; rfl))) ?_
   exact Z0S (bd2 :: mk) idH rfl (.cons (RV.tmp rfl) (.cons (RV.tmp rfl) (.cons (RV.tmp rfl) .nil))) rfl ⟨rfl, .inr ⟨sb, nb, pl, b126, hacc, by rw [hjb]; rfl, rfl, rfl⟩⟩ idH
theorem Zdx : cal Tryz.prog 26 = true := by kernel_rfl
theorem Zfc : cal Tryz.prog 61 = true := by kernel_rfl
def planE (b : Barn) (days : Int) : Int := bif decide (b.check = 0) then (bif !(inB days 0 20) then 3 else (bif (Z0f b.dsk (ZV b.dsk b.state days.toNat) b.dsk.nst).isNone then 6 else 0)) else b.check
def turnsV (b : Barn) (days : Int) : Int := bif decide (planE b days = 0) then bN (Z0f b.dsk (ZV b.dsk b.state days.toNat) b.dsk.nst) else 0
def Z4W (b : Barn) (days : Int) : List (List Int) := (Z0K b.dsk b.state days.toNat (bS (Z0f b.dsk (ZV b.dsk b.state days.toNat) b.dsk.nst))).map il
def Zg5 (b : Barn) (days : Int) (H : Z7) (R : Z5) : Value → Z7 → Z5 → Prop := fun v H' R' => H' = H ∧
  ((planE b days ≠ 0 ∧ v = .tuple #[.slice none 0 0, .int .i64 0, .int .i64 (planE b days)] ∧ R' = R) ∨
   (planE b days = 0 ∧ ∃ (pl : List PL) (bp : Nat), lls pl = Z4W b days ∧ v = .tuple #[.slice (some ⟨bp, 0, none⟩) days.toNat days.toNat, .int .i64 (turnsV b days), .int .i64 0] ∧ R' = RowsA (some ⟨bp, 0, none⟩) 1 (Zz pl) :: Inn pl :: R))
def Ze8 (b : Barn) (days : Int) (H : Z7) (R : Z5) : Value → Z7 → Z5 → Prop := fun v H' R' => H' = H ∧
  ((planE b days ≠ 0 ∧ v = .tuple #[.slice none 0 0, .int .i64 (planE b days)] ∧ R' = R) ∨
   (planE b days = 0 ∧ ∃ (pl : List PL) (bp : Nat), lls pl = Z4W b days ∧ v = .tuple #[.slice (some ⟨bp, 0, none⟩) days.toNat days.toNat, .int .i64 0] ∧ R' = RowsA (some ⟨bp, 0, none⟩) 1 (Zz pl) :: Inn pl :: R))
theorem Z7y (b : Barn) (ab : Option Addr) (cb : Nat) (hl : b.bins.length ≤ 9223372036854775807) (hr : b.rise.length = 6) (days : Int) (H : Z7) (R : Z5) [hB : MemRows ab 4 (brows b.bins) R] :
    Fn Tryz.prog 26 [b.v (b.sl ab cb), .int .i64 days] H R (Zg5 b days H R) := by
 refine Z9 Tryz.func26 rfl Tryz.ntmps26 rfl ?_
 refine sqt 4 rfl (bx rfl rfl rfl (fun b2 => pur 3 rfl (sqt 7 rfl (spL rfl rfl (lhA (btl b (b.sl ab cb)) Zt rfl rfl rfl) rfl ?_))))
 refine cl rfl ZdE rfl rfl (Z2J b ab cb hl hr _ _) ?_
 rintro _ _ _ (⟨hck, rfl, rfl, rfl⟩ | ⟨hck, bd, m, rfl, rfl, rfl⟩)
 refine pur 5 rfl (Z0 (Z3 (sqt 3 rfl (pur 3 rfl ?_))))
 refine Zv (congrArg (fun b => some (Value.bool b)) (dT hck)) ?_
 refine sqt 4 rfl ?_
 have ese : planE b days = b.check := by unfold planE; rw [dF hck]; rfl
 refine pur 4 rfl (Z1 ?_)
 exact rtC rfl rfl rfl rfl rfl ⟨rfl, .inl ⟨by rw [ese]; exact hck, by rw [ese]; rfl, rfl⟩⟩ drp
 have hok := Barn.ok_of hr hck
 have hdk := b.dsk_ok hok
 have hl4 := hdk.lasts.len
 have hm4 := hdk.most.len
 refine pur 5 rfl (Z0 (Z3 (sqt 3 rfl (pur 3 rfl ?_))))
 refine ZD (rfl) ?_
 refine sqt 4 rfl (pur 1 rfl ?_)
 refine clV rfl Z4j rfl rfl (Z4x _ _ _ _ _) ?_
 refine pur 2 rfl ?_
 refine Z2 rfl ?_ ?_ <;> intro hc1
 have ese : planE b days = 3 := by unfold planE; rw [dT hck, hc1]; rfl
 refine sqt 3 rfl (pur 3 rfl (Z1 ?_))
 exact rtC rfl rfl rfl rfl rfl ⟨rfl, .inl ⟨by rw [ese]; decide, by rw [ese]; rfl, rfl⟩⟩ (fun w h => ((h.del b2).del m).ftail)
 have hin := hc1
 rw [Bool.not_eq_false'] at hin
 simp only [inB, Bool.and_eq_true, decide_eq_true_eq] at hin
 obtain ⟨n, rfl⟩ : ∃ n : Nat, days = n := ⟨days.toNat, by omega⟩
 refine Z4 (sqt 10 rfl (pur 2 rfl ?_))
 refine cl rfl Zfc rfl rfl (Zac b hok ab cb bd m n (by omega) _ _) ?_
 rintro _ _ R1 ⟨rfl, hQ⟩
 rcases hQ with ⟨hbn, rfl, hR1⟩ | ⟨sb, nb, pl, bp, hbn, hpl, rfl, hR1⟩ <;> obtain rfl := hR1.symm
 refine pur 7 rfl (Z0 (sqt 2 rfl ?_))
 have ese : planE b (n : Int) = 6 := by unfold planE; rw [dT hck, hc1, Int.toNat_natCast, hbn]; rfl
 refine pur 2 rfl ?_
 refine Zv rfl ?_
 refine sqt 3 rfl (pur 3 rfl (Z1 ?_))
 exact rtC rfl rfl rfl rfl rfl ⟨rfl, .inl ⟨by rw [ese]; decide, by rw [ese]; rfl, rfl⟩⟩ (fun w h => ((h.del b2).del m).ftail)
 refine pur 7 rfl (Z0 (sqt 2 rfl ?_))
 have ese : planE b (n : Int) = 0 := by unfold planE; rw [dT hck, hc1, Int.toNat_natCast, hbn]; rfl
 have etv : turnsV b (n : Int) = nb := by unfold turnsV; rw [decide_eq_true ese, Int.toNat_natCast, hbn]; rfl
 refine pur 2 rfl ?_
 refine ZD rfl ?_
 refine Z4 (sqt 5 rfl (pur 5 rfl (Z1 ?_)))
 exact rtC rfl rfl rfl rfl rfl ⟨rfl, .inr ⟨ese, pl, bp, by unfold Z4W; rw [Int.toNat_natCast, hbn]; exact hpl, by rw [etv]; rfl, rfl⟩⟩ (fun w h => St.sub ((h.del b2).del m))
theorem ZcT (b : Barn) (ab : Option Addr) (cb : Nat) (hl : b.bins.length ≤ 9223372036854775807) (hr : b.rise.length = 6) (days : Int) (H : Z7) (R : Z5) [hB : MemRows ab 4 (brows b.bins) R] :
    Fn Tryz.prog 12 [b.v (b.sl ab cb), .int .i64 days] H R (Ze8 b days H R) := by
 refine Z9 Tryz.func12 rfl Tryz.ntmps12 rfl ?_
 refine sqt 3 rfl (bx rfl rfl rfl (fun b2 => pur 2 rfl (sqt 10 rfl (spL rfl rfl (lhA (btl b (b.sl ab cb)) Zt rfl rfl rfl) rfl (pur 1 rfl ?_)))))
 refine cl rfl Zdx rfl rfl (Z7y b ab cb hl hr days _ _) ?_
 rintro _ _ R1 ⟨rfl, hQ⟩
 rcases hQ with ⟨hpe, rfl, hR1⟩ | ⟨hpe, pl, bp, hpl, rfl, hR1⟩ <;> obtain rfl := hR1.symm
 refine pur 7 rfl (sqt 4 rfl (pur 4 rfl (Z1 ?_)))
 exact rtB rfl rfl rfl rfl ⟨rfl, .inl ⟨hpe, rfl, rfl⟩⟩ drp
 refine pur 7 rfl (sqt 4 rfl (pur 4 rfl (Z1 ?_)))
 exact rtB rfl rfl rfl rfl ⟨rfl, .inr ⟨hpe, pl, bp, hpl, rfl, rfl⟩⟩ drp
theorem Z7o (b : Barn) (ab : Option Addr) (cb : Nat) (hl : b.bins.length ≤ 9223372036854775807) (hr : b.rise.length = 6) (days : Int) (H : Z7) (R : Z5) [hB : MemRows ab 4 (brows b.bins) R] :
    FnV Tryz.prog 37 [b.v (b.sl ab cb), .int .i64 days] H R (.tuple #[.int .i64 (turnsV b days), .int .i64 (planE b days)]) := by
 refine Z9 Tryz.func37 rfl Tryz.ntmps37 rfl ?_
 refine sqt 3 rfl (bx rfl rfl rfl (fun b2 => pur 2 rfl (sqt 10 rfl (spL rfl rfl (lhA (btl b (b.sl ab cb)) Zt rfl rfl rfl) rfl (pur 1 rfl ?_)))))
 refine cl rfl Zdx rfl rfl (Z7y b ab cb hl hr days _ _) ?_
 rintro _ _ R1 ⟨rfl, hQ⟩
 rcases hQ with ⟨hpe, rfl, hR1⟩ | ⟨hpe, pl, bp, hpl, rfl, hR1⟩ <;> obtain rfl := hR1.symm
 refine pur 7 rfl (sqt 4 rfl (pur 4 rfl (Z1 ?_)))
 exact rtB rfl rfl rfl rfl ⟨by unfold turnsV; rw [dF hpe]; rfl, rfl, rfl⟩ drp
 refine pur 7 rfl (sqt 4 rfl (pur 4 rfl (Z1 ?_)))
 exact rtB rfl rfl rfl rfl ⟨by rw [hpe]; rfl, rfl, rfl⟩ drp
theorem ZaX : cal Tryz.prog 13 = true := by kernel_rfl
theorem Zey : cal Tryz.prog 34 = true := by kernel_rfl
theorem Z4X : cal Tryz.prog 35 = true := by kernel_rfl
theorem Zfa : cal Tryz.prog 36 = true := by kernel_rfl
theorem Zer : cal Tryz.prog 37 = true := by kernel_rfl
theorem ZeB : cal Tryz.prog 38 = true := by kernel_rfl
theorem ZeS : cal Tryz.prog 39 = true := by kernel_rfl
theorem Zeu : cal Tryz.prog 40 = true := by kernel_rfl
theorem Zfp : cal Tryz.prog 41 = true := by kernel_rfl
theorem Zea : cal Tryz.prog 69 = true := by kernel_rfl
theorem ZfJ : elN Tryz.prog 98 = some 2 := by kernel_rfl
theorem Zae : eqB Tryz.prog 10000 46 = some (true, 2) := by kernel_rfl
theorem ZaS : Tryz.prog.eqGuardType Tryz.prog.depth 46 = false := by kernel_rfl
theorem ZbW : Z7v Tryz.prog 98 = true := by kernel_rfl
theorem Ze4 : Z0c Tryz.prog 53 = some [(0, 1), (1, 1), (2, 2)] := by kernel_rfl
theorem ZdU : slE Tryz.prog 56 = some (91, 1) := by kernel_rfl
theorem Zg4 : ZE Tryz.prog 34 = some ([.int .i64 0, .int .i64 0, .int .i64 0, .int .i64 0, .int .i64 0, .int .i64 0]) := by kernel_rfl
def thr (n : Nat) : Barn := ⟨20, 1, [0, 0, 6, 8, 10, 20], [⟨20, 40, 3, 4⟩, ⟨30, 50, 2, 3⟩, ⟨30, 40, 4, 4⟩].take n⟩
theorem ZbA {n : Nat} (h : n ≤ 3) : (thr n).bins.length = n := by simp [thr]; omega
theorem St.inn0 {H : Z7} {R : Z5} {w : World} (h : St H R w) : St H (Inn [] :: R) w := h.also fun _ _ y hy => by cases hy
theorem St.innN {l : List PL} {H : Z7} {R : Z5} {w : World} [m1 : MemF (Inn l) R] (h : St H R w) : St H (Inn (⟨none, 0, []⟩ :: l) :: R) w :=
  h.also fun _ hw y hy => by
    rcases List.mem_cons.1 hy with rfl | hy
    · exact fun i row hi => by simp at hi
    · exact hw _ m1.mem y hy
theorem ex_w : Z0q (thr 2) [[], [], []] 0 = 0 ∧ ZbX (thr 2) [[], [], []] 0 = [(28, 30), (36, 40), (44, 50)] := by decide +kernel
theorem ex_b : (thr 2).planned [[], [], [0]] = 0 ∧ ((thr 2).burnsF (thr 2).warms [[], [], [0]] 0).1 = some (2, 1) := by decide +kernel
theorem ex_k : (thr 2).planned [[], [0], [1]] = 0 ∧ ((thr 2).burnsF (thr 2).warms [[], [0], [1]] 0).1 = none := by decide +kernel
theorem ex_c : (thr 2).check = 0 ∧ (thr 3).check = 0 := by decide +kernel
theorem Z6A {d : Dsk} {s : HSt} {n : Nat} (hf : d.alive (n + 1) = d.alive n) (hs : s ∈ d.alive n) : Kpt d s 1000000 := .inl ⟨rfl, fun m => by
  rcases Nat.lt_or_ge m n with h | h
  · exact d.alive_le (by omega) hs
  · obtain ⟨k, rfl⟩ : ∃ k, m = n + k := ⟨m - n, by omega⟩
    rw [d.alive_fix hf]; exact hs⟩
theorem ex_l : (thr 2).dsk.alive 4 = (thr 2).dsk.alive 3 ∧ (thr 2).state ∈ (thr 2).dsk.alive 3 := by decide +kernel
theorem ex_t : planE (thr 2) 3 = 0 ∧ turnsV (thr 2) 3 = 2 := by decide +kernel
theorem ex_f : (thr 3).state ∈ (thr 3).dsk.alive 3 ∧ (thr 3).state ∉ (thr 3).dsk.alive 4 := by decide +kernel
theorem ex_s0 : (thr 3).state ∈ ((thr 3).withG 0).dsk.alive 1 ∧ (thr 3).state ∉ ((thr 3).withG 0).dsk.alive 2 := by decide +kernel
theorem ex_s2 : ((thr 3).withG 2).dsk.alive 4 = ((thr 3).withG 2).dsk.alive 3 ∧ (thr 3).state ∈ ((thr 3).withG 2).dsk.alive 3 := by decide +kernel
theorem ex_g : Z04 (thr 2) [] [[0], [1]] = 0 ∧ (thr 2).burnsF (thr 2).warms ([] ++ rep 1 [[0], [1]]) 0 = (none, [40, 28]) ∧ (thr 2).burnsF [40, 28] [[0], [1]] 0 = (none, [40, 28]) := by decide +kernel
theorem Z8J (xs ys : List (Int × Int)) (a a2 : Option Addr) (c c2 : Nat) (hl : xs.length ≤ 9223372036854775807) (hl2 : ys.length ≤ 9223372036854775807) (H : Z7) (R : Z5) [hR : MemRows a 2 (Z0a xs) R] [hR2 : MemRows a2 2 (Z0a ys) R] :
    FnV Tryz.prog 69 [.slice a xs.length c, .slice a2 ys.length c2] H R (.bool (decide (xs = ys))) := by
 refine Z9 Tryz.func69 rfl Tryz.ntmps69 rfl ?_
 refine sqt 1 rfl (pur 1 rfl (Z0 (sqt 5 rfl (pur 1 rfl (sp rfl (PE.lenSl ZbW rfl) rfl (pur 1 rfl (sp rfl (PE.lenSl ZbW rfl) rfl (pur 1 rfl ?_))))))))
 refine Z2 rfl ?_ ?_ <;> intro hc0
 have hne : xs ≠ ys := fun e => by subst e; simp at hc0
 refine sqt 1 rfl (pur 1 rfl (Z1 ?_))
 exact rtA rfl rfl rfl ⟨by first | (simp only [ZM]; rw [dT heq]; done) | (simp only [ZM]; rw [dF hne]), rfl, rfl⟩ idH
 have hle : xs.length = ys.length := by simp only [cS] at hc0; omega
 refine Z4 (Z0 (sqt 3 rfl (pur 1 rfl (sp rfl (PE.lenSl ZbW rfl) rfl (pur 1 rfl (Z3 ?_))))))
 refine Ze (ι := {k : Nat // k ≤ xs.length ∧ xs.take k = ys.take k}) (fun k => ⟨[(0, .slice a xs.length c), (1, .slice a2 ys.length c2), (12, .int .i64 xs.length), (13, .int .i64 k.1)], H, R⟩) (fun k => xs.length - k.1) ⟨0, by simp⟩ ?_ (fun k => ?_)
 exact Zl idH
 obtain ⟨k, hk, hn⟩ := k
 dsimp only
 refine sqt 1 rfl (pur 1 rfl (Z0 ?_))
 refine Z2 rfl ?_ ?_ <;> intro hc1
 simp only [cS] at hc1
 obtain ⟨x, hx⟩ : ∃ x, xs[k]? = some x := ⟨_, List.getElem?_eq_getElem (by omega)⟩
 obtain ⟨z, hz⟩ : ∃ z, ys[k]? = some z := ⟨_, List.getElem?_eq_getElem (by omega)⟩
 refine Zp (a := a) (sz := 2) (rows := Z0a xs) (by intro h0; simp [Z0a] at h0; simp [h0] at hx) (fun b off he => ?_)
 subst he
 refine Zp (a := a2) (sz := 2) (rows := Z0a ys) (by intro h0; simp [Z0a] at h0; simp [h0] at hz) (fun b2 off2 he => ?_)
 subst he
 refine Z4 (Z0 (Z3 (sqt 2 rfl (pur 2 rfl (Z0 ?_)))))
 refine Z8 [0, 0, 3, 7, 0, 0, 48, 112, 255] (tks 0 3 (.ld 3 (tks 4 3 (.ld 7 (.tk 8 .done))))) Zr (by kernel_rfl) ?_
 refine Zg 2 rfl (tk rfl (PE.indexAddr ZfJ rfl rfl (by omega) (by omega)) rfl (ld rfl rfl (lfA Z4c (row := Z7F x) (by simp [Z0a, hx]) rfl) rfl (Zg 2 rfl (tk rfl (PE.indexAddr ZfJ rfl rfl (by omega) (by omega)) rfl (ld rfl rfl (lfA Z4c (row := Z7F z) (by simp [Z0a, hz]) rfl) rfl (tk rfl (PE.neqAgg [x.1, x.2] [z.1, z.2] (Z0D 10000 46 true 2 Zae) ZaS rfl rfl rfl rfl) rfl ?_))))))
 refine Z2 rfl ?_ ?_ <;> intro hc2
 have hne : xs ≠ ys := fun e => by subst e; rw [hx] at hz; cases hz; simp at hc2
 refine sqt 1 rfl (pur 1 rfl (Z1 ?_))
 exact rtA rfl rfl rfl ⟨by first | (simp only [ZM]; rw [dT heq]; done) | (simp only [ZM]; rw [dF hne]), rfl, rfl⟩ idH
 have hxz : x = z := by cases x; cases z; simpa using hc2
 refine Z4 (sqr 2 rfl (sp rfl (PE.add rfl rfl (by omega)) rfl (pur 1 rfl ?_)))
 exact Zm ⟨k + 1, by omega, by rw [List.take_add_one, List.take_add_one, hn, hx, hz, hxz]⟩ idH
 simp only [cS] at hc1
 obtain rfl : k = xs.length := by omega
 have heq : xs = ys := by
   rw [List.take_length] at hn
   exact hn.trans (by rw [hle]; exact List.take_length)
 refine Zb (Zc (Zc (ZA (sqt 1 rfl (pur 1 rfl (Z1 ?_))))))
 exact rtA rfl rfl rfl ⟨by first | (simp only [ZM]; rw [dT heq]; done) | (simp only [ZM]; rw [dF hne]), rfl, rfl⟩ idH
theorem Z9d (xs ys : List (Int × Int)) (a a2 : Option Addr) (c c2 : Nat) (hl : xs.length ≤ 9223372036854775807) (hl2 : ys.length ≤ 9223372036854775807) (H : Z7) (R : Z5) [hR : MemRows a 2 (Z0a xs) R] [hR2 : MemRows a2 2 (Z0a ys) R] :
    FnV Tryz.prog 41 [.slice a xs.length c, .slice a2 ys.length c2] H R (.bool (decide (xs = ys))) := by
 refine Z9 Tryz.func41 rfl Tryz.ntmps41 rfl ?_
 refine sqt 1 rfl (pur 1 rfl (sqt 4 rfl (pur 2 rfl ?_)))
 refine clV rfl Zea rfl rfl (Z8J xs ys a a2 c c2 hl hl2 _ _) ?_
 refine pur 1 rfl (Z1 ?_)
 exact rtA rfl rfl rfl ⟨rfl, rfl, rfl⟩ drp
theorem Z9Z (xs ys : List HBin) (a a2 : Option Addr) (c c2 : Nat) (hl : xs.length ≤ 9223372036854775807) (hl2 : ys.length ≤ 9223372036854775807) (H : Z7) (R : Z5) [hR : MemRows a 4 (brows xs) R] [hR2 : MemRows a2 4 (brows ys) R] :
    FnV Tryz.prog 33 [.slice a xs.length c, .slice a2 ys.length c2] H R (.bool (decide (xs = ys))) := by
 refine Z9 Tryz.func33 rfl Tryz.ntmps33 rfl ?_
 refine sqt 1 rfl (pur 1 rfl (sqt 4 rfl (pur 2 rfl ?_)))
 refine clV rfl ZcG rfl rfl (Z6u xs ys a a2 c c2 hl hl2 _ _) ?_
 refine pur 1 rfl (Z1 ?_)
 exact rtA rfl rfl rfl ⟨rfl, rfl, rfl⟩ drp
theorem Z1k (n : Nat) (hn : n ≤ 3) (H : Z7) (R : Z5) :
    Fn Tryz.prog 35 [.int .i64 n] H R (fun v H' R' => ∃ ba, v = (thr n).v ((thr n).sl (some ⟨ba, 0, none⟩) 3) ∧ H' = H ∧ R' = RowsA (some ⟨ba, 0, none⟩) 4 (brows (thr n).bins) :: R) := by
 refine Z9 Tryz.func35 rfl Tryz.ntmps35 rfl ?_
 refine sqt 1 rfl (alc rfl Z0n rfl (fun b2 => sqt 8 rfl (sp rfl (PE.build (out := [_, _]) Z3s Z1t rfl rfl) rfl (sp rfl (PE.build (out := [_, _, _, _]) Ze4 Z79 rfl rfl) rfl (sp rfl (PE.build (out := [_, _]) Z3s Z1t rfl rfl) rfl (sp rfl (PE.build (out := [_, _, _, _]) Ze4 Z79 rfl rfl) rfl (sp rfl (PE.build (out := [_, _]) Z3s Z1t rfl rfl) rfl (sp rfl (PE.build (out := [_, _, _, _]) Ze4 Z79 rfl rfl) rfl ?_))))))))
 refine bsl (out := [_, _, _, _, _, _, _, _, _, _, _, _]) rfl Ze0 Z79 rfl rfl rfl rfl rfl rfl (fun b10 => ?_)
 refine pur 1 rfl (sqt 10 rfl (sp rfl (PE.buildArr (out := [_, _, _, _, _, _]) Zaq Zg4 rfl rfl) rfl (pur 3 rfl (sp rfl (PE.lenSl Z0G rfl) rfl (sp rfl (PE.min rfl rfl) rfl (sp rfl (PE.max rfl rfl) rfl (sp rfl (PE.slHi (h := n) Ze0 rfl (by rw [show (max (0 : Int) (min (n : Int) ((3 : Nat) : Int))) = (n : Int) by omega]; rfl) (by omega)) rfl (sp rfl (PE.build (out := [_, _, _, _, _, _, _, _, _]) Z5s Z0n rfl rfl) rfl ?_))))))))
 refine sto rfl rfl rfl Z02 rfl rfl rfl rfl ?_
 refine Z1 ?_
 refine Sy.heap (fun w h => St.rows (sz := 4) (rows := brows (thr 3).bins) (rest := []) (h.pull b10) (Z32 _)) ?_
 refine Sy.heap (R' := RowsA (some ⟨b10, 0, none⟩) 4 (brows (thr n).bins) :: R) (fun w h => (h.rowsTake (a := some ⟨b10, 0, none⟩) (rows := brows (thr 3).bins) n).facts (fun f hf => by
   rcases List.mem_cons.1 hf with h1 | h1
   · rw [h1, show brows (thr n).bins = (brows (thr 3).bins).take n from by simp [brows, thr, List.map_take]]; exact List.mem_cons_self
   · simp [h1])) ?_
 have hln := ZbA hn
 exact Z6 (vs := [_]) rfl (.cons (RV.cell rfl (lhA [_, _, _, _, _, _, _, _, _] Zt rfl rfl rfl)) .nil) rfl ⟨b10, by unfold Barn.sl; rw [hln]; rfl, rfl, rfl⟩ (fun w h => h.del b2)
set_option maxHeartbeats 2000000 in
theorem c_awake (H : Z7) (R : Z5) :
    FnV Tryz.prog 16 [] H R (.bool true) := by
 refine Z9 Tryz.func16 rfl Tryz.ntmps16 rfl ?_
 refine sqt 1 rfl (pur 1 rfl (sqt 8 rfl ?_))
 refine cl rfl Z4X rfl rfl (Z1k 2 (by decide) _ _) ?_
 rintro _ _ _ ⟨ba19, rfl, rfl, rfl⟩
 refine bsl (out := [_, _, _]) rfl ZdU Zcu rfl rfl rfl rfl rfl rfl (fun b20 => ?_)
 refine Sy.heap (fun w h => St.inn0 h) ?_
 refine Sy.heap (fun w h => St.innN (l := []) h) ?_
 refine Sy.heap (fun w h => St.innN (l := [⟨none, 0, []⟩]) h) ?_
 refine Sy.heap (fun w h => St.innN (l := [⟨none, 0, []⟩, ⟨none, 0, []⟩]) h) ?_
 refine Sy.heap (fun w h => St.rows (sz := 1) (rows := Zz [⟨none, 0, []⟩, ⟨none, 0, []⟩, ⟨none, 0, []⟩]) (rest := []) (h.pull b20) (by simp [Zz, Z77])) ?_
 refine cl rfl Zey rfl rfl (Z9v (thr 2) (some ⟨ba19, 0, none⟩) 3 (by decide) rfl [⟨none, 0, []⟩, ⟨none, 0, []⟩, ⟨none, 0, []⟩] (some ⟨b20, 0, none⟩) 3 (by simp) (fun x hx => by simp only [List.mem_cons, List.not_mem_nil, or_false] at hx; rcases hx with rfl | rfl | rfl <;> simp) 0 _ _) ?_
 rintro _ _ R1 ⟨hQ, hR1⟩
 obtain rfl := hR1.symm
 rcases hQ with ⟨hne, _, _⟩ | ⟨_, ow, rfl, rfl⟩
 exact absurd ex_w.1 hne
 obtain ⟨aw, cw, he, hf⟩ := (ow.cast (congrArg Z0a ex_w.2) : OSl 46 2 (Z0a [(28, 30), (36, 40), (44, 50)])).freeze
 rw [show ow.fs = _ from he]
 refine Sy.heap (fun w h => hf h) ?_
 clear he hf
 refine pur 5 rfl (sqt 11 rfl ?_)
 refine cl rfl Z4X rfl rfl (Z1k 2 (by decide) _ _) ?_
 rintro _ _ _ ⟨ba25, rfl, rfl, rfl⟩
 refine bsl (out := [_]) rfl Z5A zl3 rfl rfl rfl rfl rfl rfl (fun b26 => ?_)
 refine bsl (out := [_, _, _]) rfl ZdU Zcu rfl rfl rfl rfl rfl rfl (fun b27 => ?_)
 refine Sy.heap (fun w h => St.intRows (l := [0]) (h.pull b26)) ?_
 refine Sy.heap (fun w h => St.inn0 h) ?_
 refine Sy.heap (fun w h => St.innCons (a := some ⟨b26, 0, none⟩) (c := 1) (l0 := [0]) (l := []) h) ?_
 refine Sy.heap (fun w h => St.innN (l := [⟨some ⟨b26, 0, none⟩, 1, [0]⟩]) h) ?_
 refine Sy.heap (fun w h => St.innN (l := [⟨none, 0, []⟩, ⟨some ⟨b26, 0, none⟩, 1, [0]⟩]) h) ?_
 refine Sy.heap (fun w h => St.rows (sz := 1) (rows := Zz [⟨none, 0, []⟩, ⟨none, 0, []⟩, ⟨some ⟨b26, 0, none⟩, 1, [0]⟩]) (rest := []) (h.pull b27) (by simp [Zz, Z77])) ?_
 refine cl rfl Zfa rfl rfl (Zb8 (thr 2) (some ⟨ba25, 0, none⟩) 3 (by decide) rfl [⟨none, 0, []⟩, ⟨none, 0, []⟩, ⟨some ⟨b26, 0, none⟩, 1, [0]⟩] (some ⟨b27, 0, none⟩) 3 (by simp) (fun x hx => by simp only [List.mem_cons, List.not_mem_nil, or_false] at hx; rcases hx with rfl | rfl | rfl <;> simp) _ _) ?_
 rintro _ _ _ ⟨rfl, rfl, rfl⟩
 rw [show (thr 2).burnsV (lls [⟨none, 0, []⟩, ⟨none, 0, []⟩, ⟨some ⟨b26, 0, none⟩, 1, [0]⟩]) = .tuple #[.int .i64 2, .int .i64 1, .int .i64 0] from by unfold Barn.burnsV; rw [show lls [⟨none, 0, []⟩, ⟨none, 0, []⟩, ⟨some ⟨b26, 0, none⟩, 1, [0]⟩] = [[], [], [0]] from rfl, ex_b.1, ex_b.2]; rfl]
 refine pur 7 rfl (sqt 10 rfl ?_)
 refine cl rfl Z4X rfl rfl (Z1k 2 (by decide) _ _) ?_
 rintro _ _ _ ⟨ba33, rfl, rfl, rfl⟩
 refine bsl (out := [_]) rfl Z5A zl3 rfl rfl rfl rfl rfl rfl (fun b34 => ?_)
 refine bsl (out := [_]) rfl Z5A zl3 rfl rfl rfl rfl rfl rfl (fun b35 => ?_)
 refine bsl (out := [_, _, _]) rfl ZdU Zcu rfl rfl rfl rfl rfl rfl (fun b36 => ?_)
 refine Sy.heap (fun w h => St.intRows (l := [0]) (h.pull b34)) ?_
 refine Sy.heap (fun w h => St.intRows (l := [1]) (h.pull b35)) ?_
 refine Sy.heap (fun w h => St.inn0 h) ?_
 refine Sy.heap (fun w h => St.innCons (a := some ⟨b35, 0, none⟩) (c := 1) (l0 := [1]) (l := []) h) ?_
 refine Sy.heap (fun w h => St.innCons (a := some ⟨b34, 0, none⟩) (c := 1) (l0 := [0]) (l := [⟨some ⟨b35, 0, none⟩, 1, [1]⟩]) h) ?_
 refine Sy.heap (fun w h => St.innN (l := [⟨some ⟨b34, 0, none⟩, 1, [0]⟩, ⟨some ⟨b35, 0, none⟩, 1, [1]⟩]) h) ?_
 refine Sy.heap (fun w h => St.rows (sz := 1) (rows := Zz [⟨none, 0, []⟩, ⟨some ⟨b34, 0, none⟩, 1, [0]⟩, ⟨some ⟨b35, 0, none⟩, 1, [1]⟩]) (rest := []) (h.pull b36) (by simp [Zz, Z77])) ?_
 refine cl rfl ZaX rfl rfl (Z8X (thr 2) (some ⟨ba33, 0, none⟩) 3 (by decide) rfl [⟨none, 0, []⟩, ⟨some ⟨b34, 0, none⟩, 1, [0]⟩, ⟨some ⟨b35, 0, none⟩, 1, [1]⟩] (some ⟨b36, 0, none⟩) 3 (by simp) (fun x hx => by simp only [List.mem_cons, List.not_mem_nil, or_false] at hx; rcases hx with rfl | rfl | rfl <;> simp) _ _) ?_
 rintro _ _ _ ⟨rfl, rfl, rfl⟩
 rw [show (thr 2).keepsV (lls [⟨none, 0, []⟩, ⟨some ⟨b34, 0, none⟩, 1, [0]⟩, ⟨some ⟨b35, 0, none⟩, 1, [1]⟩]) = .tuple #[.bool true, .int .i64 0] from by unfold Barn.keepsV; rw [show lls [⟨none, 0, []⟩, ⟨some ⟨b34, 0, none⟩, 1, [0]⟩, ⟨some ⟨b35, 0, none⟩, 1, [1]⟩] = [[], [0], [1]] from rfl, ex_k.1, ex_k.2]; rfl]
 refine pur 5 rfl (sqt 7 rfl ?_)
 refine cl rfl Z4X rfl rfl (Z1k 2 (by decide) _ _) ?_
 rintro _ _ _ ⟨ba41, rfl, rfl, rfl⟩
 refine cl rfl Z8Q rfl rfl (Z3p (thr 2) (some ⟨ba41, 0, none⟩) 3 (by decide) rfl _ _) ?_
 rintro _ _ R1 ⟨hQ, rfl, hR1⟩
 obtain rfl := hR1.symm
 rcases hQ with ⟨hne, _⟩ | ⟨_, w, hw, rfl⟩
 exact absurd ex_c.1 hne
 obtain rfl := ZO hw (Z6A ex_l.1 ex_l.2)
 refine pur 5 rfl (sqt 7 rfl ?_)
 refine cl rfl Z4X rfl rfl (Z1k 2 (by decide) _ _) ?_
 rintro _ _ _ ⟨ba46, rfl, rfl, rfl⟩
 refine cl rfl Zer rfl rfl (Z7o (thr 2) (some ⟨ba46, 0, none⟩) 3 (by decide) rfl 3 _ _) ?_
 rintro _ _ _ ⟨rfl, rfl, rfl⟩
 rw [ex_t.1, ex_t.2]
 refine pur 5 rfl (sqt 7 rfl ?_)
 refine cl rfl Z4X rfl rfl (Z1k 3 (by decide) _ _) ?_
 rintro _ _ _ ⟨ba51, rfl, rfl, rfl⟩
 refine cl rfl ZeB rfl rfl (ZbV (thr 3) (some ⟨ba51, 0, none⟩) 3 (by decide) rfl _ _) ?_
 rintro _ _ R1 ⟨hQ, rfl, hR1⟩
 obtain rfl := hR1.symm
 rcases hQ with ⟨hne, _⟩ | ⟨_, w, hw, rfl⟩
 exact absurd ex_c.2 hne
 obtain rfl := ZO hw (.inr ⟨3, by decide, rfl, ex_f.1, ex_f.2⟩)
 refine pur 5 rfl (sqt 7 rfl ?_)
 refine cl rfl Z4X rfl rfl (Z1k 3 (by decide) _ _) ?_
 rintro _ _ _ ⟨ba56, rfl, rfl, rfl⟩
 refine cl rfl ZeS rfl rfl (Zby (thr 3) (some ⟨ba56, 0, none⟩) 3 (by decide) rfl _ _) ?_
 rintro v _ R1 ⟨hQ, rfl, hR1⟩
 obtain rfl := hR1.symm
 have e0 : (thr 3).ends 0 := ⟨1, by decide, .inr ⟨1, by decide, rfl, ex_s0.1, ex_s0.2⟩⟩
 have e1 : (thr 3).ends 1 := ⟨3, by decide, .inr ⟨3, by decide, rfl, ex_f.1, ex_f.2⟩⟩
 have k2 : Kpt ((thr 3).withG 2).dsk (thr 3).state 1000000 := Z6A ex_s2.1 ex_s2.2
 have k20 : ∀ g : Nat, g = 2 → Kpt ((thr 3).withG g).dsk (thr 3).state 1000000 := fun g hg => by subst hg; exact k2
 replace hQ : ∃ g : Nat, g = 2 ∧ v = .tuple #[.int .i64 g, .int .i64 0] := by
   rcases hQ with ⟨hne, _⟩ | ⟨_, ⟨g, hg, hge, hgk, rfl⟩ | ⟨hall, _⟩⟩
   · exact absurd ex_c.2 hne
   · refine ⟨g, ?_, rfl⟩
     have hg3 : g ≤ 3 := hg
     rcases Nat.lt_or_ge 2 g with h1 | h1
     · obtain ⟨w, hw, hk⟩ := hge 2 h1; exact absurd (ZO hk k2) hw
     · rcases Nat.lt_or_ge g 2 with h2 | h2
       · exfalso
         rcases (by omega : g = 0 ∨ g = 1) with rfl | rfl
         · obtain ⟨w, hw, hk⟩ := e0; exact hw (ZO hk hgk)
         · obtain ⟨w, hw, hk⟩ := e1; exact hw (ZO hk hgk)
       · omega
   · obtain ⟨w, hw, hk⟩ := hall 2 (by decide); exact absurd (ZO hk k2) hw
 obtain ⟨g, rfl, rfl⟩ := hQ
 refine pur 5 rfl (sqt 10 rfl ?_)
 refine cl rfl Z4X rfl rfl (Z1k 2 (by decide) _ _) ?_
 rintro _ _ _ ⟨ba61, rfl, rfl, rfl⟩
 refine bsl (out := [_]) rfl Z5A zl3 rfl rfl rfl rfl rfl rfl (fun b62 => ?_)
 refine bsl (out := [_]) rfl Z5A zl3 rfl rfl rfl rfl rfl rfl (fun b63 => ?_)
 refine bsl (out := [_, _]) rfl ZdU Zcu rfl rfl rfl rfl rfl rfl (fun b64 => ?_)
 refine Sy.heap (fun w h => h.also (f := RowsA none 1 (Zz [])) (fun _ _ i row hi => by simp [Zz] at hi)) ?_
 refine Sy.heap (fun w h => St.intRows (l := [0]) (h.pull b62)) ?_
 refine Sy.heap (fun w h => St.intRows (l := [1]) (h.pull b63)) ?_
 refine Sy.heap (fun w h => St.inn0 h) ?_
 refine Sy.heap (fun w h => St.innCons (a := some ⟨b63, 0, none⟩) (c := 1) (l0 := [1]) (l := []) h) ?_
 refine Sy.heap (fun w h => St.innCons (a := some ⟨b62, 0, none⟩) (c := 1) (l0 := [0]) (l := [⟨some ⟨b63, 0, none⟩, 1, [1]⟩]) h) ?_
 refine Sy.heap (fun w h => St.rows (sz := 1) (rows := Zz [⟨some ⟨b62, 0, none⟩, 1, [0]⟩, ⟨some ⟨b63, 0, none⟩, 1, [1]⟩]) (rest := []) (h.pull b64) (by simp [Zz, Z77])) ?_
 refine cl rfl Zeu rfl rfl (Zdr (thr 2) (some ⟨ba61, 0, none⟩) 3 (by decide) rfl [] none 0 (by decide) (fun x hx => by cases hx) [⟨some ⟨b62, 0, none⟩, 1, [0]⟩, ⟨some ⟨b63, 0, none⟩, 1, [1]⟩] (some ⟨b64, 0, none⟩) 2 (by simp) (fun x hx => by simp only [List.mem_cons, List.not_mem_nil, or_false] at hx; rcases hx with rfl | rfl <;> simp) _ _) ?_
 rintro _ _ R1 ⟨hQ, rfl, hR1⟩
 obtain rfl := hR1.symm
 rcases hQ with ⟨hne, _⟩ | ⟨_, is, his, rfl⟩
 exact absurd ex_g.1 hne
 obtain rfl : is = true := his.2 (Z6C (i := 1) ex_g.2.1 ex_g.2.2)
 refine pur 5 rfl (sqt 69 rfl (pur 3 rfl ?_))
 refine Zy 70 rfl ?_ ?_ <;> intro g70
 refine pur 4 rfl ?_
 refine Zy 74 rfl ?_ ?_ <;> intro g74
 refine pur 4 rfl ?_
 refine Zy 78 rfl ?_ ?_ <;> intro g78
 refine pur 4 rfl ?_
 refine Zy 82 rfl ?_ ?_ <;> intro g82
 refine pur 4 rfl ?_
 refine Zy 86 rfl ?_ ?_ <;> intro g86
 refine pur 4 rfl ?_
 refine Zy 90 rfl ?_ ?_ <;> intro g90
 refine pur 4 rfl ?_
 refine Zy 94 rfl ?_ ?_ <;> intro g94
 refine pur 4 rfl ?_
 refine Zy 98 rfl ?_ ?_ <;> intro g98
 refine pur 1 rfl ?_
 refine spG rfl rfl rfl rfl (PE.build (out := [_, _]) Z3s Z1t rfl rfl) rfl ?_
 refine spG rfl rfl rfl rfl (PE.build (out := [_, _]) Z3s Z1t rfl rfl) rfl ?_
 refine spG rfl rfl rfl rfl (PE.build (out := [_, _]) Z3s Z1t rfl rfl) rfl ?_
 refine ZfR (out := [_, _, _, _, _, _]) rfl rfl rfl rfl ZfN Z1t rfl rfl rfl rfl rfl rfl (fun b103 => ?_)
 refine Sy.heap (fun w h => St.rows (sz := 2) (rows := Z0a [(28, 30), (36, 40), (44, 50)]) (rest := []) (h.pull b103) (by simp [Z0a, Z7F])) ?_
 refine Z5r rfl rfl rfl rfl Zfp rfl rfl (Z9d [(28, 30), (36, 40), (44, 50)] [(28, 30), (36, 40), (44, 50)] aw (some ⟨b103, 0, none⟩) cw 3 (by decide) (by decide) _ _) ?_
 refine pur 2 rfl ?_
 refine Zy 106 rfl ?_ ?_ <;> intro g106
 refine pur 4 rfl ?_
 refine Zy 110 rfl ?_ ?_ <;> intro g110
 refine pur 4 rfl ?_
 refine Zy 114 rfl ?_ ?_ <;> intro g114
 refine pur 3 rfl ?_
 refine Zy 117 rfl ?_ ?_ <;> intro g117
 refine pur 4 rfl ?_
 refine Zy 121 rfl ?_ ?_ <;> intro g121
 refine pur 4 rfl ?_
 refine Zy 125 rfl ?_ ?_ <;> intro g125
 refine pur 4 rfl ?_
 refine Zy 129 rfl ?_ ?_ <;> intro g129
 refine pur 4 rfl ?_
 refine Zy 133 rfl ?_ ?_ <;> intro g133
 refine pur 3 rfl (Z1 ?_)
 exact rtA rfl rfl rfl ⟨rfl, rfl, rfl⟩ (fun w h => St.sub h)
 exact absurd g133 (by simp)
 exact absurd g129 (by simp)
 exact absurd g125 (by simp)
 exact absurd g121 (by simp)
 exact absurd g117 (by simp)
 exact absurd g114 (by simp)
 exact absurd g110 (by simp)
 exact absurd g106 (by simp)
 exact absurd g98 (by simp)
 exact absurd g94 (by simp)
 exact absurd g90 (by simp)
 exact absurd g86 (by simp)
 exact absurd g82 (by simp)
 exact absurd g78 (by simp)
 exact absurd g74 (by simp)
 exact absurd g70 (by simp)
theorem ZfH : Z1M Tryz.prog 34 = some 6 := by kernel_rfl
theorem Zfb : cal Tryz.prog 22 = true := by kernel_rfl
theorem ZeE : cal Tryz.prog 33 = true := by kernel_rfl
theorem Zeh : eqB Tryz.prog 10000 34 = some (true, 6) := by kernel_rfl
theorem ZfA : Tryz.prog.eqGuardType Tryz.prog.depth 34 = false := by kernel_rfl
def Z5P (a b : Barn) : Bool := decide (a.cool = b.cool) && decide (a.gangs = b.gangs) && decide (a.rise = b.rise) && decide (a.bins = b.bins)
theorem sameB_iff {a b : Barn} : Z5P a b = true ↔ a = b := by
  unfold Z5P
  simp only [Bool.and_eq_true, decide_eq_true_eq]
  constructor
  · rintro ⟨⟨⟨h1, h2⟩, h3⟩, h4⟩
    cases a; cases b; simp_all
  · rintro rfl; exact ⟨⟨⟨rfl, rfl⟩, rfl⟩, rfl⟩
theorem Z4a {a b : Barn} (ha : a.rise.length = 6) (hb : b.rise.length = 6) : decide (([na a.rise 0, na a.rise 1, na a.rise 2, na a.rise 3, na a.rise 4, na a.rise 5] : List Int) = [na b.rise 0, na b.rise 1, na b.rise 2, na b.rise 3, na b.rise 4, na b.rise 5]) = decide (a.rise = b.rise) := by
  rw [← Zcs ha, ← Zcs hb]
def nin (n lo hi : Int) : Bool := decide (n < lo) || decide (hi < n)
theorem Zde (n lo hi : Int) : nin n lo hi = !(inB n lo hi) := by
  unfold nin inB
  rw [Bool.not_and]
  congr 1
  · rw [← decide_not]; exact decide_eq_decide.2 (by omega)
  · rw [← decide_not]; exact decide_eq_decide.2 (by omega)
theorem Z7B (xs : List HBin) (a : Option Addr) (c : Nat) (hl : xs.length ≤ 1000000) (H : Z7) (R : Z5) [hR : MemRows a 4 (brows xs) R] :
    Fn Tryz.prog 22 [.slice a xs.length c] H R (fun v H' R' => ∃ o : OSl 53 4 (brows xs), v = o.fs ∧ o.here ∧ H' = o.G ++ H ∧ R' = R) := by
 refine Z9 Tryz.func22 rfl Tryz.ntmps22 rfl ?_
 refine sqt 1 rfl (pur 1 rfl (sqt 6 rfl (pur 1 rfl (sp rfl (PE.lenSl Z0G rfl) rfl ?_))))
 refine mkO rfl ZdS Z79 rfl rfl ⟨by omega, by omega⟩ rfl (fun o ho => ?_)
 refine pur 1 rfl ?_
 refine ZfS (news := brows xs) o rfl ZdS rfl rfl (Zfy) (by simp [brows]) (by simp [Z1S, brows, Z2s, Value.oneCell']) ⟨by simp [brows]; omega, by simp [brows]; omega⟩ rfl ho (fun o2 ho2 => ?_)
 refine pur 1 rfl (Z1 ?_)
 exact rtA rfl rfl rfl ⟨o2.cast (by simp), rfl, ho2, rfl, rfl⟩ idH
theorem c_Own (b : Barn) (ab : Option Addr) (cb : Nat) (hl : b.bins.length ≤ 1000000) (H : Z7) (R : Z5) [hB : MemRows ab 4 (brows b.bins) R] :
    Fn Tryz.prog 10 [b.v (b.sl ab cb)] H R (fun v H' R' => ∃ (bo cap : Nat) (junk : List Value), v = b.v (b.sl (some ⟨bo, 0, none⟩) cap) ∧ H' = (bo, cel 53 ((brows b.bins).flatten ++ junk)) :: H ∧ R' = R) := by
 refine Z9 Tryz.func10 rfl Tryz.ntmps10 rfl ?_
 refine sqt 2 rfl (bx rfl rfl rfl (fun b1 => alc rfl Z0n rfl (fun b2 => sqt 5 rfl (sp rfl (PE.fA Zj rfl) rfl (spL rfl rfl (lh Z0b rfl rfl) rfl ?_)))))
 refine cl rfl Zfb rfl rfl (Z7B b.bins ab cb hl _ _) ?_
 rintro _ _ _ ⟨o, rfl, ho, rfl, rfl⟩
 obtain ⟨bo, cap, junk, hfs, hG⟩ := o.own ho
 rw [hfs, hG, Z0P]
 refine Sy.heap (H' := (bo, cel 53 ((brows b.bins).flatten ++ junk)) :: (b2, cel 37 (btl zbarn (.slice none 0 0))) :: (b1, cel 37 (btl b (b.sl ab cb))) :: H) idH ?_
 refine sp rfl (PE.fA Zj rfl) rfl ?_
 refine sto rfl rfl rfl Zfh rfl rfl rfl rfl ?_
 refine sqt 2 rfl (spL rfl rfl (lhA (btl b (b.sl (some ⟨bo, 0, none⟩) cap)) Zt rfl rfl rfl) rfl ?_)
 refine sto rfl rfl rfl Z02 rfl rfl rfl rfl ?_
 refine Z1 ?_
 exact Z6 (vs := [_]) rfl (.cons (RV.cell rfl (lhA (btl b (b.sl (some ⟨bo, 0, none⟩) cap)) Zt rfl rfl rfl)) .nil) rfl ⟨bo, cap, junk, rfl, rfl, rfl⟩ (fun w h => (h.del b2).del b1)
theorem c_same (a : Barn) (aa : Option Addr) (ca : Nat) (b : Barn) (ab : Option Addr) (cb : Nat) (hla : a.bins.length ≤ 9223372036854775807) (hlb : b.bins.length ≤ 9223372036854775807) (hra : a.rise.length = 6) (hrb : b.rise.length = 6) (H : Z7) (R : Z5) [hA : MemRows aa 4 (brows a.bins) R] [hB : MemRows ab 4 (brows b.bins) R] :
    FnV Tryz.prog 15 [a.v (a.sl aa ca), b.v (b.sl ab cb)] H R (.bool (Z5P a b)) := by
 refine Z9 Tryz.func15 rfl Tryz.ntmps15 rfl ?_
 refine sqt 3 rfl (bx rfl rfl rfl (fun b2 => bx rfl rfl rfl (fun b3 => pur 1 rfl (sqt 27 rfl (sp rfl (PE.fA Z5x rfl) rfl (spL rfl rfl (lh sc3 rfl rfl) rfl (sp rfl (PE.fA Z5x rfl) rfl (spL rfl rfl (lh sc3 rfl rfl) rfl (pur 2 rfl ?_)))))))))
 refine Zy 10 rfl ?_ ?_ <;> intro g10
 refine spG rfl rfl rfl rfl (PE.fA Z1C rfl) rfl ?_
 refine Z25 rfl rfl rfl rfl rfl (lh sc3 rfl rfl) rfl ?_
 refine spG rfl rfl rfl rfl (PE.fA Z1C rfl) rfl ?_
 refine Z25 rfl rfl rfl rfl rfl (lh sc3 rfl rfl) rfl (pur 3 rfl ?_)
 refine Zy 17 rfl ?_ ?_ <;> intro g17
 refine spG rfl rfl rfl rfl (PE.fA Z1X rfl) rfl ?_
 refine Z25 rfl rfl rfl rfl rfl (lhA [_, _, _, _, _, _] ZfH rfl rfl rfl) rfl ?_
 refine spG rfl rfl rfl rfl (PE.fA Z1X rfl) rfl ?_
 refine Z25 rfl rfl rfl rfl rfl (lhA [_, _, _, _, _, _] ZfH rfl rfl rfl) rfl ?_
 refine spG rfl rfl rfl rfl (PE.eqlAgg [na a.rise 0, na a.rise 1, na a.rise 2, na a.rise 3, na a.rise 4, na a.rise 5] [na b.rise 0, na b.rise 1, na b.rise 2, na b.rise 3, na b.rise 4, na b.rise 5] (Z0D 10000 34 true 6 Zeh) ZfA rfl rfl rfl rfl) rfl ?_
 refine pur 2 rfl ?_
 refine Zy 24 rfl ?_ ?_ <;> intro g24
 refine spG rfl rfl rfl rfl (PE.fA Zj rfl) rfl ?_
 refine Z25 rfl rfl rfl rfl rfl (lh Z0b rfl rfl) rfl ?_
 refine spG rfl rfl rfl rfl (PE.fA Zj rfl) rfl ?_
 refine Z25 rfl rfl rfl rfl rfl (lh Z0b rfl rfl) rfl ?_
 refine Z5r rfl rfl rfl rfl ZeE rfl rfl (Z9Z a.bins b.bins aa ab ca cb hla hlb _ _) ?_
 refine pur 2 rfl (Z1 ?_)
 exact rtA rfl rfl rfl ⟨by simp only [ZM, Z5P, ← Z4a hra hrb]; first | (rw [g10, g17, g24]; rfl) | (rw [g10, g17]; rfl) | (rw [g10]; rfl), rfl, rfl⟩ drp
 refine pur 7 rfl (Z1 ?_)
 exact rtA rfl rfl rfl ⟨by simp only [ZM, Z5P, ← Z4a hra hrb]; first | (rw [g10, g17, g24]; rfl) | (rw [g10, g17]; rfl) | (rw [g10]; rfl), rfl, rfl⟩ drp
 refine pur 14 rfl (Z1 ?_)
 exact rtA rfl rfl rfl ⟨by simp only [ZM, Z5P, ← Z4a hra hrb]; first | (rw [g10, g17, g24]; rfl) | (rw [g10, g17]; rfl) | (rw [g10]; rfl), rfl, rfl⟩ drp
 refine pur 21 rfl (Z1 ?_)
 exact rtA rfl rfl rfl ⟨by simp only [ZM, Z5P, ← Z4a hra hrb]; first | (rw [g10, g17, g24]; rfl) | (rw [g10, g17]; rfl) | (rw [g10]; rfl), rfl, rfl⟩ drp
structure CkA (b : Barn) : Prop where
  many : nin (b.bins.length : Int) 1 4 = false
  cool : nin b.cool 0 60 = false
  gangs : nin b.gangs 0 3 = false
theorem CkA.rest {b : Barn} (h : CkA b) (hr : b.rise.all Z1x = true) (hb : b.bins.all HBin.ok = true) : b.check = bif !(srt b.rise) || !(b.bins.all fun x => decide (x.lo ≤ x.hi)) then 4 else 0 := by
  have h1 := h.many; have h2 := h.cool; have h3 := h.gangs
  unfold Barn.check; rw [Zde] at h1 h2 h3; rw [h1, h2, h3, hr, hb]; rfl
theorem Z9V {l : List HBin} : ∀ r ∈ brows l, r.length = 4 := by
  intro r hr
  obtain ⟨x, _, rfl⟩ := List.mem_map.1 hr
  rfl
theorem _root_.Go.Proofs.YtelnhmimhfjacaaGreat.St.binRows {l : List HBin} {bk e : Nat} {junk : List Value} {H : Z7} {R : Z5} {w : World} (hs : St ((bk, cel e ((brows l).flatten ++ junk)) :: H) R w) :
    St H (RowsA (some ⟨bk, 0, none⟩) 4 (brows l) :: R) w := by
  have h1 := (St.freeze hs).also (f := RowsA (some ⟨bk, 0, none⟩) 4 (brows l)) (fun w' hw => by
    have hb := hw (fun w => w.heap[bk]? = some (cel e ((brows l).flatten ++ junk))) (by simp)
    exact Z2a hb Z9V)
  exact h1.facts (fun g hg => by rcases List.mem_cons.1 hg with h3 | h3 <;> simp [h3])
theorem St.noRows {sz : Nat} {H : Z7} {R : Z5} {w : World} (hs : St H R w) : St H (RowsA none sz [] :: R) w :=
  hs.also (fun w' _ i row hi => by simp at hi)
theorem Z85 {l : List Int} (h : srt l = true) {i : Nat} : ∀ {j : Nat}, i ≤ j → j < l.length → na l i ≤ na l j
  | 0, hij, hj => by obtain rfl : i = 0 := by omega
                     exact Int.le_refl _
  | j + 1, hij, hj => by
    rcases Nat.lt_or_ge j i with h1 | h1
    · obtain rfl : i = j + 1 := by omega
      exact Int.le_refl _
    · have ih := Z85 h (j := j) h1 (by omega)
      have : ¬ (na l (j + 1) < na l j) := fun hlt => by
        have := Z8G (Z07 (by omega)) (Z07 hj) hlt
        rw [h] at this; cases this
      omega
def Barn.binD (b : Barn) (k : Nat) : HBin := b.bins.getD k hb0
def Zep (b : Barn) (p : List (List Int)) (k : Nat) (c : Int) (d : Nat) : Prop := (b.binD k).mark < wst b.cool (na b.rise c.toNat) k (b.binD k).warm (p.take (d + 1))
structure Bst (S : Nat → Nat → Prop) (q : Nat × Nat × Bool) : Prop where
  no : q.2.2 = false → q.1 = 0 ∧ q.2.1 = 0 ∧ ∀ k d, ¬ S k d
  yes : q.2.2 = true → S q.2.1 q.1 ∧ ∀ k d, S k d → q.1 < d ∨ (q.1 = d ∧ q.2.1 ≤ k)
theorem Bst.iff {S S' : Nat → Nat → Prop} {q : Nat × Nat × Bool} (h : Bst S q) (e : ∀ k d, S' k d ↔ S k d) : Bst S' q := by
  have : S' = S := by funext k d; exact propext (e k d)
  exact this ▸ h
theorem Bst.add {S S' : Nat → Nat → Prop} {q : Nat × Nat × Bool} {k e : Nat} (h : Bst S q) (hS : ∀ j d, S' j d ↔ S j d ∨ (j = k ∧ d = e)) (hq : q.2.2 = false ∨ e < q.1) : Bst S' (e, k, true) where
  no h := by cases h
  yes _ := ⟨(hS _ _).2 (.inr ⟨rfl, rfl⟩), fun j d hj => by
    rcases (hS j d).1 hj with h1 | ⟨rfl, rfl⟩
    · cases hb : q.2.2 with
      | false => exact absurd h1 ((h.no hb).2.2 j d)
      | true =>
        have := (h.yes hb).2 j d h1
        rcases hq with hq | hq
        · rw [hb] at hq; cases hq
        · exact .inl (by show e < d; omega)
    · exact .inr ⟨rfl, Nat.le_refl _⟩⟩
theorem Bst.keep {S S' : Nat → Nat → Prop} {q : Nat × Nat × Bool} {k e : Nat} (h : Bst S q) (hle : ∀ j d, S j d → j ≤ k) (hS : ∀ j d, S' j d ↔ S j d ∨ (j = k ∧ d = e)) (hq : q.2.2 = true) (hq2 : ¬ e < q.1) : Bst S' q where
  no h := by rw [hq] at h; cases h
  yes _ := by
    obtain ⟨h1, h2⟩ := h.yes hq
    refine ⟨(hS _ _).2 (.inl h1), fun j d hj => ?_⟩
    rcases (hS j d).1 hj with h3 | ⟨rfl, rfl⟩
    · exact h2 j d h3
    · have := hle _ _ h1
      omega
def Z5I (b : Barn) (p : List (List Int)) : Nat × Nat × Bool := match (b.burnsF b.warms p 0).1 with
  | none => (0, 0, false)
  | some (d, k) => (d, k, true)
def SA (b : Barn) (p : List (List Int)) (k : Nat) : Nat → Nat → Prop := fun j d => j < k ∧ d < p.length ∧ ∃ c, (b.binD j).lo ≤ c ∧ c ≤ (b.binD j).hi ∧ Zep b p j c d
def SB (b : Barn) (p : List (List Int)) (k : Nat) (c : Int) : Nat → Nat → Prop := fun j d => SA b p k j d ∨ (j = k ∧ d < p.length ∧ ∃ c', (b.binD k).lo ≤ c' ∧ c' < c ∧ Zep b p k c' d)
def SC (b : Barn) (p : List (List Int)) (k : Nat) (c : Int) (e : Nat) : Nat → Nat → Prop := fun j d => SB b p k c j d ∨ (j = k ∧ d < e ∧ Zep b p k c d)
theorem SA.start {b : Barn} {p : List (List Int)} : Bst (SA b p 0) (0, 0, false) := ⟨fun _ => ⟨rfl, rfl, fun k d h => by have := h.1; omega⟩, fun h => by cases h⟩
theorem SB.start {b : Barn} {p : List (List Int)} {k : Nat} {c : Int} (hc : c = (b.binD k).lo) {q : Nat × Nat × Bool} (h : Bst (SA b p k) q) : Bst (SB b p k c) q := h.iff fun j d => by
  constructor
  · rintro (h1 | ⟨_, _, c', h1, h2, _⟩)
    · exact h1
    · omega
  · exact .inl
theorem SC.start {b : Barn} {p : List (List Int)} {k : Nat} {c : Int} {q : Nat × Nat × Bool} (h : Bst (SB b p k c) q) : Bst (SC b p k c 0) q := h.iff fun j d => by
  constructor
  · rintro (h1 | ⟨_, h1, _⟩)
    · exact h1
    · omega
  · exact .inl
theorem SC.le {b : Barn} {p : List (List Int)} {k : Nat} {c : Int} {e j d : Nat} (h : SC b p k c e j d) : j ≤ k := by
  rcases h with (h | h) | h
  · exact Nat.le_of_lt h.1
  · exact Nat.le_of_eq h.1
  · exact Nat.le_of_eq h.1
theorem SC.done {b : Barn} {p : List (List Int)} {k : Nat} {c : Int} (hc : (b.binD k).lo ≤ c) {q : Nat × Nat × Bool} (h : Bst (SC b p k c p.length) q) : Bst (SB b p k (c + 1)) q := h.iff fun j d => by
  constructor
  · rintro (h1 | ⟨h1, h2, c', h3, h4, h5⟩)
    · exact .inl (.inl h1)
    · rcases Int.lt_or_le c' c with h6 | h6
      · exact .inl (.inr ⟨h1, h2, c', h3, h6, h5⟩)
      · obtain rfl : c' = c := by omega
        exact .inr ⟨h1, h2, h5⟩
  · rintro ((h1 | ⟨h1, h2, c', h3, h4, h5⟩) | ⟨h1, h2, h3⟩)
    · exact .inl h1
    · exact .inr ⟨h1, h2, c', h3, by omega, h5⟩
    · exact .inr ⟨h1, h2, c, hc, by omega, h3⟩
theorem SB.done {b : Barn} {p : List (List Int)} {k : Nat} {c : Int} (hc : c = (b.binD k).hi + 1) {q : Nat × Nat × Bool} (h : Bst (SB b p k c) q) : Bst (SA b p (k + 1)) q := h.iff fun j d => by
  constructor
  · rintro ⟨h1, h2, c', h3, h4, h5⟩
    rcases Nat.lt_or_ge j k with h6 | h6
    · exact .inl ⟨h6, h2, c', h3, h4, h5⟩
    · obtain rfl : j = k := by omega
      exact .inr ⟨rfl, h2, c', h3, by omega, h5⟩
  · rintro (⟨h1, h2, h3⟩ | ⟨rfl, h2, c', h3, h4, h5⟩)
    · exact ⟨by omega, h2, h3⟩
    · exact ⟨by omega, h2, c', h3, by omega, h5⟩
theorem Bst.bd {b : Barn} {p : List (List Int)} {k : Nat} {c : Int} {e : Nat} {q : Nat × Nat × Bool} (h : Bst (SC b p k c e) q) (he : e ≤ p.length) : q.1 ≤ p.length ∧ q.2.1 ≤ k := by
  cases hb : q.2.2 with
  | false => obtain ⟨h1, h2, _⟩ := h.no hb; omega
  | true =>
    have h1 := (h.yes hb).1
    refine ⟨?_, SC.le h1⟩
    rcases h1 with (h1 | h1) | h1
    · exact Nat.le_of_lt h1.2.1
    · exact Nat.le_of_lt h1.2.1
    · omega
def plU (b : Barn) (p : List (List Int)) : Int := bif decide (b.planned p = 0) then (bif (Z5I b p).2.2 then 0 else 6) else b.planned p
def plQ (b : Barn) (p : List (List Int)) : Nat × Nat × Bool := bif decide (b.planned p = 0) then Z5I b p else (0, 0, false)
def plK (b : Barn) (p : List (List Int)) : Bool := bif decide (b.planned p = 0) then !(Z5I b p).2.2 else false
theorem Z9F {b : Barn} {p : List (List Int)} (h : (b.burnsF b.warms p 0).1 = none) : Z5I b p = (0, 0, false) := by unfold Z5I; rw [h]
theorem Z9K {b : Barn} {p : List (List Int)} {q : Nat × Nat} (h : (b.burnsF b.warms p 0).1 = some q) : Z5I b p = (q.1, q.2, true) := by unfold Z5I; rw [h]
theorem Z5b (b : Barn) (p : List (List Int)) : (∃ ws, b.burnsF b.warms p 0 = (none, ws) ∧ Z5I b p = (0, 0, false)) ∨ ∃ d k ws, b.burnsF b.warms p 0 = (some (d, k), ws) ∧ Z5I b p = (d, k, true) := by
  cases h : b.burnsF b.warms p 0 with
  | mk o ws => cases o with
    | none => exact .inl ⟨ws, rfl, Z9F (by rw [h])⟩
    | some q => exact .inr ⟨q.1, q.2, ws, rfl, Z9K (by rw [h])⟩
theorem Z7N (b : Barn) (p : List (List Int)) : b.keepsV p = .tuple #[.bool (plK b p), .int .i64 (b.planned p)] := by
  unfold Barn.keepsV plK
  by_cases h : b.planned p = 0
  · rw [decide_eq_true h, cond_true, cond_true, h]
    rcases Z5b b p with ⟨ws, h3, h4⟩ | ⟨d, k, ws, h3, h4⟩ <;> rw [h3, h4] <;> rfl
  · rw [decide_eq_false h]; rfl
theorem Z9n (b : Barn) (ab : Option Addr) (cb : Nat) (hl : b.bins.length ≤ 9223372036854775807) (hr : b.rise.length = 6) (pl : List PL) (ap : Option Addr) (cp : Nat) (hpl : pl.length ≤ 9223372036854775807) (hpi : ∀ x ∈ pl, x.l.length ≤ 9223372036854775807) (H : Z7) (R : Z5) [hB : MemRows ab 4 (brows b.bins) R] [hP : MemRows ap 1 (Zz pl) R] [hI : MemF (Inn pl) R] : FnV Tryz.prog 13 [b.v (b.sl ab cb), .slice ap pl.length cp] H R (.tuple #[.bool (plK b (lls pl)), .int .i64 (b.planned (lls pl))]) := Z7N b (lls pl) ▸ Z8X b ab cb hl hr pl ap cp hpl hpi H R
end Go.Proofs.YtelnhmimhfjacaaGreat.Ht
namespace Go.Proofs.YtelnhmimhfjacaaGreat.Ht
set_option linter.unusedSimpArgs false
set_option linter.unusedVariables false
theorem Dsk.next_mono {d : Dsk} (hd : d.ok) {s s' : HSt} (h : d.inS s) (h' : d.inS s') (hle : ∀ k < d.n, na s k ≤ na s' k) {l l' : List Nat} (hl : ∀ k ∈ l, k < d.n) (hl' : ∀ k ∈ l', k < d.n)
    (hsub : ∀ k ∈ l, k ∈ l') {t : HSt} (e : d.next s l = some t) : ∃ t', d.next s' l' = some t' ∧ ∀ k < d.n, na t k ≤ na t' k := by
  obtain ⟨_, h2⟩ := d.next_at hd.n.2 h.len hl e
  have hm : ∀ k < d.n, d.mid s l k ≤ d.mid s' l' k := fun k hk => by
    have := hle k hk
    unfold Dsk.mid
    by_cases h3 : k ∈ l
    · rw [if_pos h3, if_pos (hsub k h3)]; omega
    · rw [if_neg h3]; split <;> omega
  obtain ⟨t', ht'⟩ := d.next_some hd.n.2 h'.len hl' (fun k hk => by have := hm k hk; have := (h2 k).1 hk; have := d.inS_mid hd h l hk; have := d.inS_mid hd h' l' hk; have := (hd.ever k hk).2.1; omega)
  refine ⟨t', ht', fun k hk => ?_⟩
  obtain ⟨_, h3⟩ := d.next_at hd.n.2 h'.len hl' ht'
  have a1 := (h2 k).2; have a2 := (h3 k).2
  have := hm k hk
  have b1 := d.inS_mid hd h l hk; have b2 := d.inS_mid hd h' l' hk
  have := (hd.ever k hk).2.1
  rw [a1, a2]
  split <;> split <;> omega
theorem Z9B : ((List.range 5).all fun n => (List.range (2 ^ n)).all fun u => (List.range (n + 1)).all fun g => !decide ((ZF n u).length ≤ g) || (List.range (2 ^ n)).any fun v => decide ((ZF n v).length = g) && (ZF n u).all fun k => (ZF n v).contains k) = true := by decide +kernel
theorem Z9z {n u g : Nat} (hn : n ≤ 4) (hu : u < 2 ^ n) (hg : g ≤ n) (h : (ZF n u).length ≤ g) : ∃ v, v < 2 ^ n ∧ (ZF n v).length = g ∧ ∀ k ∈ ZF n u, k ∈ ZF n v := by
  have h0 := Z9B
  rw [List.all_eq_true] at h0
  have h1 := h0 n (List.mem_range.2 (by omega))
  rw [List.all_eq_true] at h1
  have h2 := h1 u (List.mem_range.2 hu)
  rw [List.all_eq_true] at h2
  have h3 := h2 g (List.mem_range.2 (by omega))
  rw [decide_eq_true h, Bool.not_true, Bool.false_or, List.any_eq_true] at h3
  obtain ⟨v, hv, h4⟩ := h3
  rw [Bool.and_eq_true, decide_eq_true_eq, List.all_eq_true] at h4
  exact ⟨v, List.mem_range.1 hv, h4.1, fun k hk => by simpa using h4.2 k hk⟩
theorem Dsk.mem_trs {d : Dsk} {full : Bool} {l : List Nat} : l ∈ d.trs full ↔ ∃ u, u < 2 ^ d.n ∧ l = ZF d.n u ∧ (l.length : Int) ≤ d.g ∧ (full = true → d.g ≤ (l.length : Int)) := by
  unfold Dsk.trs
  rw [List.mem_filter, List.mem_map]
  have hm : d.may full l = true ↔ (l.length : Int) ≤ d.g ∧ (full = true → d.g ≤ (l.length : Int)) := by
    unfold Dsk.may
    cases full <;> simp <;> omega
  constructor
  · rintro ⟨⟨u, hu, rfl⟩, h⟩; exact ⟨u, List.mem_range.1 hu, rfl, hm.1 h⟩
  · rintro ⟨u, hu, rfl, h⟩; exact ⟨⟨u, List.mem_range.2 hu, rfl⟩, hm.2 h⟩
theorem Dsk.full_of {d : Dsk} (hd : d.ok) {l : List Nat} (h : l ∈ d.trs false) : ∃ l' ∈ d.trs true, ∀ k ∈ l, k ∈ l' := by
  obtain ⟨u, hu, rfl, h1, _⟩ := d.mem_trs.1 h
  have hn := hd.n; have hg := hd.gangs
  have e : (d.g.toNat : Int) = d.g := by unfold Dsk.g at *; omega
  obtain ⟨v, hv, h2, h3⟩ := Z9z (g := d.g.toNat) hn.2 hu (by unfold Dsk.g at *; omega) (by omega)
  exact ⟨_, d.mem_trs.2 ⟨v, hv, rfl, by omega, fun _ => by omega⟩, h3⟩
def Dsk.pth (d : Dsk) : Nat → HSt → HSt → Nat → Prop
  | 0, s, t, c => t = s ∧ c = 0
  | n + 1, s, t, c => ∃ u a l, d.pth n s u a ∧ l ∈ d.trs false ∧ d.next u l = some t ∧ c = a + l.length
theorem Dsk.pth_cons {d : Dsk} {s u : HSt} {l : List Nat} (hl : l ∈ d.trs false) (e : d.next s l = some u) : ∀ {n : Nat} {t : HSt} {c : Nat}, d.pth n u t c → d.pth (n + 1) s t (l.length + c)
  | 0, t, c, h => by obtain ⟨rfl, rfl⟩ := h; exact ⟨s, 0, l, ⟨rfl, rfl⟩, hl, e, by omega⟩
  | n + 1, t, c, h => by
    obtain ⟨v, a, l', h1, h2, h3, rfl⟩ := h
    exact ⟨v, l.length + a, l', pth_cons hl e h1, h2, h3, by omega⟩
theorem Dsk.pth_uncons {d : Dsk} {s : HSt} : ∀ {n : Nat} {t : HSt} {c : Nat}, d.pth (n + 1) s t c → ∃ l u a, l ∈ d.trs false ∧ d.next s l = some u ∧ d.pth n u t a ∧ c = l.length + a
  | 0, t, c, h => by
    obtain ⟨v, a, l, ⟨rfl, rfl⟩, h2, h3, rfl⟩ := h
    exact ⟨l, t, 0, h2, h3, ⟨rfl, rfl⟩, by omega⟩
  | n + 1, t, c, h => by
    obtain ⟨v, a, l, h1, h2, h3, rfl⟩ := h
    obtain ⟨l', u, a', i1, i2, i3, rfl⟩ := pth_uncons h1
    exact ⟨l', u, a' + l.length, i1, i2, ⟨v, a', l, i3, h2, h3, rfl⟩, by omega⟩
theorem Dsk.trs_sub {d : Dsk} {l : List Nat} (h : l ∈ d.trs true) : l ∈ d.trs false := by
  obtain ⟨u, hu, rfl, h1, _⟩ := d.mem_trs.1 h
  exact d.mem_trs.2 ⟨u, hu, rfl, h1, fun h => by cases h⟩
theorem Dsk.pth_inS {d : Dsk} (hd : d.ok) {s : HSt} (hs : d.inS s) : ∀ {n : Nat} {t : HSt} {c : Nat}, d.pth n s t c → d.inS t
  | 0, t, c, h => by obtain ⟨rfl, rfl⟩ := h; exact hs
  | n + 1, t, c, h => by
    obtain ⟨v, a, l, h1, h2, h3, rfl⟩ := h
    exact d.next_inS hd (pth_inS hd hs h1) (d.trs_lt h2) h3
theorem Dsk.pth_alive {d : Dsk} (hd : d.ok) : ∀ {n : Nat} {s s' t : HSt} {c : Nat}, d.inS s → d.inS s' → (∀ k < d.n, na s k ≤ na s' k) → d.pth n s t c → s' ∈ d.alive n
  | 0, s, s', t, c, _, h', _, _ => (d.mem_sts hd s').2 h'
  | n + 1, s, s', t, c, h, h', hle, hp => by
    obtain ⟨v, a, _, h1, _⟩ := id hp
    obtain ⟨l, u, a', i1, i2, i3, _⟩ := d.pth_uncons hp
    obtain ⟨l', j1, j2⟩ := d.full_of hd i1
    obtain ⟨u', k1, k2⟩ := d.next_mono hd h h' hle (d.trs_lt i1) (d.trs_lt j1) j2 i2
    exact d.alive_succ.2 ⟨pth_alive hd h h' hle h1, d.helped_iff.2 ⟨l', j1, u', k1, pth_alive hd (d.next_inS hd h (d.trs_lt i1) i2) (d.next_inS hd h' (d.trs_lt j1) k1) k2 i3⟩⟩
theorem Dsk.alive_pth {d : Dsk} : ∀ {n : Nat} {s : HSt}, s ∈ d.alive n → ∃ t c, d.pth n s t c
  | 0, s, _ => ⟨s, 0, rfl, rfl⟩
  | n + 1, s, h => by
    obtain ⟨l, hl, t, ht, hta⟩ := d.helped_iff.1 (d.alive_succ.1 h).2
    obtain ⟨t', c, hp⟩ := alive_pth hta
    exact ⟨t', _, d.pth_cons (d.trs_sub hl) ht hp⟩
theorem Dsk.alive_iff {d : Dsk} (hd : d.ok) {n : Nat} {s : HSt} (hs : d.inS s) : s ∈ d.alive n ↔ ∃ t c, d.pth n s t c :=
  ⟨d.alive_pth, fun ⟨_, _, h⟩ => d.pth_alive hd hs hs (fun _ _ => Int.le_refl _) h⟩
theorem Dsk.alive_stop (d : Dsk) : ∃ n, n ≤ d.nst ∧ d.alive (n + 1) = d.alive n := by
  by_cases h : ∃ n, n ≤ d.nst ∧ d.alive (n + 1) = d.alive n
  · exact h
  · have h1 : ∀ m, m ≤ d.nst + 1 → (d.alive m).length + m ≤ d.nst := by
      intro m
      induction m with
      | zero => intro _; show d.sts.length + 0 ≤ _; rw [d.sts_len]; omega
      | succ m ih =>
        intro hm
        have := ih (by omega)
        have h2 : ((d.alive m).filter fun s => !d.helped (d.alive m) s).length ≠ 0 := fun e => h ⟨m, by omega, d.alive_same e⟩
        have := d.alive_less h2
        omega
    have := h1 (d.nst + 1) (Nat.le_refl _)
    omega
theorem Dsk.alive_ever {d : Dsk} {s : HSt} {m : Nat} (hm : d.nst ≤ m) (h : s ∈ d.alive m) : ∀ k, s ∈ d.alive k := fun k => by
  obtain ⟨n, hn, e⟩ := d.alive_stop
  rcases Nat.lt_or_ge k n with h1 | h1
  · exact d.alive_le (by omega) h
  · obtain ⟨j, rfl⟩ : ∃ j, k = n + j := ⟨k - n, by omega⟩
    rw [d.alive_fix e]; exact d.alive_le (by omega) h
theorem Zc9 {d : Dsk} (hd : d.ok) {s : HSt} (hs : d.inS s) {j : Nat} (hj : j ≤ d.nst) (h1 : ∃ t c, d.pth j s t c) (h2 : ¬ ∃ t c, d.pth (j + 1) s t c) : Kpt d s j :=
  .inr ⟨j, Nat.le_trans hj (d.nst_le hd).2, rfl, (d.alive_iff hd hs).2 h1, fun h => h2 ((d.alive_iff hd hs).1 h)⟩
theorem Z4S {d : Dsk} (hd : d.ok) {s : HSt} (hs : d.inS s) {m : Nat} (hm : d.nst ≤ m) (h1 : ∃ t c, d.pth m s t c) : Kpt d s 1000000 :=
  .inl ⟨rfl, d.alive_ever hm ((d.alive_iff hd hs).2 h1)⟩
def ZaL (la s : List Int) (u k : Nat) : Int := bif u.testBit k then max (na s k) (na la k) else na s k
def Z9Y (v : Int) : Int := bif decide (v = 1000000) then v else v - 1
def rNx (la s : List Int) (u : Nat) : Nat → Option (List Int)
  | 0 => some []
  | k + 1 => match rNx la s u k with
    | none => none
    | some t => bif decide (Z9Y (ZaL la s u k) < 0) then none else some (t ++ [Z9Y (ZaL la s u k)])
theorem Z5K {la s : List Int} {u : Nat} : ∀ {k : Nat} {t : List Int}, rNx la s u k = some t → t.length = k
  | 0, t, h => by cases h; rfl
  | k + 1, t, h => by
    unfold rNx at h
    split at h
    · cases h
    · rename_i v hv
      cases h1 : decide (Z9Y (ZaL la s u k) < 0) with
      | true => rw [h1] at h; cases h
      | false => rw [h1] at h; cases h; simp [Z5K hv]
theorem ZbC {l : List Int} {v : Int} {k : Nat} : na (l ++ [v]) k = if k < l.length then na l k else if k = l.length then v else 0 := by
  unfold na
  rw [List.getD_eq_getElem?_getD, List.getD_eq_getElem?_getD]
  by_cases h : k < l.length
  · rw [if_pos h, List.getElem?_append_left h]
  · rw [if_neg h, List.getElem?_append_right (by omega)]
    by_cases h1 : k = l.length
    · rw [if_pos h1, h1]; simp
    · rw [if_neg h1, List.getElem?_eq_none (by simp; omega)]; rfl
theorem rNx_iff {la s : List Int} {u : Nat} : ∀ {n : Nat} {t : List Int}, rNx la s u n = some t ↔ t.length = n ∧ ∀ k < n, 0 ≤ Z9Y (ZaL la s u k) ∧ na t k = Z9Y (ZaL la s u k)
  | 0, t => by
    constructor
    · intro h; cases h; exact ⟨rfl, fun k hk => absurd hk (Nat.not_lt_zero _)⟩
    · rintro ⟨h, _⟩; rw [List.length_eq_zero_iff.1 h]; rfl
  | n + 1, t => by
    constructor
    · intro h
      refine ⟨Z5K h, ?_⟩
      unfold rNx at h
      split at h
      · cases h
      · rename_i v hv
        obtain ⟨h1, h2⟩ := rNx_iff.1 hv
        by_cases h3 : Z9Y (ZaL la s u n) < 0
        · rw [decide_eq_true h3] at h; cases h
        · rw [decide_eq_false h3, cond_false] at h; cases h
          intro k hk
          rw [ZbC, h1]
          by_cases h4 : k < n
          · rw [if_pos h4]; exact h2 k h4
          · obtain rfl : k = n := by omega
            rw [if_neg h4, if_pos rfl]; exact ⟨by omega, rfl⟩
    · rintro ⟨h1, h2⟩
      have e : t = t.take n ++ [na t n] := by
        have := List.take_append_drop n t
        rw [List.drop_eq_getElem_cons (by omega), List.drop_eq_nil_of_le (by omega)] at this
        have h3 : na t n = t[n] := by unfold na; rw [List.getD_eq_getElem?_getD, List.getElem?_eq_getElem (by omega)]; rfl
        rw [h3]; exact this.symm
      have hv : rNx la s u n = some (t.take n) := rNx_iff.2 ⟨by rw [List.length_take]; omega, fun k hk => by
        have := h2 k (by omega)
        have e2 : na (t.take n) k = na t k := by unfold na; rw [List.getD_eq_getElem?_getD, List.getD_eq_getElem?_getD, List.getElem?_take, if_pos hk]
        rw [e2]; exact this⟩
      have h4 := h2 n (by omega)
      unfold rNx
      rw [hv]
      simp only
      rw [decide_eq_false (by omega), cond_false, ← h4.2, ← e]
theorem Z1w {l : List Int} {k : Nat} : na (pad l) k = na l k := by
  unfold na pad
  rw [List.getD_eq_getElem?_getD, List.getD_eq_getElem?_getD]
  rcases Nat.lt_or_ge k l.length with h | h
  · rw [List.getElem?_append_left h]
  · rw [List.getElem?_append_right h, List.getElem?_eq_none h, List.getElem?_replicate]
    split <;> rfl
theorem Z8W {s t : List Int} (hs : s.length = t.length) (h : pad s = pad t) : s = t := by
  refine List.ext_getElem? fun k => ?_
  rcases Nat.lt_or_ge k s.length with h1 | h1
  · have : na (pad s) k = na (pad t) k := by rw [h]
    rw [Z1w, Z1w] at this
    unfold na at this
    rw [List.getD_eq_getElem?_getD, List.getD_eq_getElem?_getD, List.getElem?_eq_getElem h1, List.getElem?_eq_getElem (by omega)] at this
    rw [List.getElem?_eq_getElem h1, List.getElem?_eq_getElem (by omega)]
    simpa using this
  · rw [List.getElem?_eq_none h1, List.getElem?_eq_none (by omega)]
theorem mem_bitl {n u k : Nat} : k ∈ ZF n u ↔ k < n ∧ u.testBit k = true := by
  unfold ZF; rw [List.mem_filter, List.mem_range]
theorem Z5W {d : Dsk} {la s : List Int} (hla : ∀ k < d.n, na la k = na d.lasts k) (u : Nat) {k : Nat} (hk : k < d.n) : ZaL la s u k = d.mid (pad s) (ZF d.n u) k := by
  unfold ZaL Dsk.mid
  rw [Z1w, hla k hk]
  cases h : u.testBit k with
  | true => rw [if_pos (mem_bitl.2 ⟨hk, h⟩)]; rfl
  | false => rw [if_neg (fun h1 => by have := (mem_bitl.1 h1).2; rw [h] at this; cases this)]; rfl
theorem Z9W {d : Dsk} (hn : d.n ≤ 4) {la s t : List Int} (hla : ∀ k < d.n, na la k = na d.lasts k) (hs : s.length = d.n) (ht : t.length = d.n) (u : Nat) : rNx la s u d.n = some t ↔ d.next (pad s) (ZF d.n u) = some (pad t) := by
  have hl : ∀ k ∈ ZF d.n u, k < d.n := fun k hk => Z30 hk
  have hps : (pad s).length = 4 := Z20 (by omega)
  rw [rNx_iff]
  constructor
  · rintro ⟨_, h⟩
    obtain ⟨t', ht'⟩ := d.next_some hn hps hl (fun k hk => by
      have := (h k hk).1
      rw [Z5W hla u hk] at this
      unfold Z9Y at this
      by_cases h1 : d.mid (pad s) (ZF d.n u) k = 1000000
      · exact .inl h1
      · rw [decide_eq_false h1, cond_false] at this; exact .inr (by omega))
    rw [ht']
    congr 1
    obtain ⟨h2, h3⟩ := d.next_at hn hps hl ht'
    refine Z7t h2 (Z20 (by omega)) fun k hk => ?_
    rw [(h3 k).2, Z1w]
    by_cases hkn : k < d.n
    · rw [(h k hkn).2, Z5W hla u hkn]
      unfold Z9Y
      by_cases h1 : d.mid (pad s) (ZF d.n u) k = 1000000
      · rw [if_neg (by omega), decide_eq_true h1]; rfl
      · rw [if_pos ⟨hkn, h1⟩, decide_eq_false h1]; rfl
    · rw [if_neg (by omega)]
      unfold Dsk.mid
      rw [if_neg (fun h1 => hkn (hl k h1)), Z1w]
      unfold na
      rw [List.getD_eq_getElem?_getD, List.getD_eq_getElem?_getD, List.getElem?_eq_none (by omega), List.getElem?_eq_none (by omega)]
  · intro h
    obtain ⟨h2, h3⟩ := d.next_at hn hps hl h
    refine ⟨ht, fun k hk => ?_⟩
    obtain ⟨h4, h5⟩ := h3 k
    have h4 := h4 hk
    rw [Z1w] at h5
    rw [Z5W hla u hk, h5]
    unfold Z9Y
    by_cases h1 : d.mid (pad s) (ZF d.n u) k = 1000000
    · rw [if_neg (by omega), decide_eq_true h1, cond_true]; exact ⟨by omega, rfl⟩
    · rw [if_pos ⟨hk, h1⟩, decide_eq_false h1, cond_false]; exact ⟨by omega, rfl⟩
theorem Z9s : ((List.range 5).all fun n => (List.range (2 ^ n)).all fun u => decide ((ZF n u).length = (ZF 4 u).length)) = true := by decide +kernel
theorem Z5V {n u : Nat} (hn : n ≤ 4) (hu : u < 2 ^ n) : (ZF 4 u).length = (ZF n u).length := by
  have h0 := Z9s
  rw [List.all_eq_true] at h0
  have h1 := h0 n (List.mem_range.2 (by omega))
  rw [List.all_eq_true] at h1
  exact (of_decide_eq_true (h1 u (List.mem_range.2 hu))).symm
theorem Zbh (u : Nat) : (ZF 4 u).length ≤ 4 := Z0X 4 u
def rS (n : Nat) (g : Int) (la s : List Int) (u : Nat) : Option (List Int) := bif decide (((ZF 4 u).length : Int) ≤ g) then rNx la s u n else none
theorem Zcj {n : Nat} {g : Int} {la s t : List Int} {u : Nat} (h : rS n g la s u = some t) : t.length = n := by
  unfold rS at h
  cases h1 : decide (((ZF 4 u).length : Int) ≤ g) with
  | true => rw [h1] at h; exact Z5K h
  | false => rw [h1] at h; cases h
def Sx (n : Nat) (g : Int) (la : List Int) (now : List (List Int)) (i u : Nat) (t : List Int) : Prop := ∃ j s v, now[j]? = some s ∧ (j < i ∨ (j = i ∧ v < u)) ∧ v < 2 ^ n ∧ rS n g la s v = some t
theorem Sx.step {n : Nat} {g : Int} {la s t : List Int} {now : List (List Int)} {i u : Nat} (hs : now[i]? = some s) (hu : u < 2 ^ n) : Sx n g la now i (u + 1) t ↔ Sx n g la now i u t ∨ rS n g la s u = some t := by
  constructor
  · rintro ⟨j, s', v, h1, h2, h3, h4⟩
    rcases h2 with h2 | ⟨rfl, h2⟩
    · exact .inl ⟨j, s', v, h1, .inl h2, h3, h4⟩
    · rcases Nat.lt_or_ge v u with h5 | h5
      · exact .inl ⟨j, s', v, h1, .inr ⟨rfl, h5⟩, h3, h4⟩
      · obtain rfl : v = u := by omega
        rw [hs] at h1; cases h1; exact .inr h4
  · rintro (⟨j, s', v, h1, h2, h3, h4⟩ | h)
    · exact ⟨j, s', v, h1, by omega, h3, h4⟩
    · exact ⟨i, s, u, hs, by omega, hu, h⟩
theorem Sx.next {n : Nat} {g : Int} {la t : List Int} {now : List (List Int)} {i : Nat} : Sx n g la now (i + 1) 0 t ↔ Sx n g la now i (2 ^ n) t := by
  constructor
  · rintro ⟨j, s', v, h1, h2, h3, h4⟩
    exact ⟨j, s', v, h1, by omega, h3, h4⟩
  · rintro ⟨j, s', v, h1, h2, h3, h4⟩
    exact ⟨j, s', v, h1, by omega, h3, h4⟩
structure Bf (n : Nat) (g : Int) (la : List Int) (now : List (List Int)) (i u : Nat) (L : List (List Int)) : Prop where
  len : ∀ t ∈ L, t.length = n
  nd : L.Nodup
  mem : ∀ t, t ∈ L ↔ Sx n g la now i u t
theorem Bf.start {n : Nat} {g : Int} {la : List Int} {now : List (List Int)} : Bf n g la now 0 0 [] := ⟨by simp, List.nodup_nil, fun t => by
  constructor
  · intro h; cases h
  · rintro ⟨j, s, v, _, h, _⟩; omega⟩
theorem Bf.next {n : Nat} {g : Int} {la : List Int} {now : List (List Int)} {i : Nat} {L : List (List Int)} (h : Bf n g la now i (2 ^ n) L) : Bf n g la now (i + 1) 0 L := ⟨h.len, h.nd, fun t => (h.mem t).trans Sx.next.symm⟩
theorem Bf.skip {n : Nat} {g : Int} {la s : List Int} {now : List (List Int)} {i u : Nat} {L : List (List Int)} (h : Bf n g la now i u L) (hs : now[i]? = some s) (hu : u < 2 ^ n) (hn : ∀ t, rS n g la s u = some t → t ∈ L) : Bf n g la now i (u + 1) L := ⟨h.len, h.nd, fun t => by
  rw [Sx.step hs hu, ← h.mem]
  exact ⟨.inl, fun h1 => h1.elim id (hn t)⟩⟩
theorem Bf.add {n : Nat} {g : Int} {la s t : List Int} {now : List (List Int)} {i u : Nat} {L : List (List Int)} (h : Bf n g la now i u L) (hs : now[i]? = some s) (hu : u < 2 ^ n) (ht : rS n g la s u = some t) (hn : t ∉ L) : Bf n g la now i (u + 1) (L ++ [t]) where
  len x hx := by
    rcases List.mem_append.1 hx with hx | hx
    · exact h.len x hx
    · rw [List.mem_singleton.1 hx]; exact Zcj ht
  nd := List.nodup_append.2 ⟨h.nd, by simp, fun x hx y hy e => hn (by rw [← List.mem_singleton.1 hy, ← e]; exact hx)⟩
  mem x := by
    rw [Sx.step hs hu, ← h.mem, List.mem_append, List.mem_singleton, ht]
    exact or_congr_right ⟨fun e => by rw [e], fun e => (Option.some.inj e).symm⟩
theorem Z0M {α : Type} [DecidableEq α] : ∀ {l m : List α}, l.Nodup → (∀ x ∈ l, x ∈ m) → l.length ≤ m.length
  | [], _, _, _ => Nat.zero_le _
  | x :: l, m, hn, h => by
    rw [List.nodup_cons] at hn
    have hx := h x (by simp)
    have h1 := Z0M (m := m.erase x) hn.2 fun y hy => (List.mem_erase_of_ne (show y ≠ x from fun e => hn.1 (by rw [← e]; exact hy))).2 (h y (by simp [hy]))
    rw [List.length_erase_of_mem hx] at h1
    have := List.length_pos_of_mem hx
    rw [List.length_cons]; omega
theorem Z3d {α β : Type} {f : α → β} : ∀ {l : List α}, (∀ x ∈ l, ∀ y ∈ l, f x = f y → x = y) → l.Nodup → (l.map f).Nodup
  | [], _, _ => List.nodup_nil
  | x :: l, hf, hn => by
    rw [List.nodup_cons] at hn
    rw [List.map_cons, List.nodup_cons]
    refine ⟨fun h => ?_, Z3d (fun a ha b hb => hf a (by simp [ha]) b (by simp [hb])) hn.2⟩
    obtain ⟨y, hy, e⟩ := List.mem_map.1 h
    have e2 := hf y (by simp [hy]) x (by simp) e
    exact hn.1 (e2 ▸ hy)
structure Lv (d : Dsk) (s0 : HSt) (day : Nat) (L : List (List Int)) : Prop where
  len : ∀ t ∈ L, t.length = d.n
  mem : ∀ t, t.length = d.n → (t ∈ L ↔ ∃ c, d.pth day s0 (pad t) c)
theorem Z3a {d : Dsk} (hd : d.ok) {u : HSt} (h : d.inS u) : pad (u.take d.n) = u := by
  have hn := hd.n
  refine Z7t (Z20 (by rw [List.length_take]; omega)) h.len fun k hk => ?_
  rw [Z1w]
  unfold na
  rw [List.getD_eq_getElem?_getD, List.getD_eq_getElem?_getD, List.getElem?_take]
  by_cases h1 : k < d.n
  · rw [if_pos h1]
  · rw [if_neg h1]
    have := h.out k hk (by omega)
    unfold na at this
    rw [List.getD_eq_getElem?_getD] at this
    rw [this]; rfl
theorem Lv.start {d : Dsk} {s : List Int} (hs : s.length = d.n) : Lv d (pad s) 0 [s] := ⟨fun t ht => by rw [List.mem_singleton.1 ht]; exact hs, fun t ht => by
  rw [List.mem_singleton]
  constructor
  · rintro rfl; exact ⟨0, rfl, rfl⟩
  · rintro ⟨c, h, _⟩; exact Z8W (by omega) h⟩
theorem Lv.inS {d : Dsk} (hd : d.ok) {s0 : HSt} (h0 : d.inS s0) {day : Nat} {L : List (List Int)} (h : Lv d s0 day L) {t : List Int} (ht : t ∈ L) : d.inS (pad t) := by
  obtain ⟨c, hc⟩ := (h.mem t (h.len t ht)).1 ht
  exact d.pth_inS hd h0 hc
theorem Z55 {d : Dsk} (hd : d.ok) {la s t : List Int} (hla : ∀ k < d.n, na la k = na d.lasts k) (hs : s.length = d.n) (ht : t.length = d.n) {v : Nat} (hv : v < 2 ^ d.n) : rS d.n d.gangs la s v = some t ↔ ZF d.n v ∈ d.trs false ∧ d.next (pad s) (ZF d.n v) = some (pad t) := by
  have hn := hd.n
  have e := Z5V hn.2 hv
  have hle := Z0X d.n v
  have hm : ZF d.n v ∈ d.trs false ↔ ((ZF d.n v).length : Int) ≤ d.gangs := by
    rw [d.mem_trs]
    unfold Dsk.g
    constructor
    · rintro ⟨_, _, _, h, _⟩; omega
    · intro h; exact ⟨v, hv, rfl, by omega, fun h => by cases h⟩
  unfold rS
  rw [e]
  by_cases h : ((ZF d.n v).length : Int) ≤ d.gangs
  · rw [decide_eq_true h, cond_true, Z9W hn.2 hla hs ht]
    exact ⟨fun h1 => ⟨hm.2 h, h1⟩, fun h1 => h1.2⟩
  · rw [decide_eq_false h, cond_false]
    exact ⟨fun h1 => (by cases h1), fun h1 => absurd (hm.1 h1.1) h⟩
theorem Lv.next {d : Dsk} (hd : d.ok) {s0 : HSt} (h0 : d.inS s0) {la : List Int} (hla : ∀ k < d.n, na la k = na d.lasts k) {day : Nat} {now L : List (List Int)} (h : Lv d s0 day now) (hb : Bf d.n d.gangs la now now.length 0 L) : Lv d s0 (day + 1) L where
  len := hb.len
  mem t ht := by
    rw [hb.mem]
    constructor
    · rintro ⟨j, s, v, h1, _, h3, h4⟩
      have hm := List.mem_of_getElem? h1
      obtain ⟨c, hc⟩ := (h.mem s (h.len s hm)).1 hm
      obtain ⟨h5, h6⟩ := (Z55 hd hla (h.len s hm) ht h3).1 h4
      exact ⟨_, _, _, _, hc, h5, h6, rfl⟩
    · rintro ⟨c, u, a, l, h1, h2, h3, _⟩
      obtain ⟨v, hv, rfl, _⟩ := d.mem_trs.1 h2
      have hu := d.pth_inS hd h0 h1
      have hlen : (u.take d.n).length = d.n := by rw [List.length_take, hu.len]; have := hd.n; omega
      have e := Z3a hd hu
      have hm : u.take d.n ∈ now := (h.mem _ hlen).2 ⟨a, by rw [e]; exact h1⟩
      obtain ⟨j, hj⟩ := List.getElem?_of_mem hm
      exact ⟨j, _, v, hj, .inl (List.getElem?_eq_some_iff.1 hj).1, hv, (Z55 hd hla hlen ht hv).2 ⟨h2, by rw [e]; exact h3⟩⟩
theorem Bf.few {d : Dsk} (hd : d.ok) {s0 : HSt} (h0 : d.inS s0) {la : List Int} (hla : ∀ k < d.n, na la k = na d.lasts k) {day i u : Nat} {now L : List (List Int)} (h : Lv d s0 day now) (hb : Bf d.n d.gangs la now i u L) : L.length ≤ 14641 := by
  have h1 : (L.map pad).length ≤ d.sts.length := Z0M (Z3d (fun x hx y hy e => Z8W (by rw [hb.len x hx, hb.len y hy]) e) hb.nd) fun p hp => by
    obtain ⟨t, ht, rfl⟩ := List.mem_map.1 hp
    obtain ⟨j, s, v, h1, _, h3, h4⟩ := (hb.mem t).1 ht
    have hm := List.mem_of_getElem? h1
    obtain ⟨h5, h6⟩ := (Z55 hd hla (h.len s hm) (hb.len t ht) h3).1 h4
    exact (d.mem_sts hd _).2 (d.next_inS hd (h.inS hd h0 hm) (d.trs_lt h5) h6)
  rw [List.length_map, d.sts_len] at h1
  have := (d.nst_le hd).2
  omega
theorem Lv.ends {d : Dsk} (hd : d.ok) {s0 : HSt} (h0 : d.inS s0) {day : Nat} (hday : day ≤ d.nst) {now : List (List Int)} (h : Lv d s0 day now) (hne : now ≠ []) (h' : Lv d s0 (day + 1) []) : Kpt d s0 day := by
  refine Zc9 hd h0 hday ?_ ?_
  · obtain ⟨t, ht⟩ := List.exists_mem_of_ne_nil now hne
    obtain ⟨c, hc⟩ := (h.mem t (h.len t ht)).1 ht
    exact ⟨_, c, hc⟩
  · rintro ⟨t, c, hc⟩
    have hi := d.pth_inS hd h0 hc
    have hlen : (t.take d.n).length = d.n := by rw [List.length_take, hi.len]; have := hd.n; omega
    have := (h'.mem _ hlen).2 ⟨c, by rw [Z3a hd hi]; exact hc⟩
    cases this
theorem Lv.ever {d : Dsk} (hd : d.ok) {s0 : HSt} (h0 : d.inS s0) {day : Nat} (hday : d.nst ≤ day) {now : List (List Int)} (h : Lv d s0 day now) (hne : now ≠ []) : Kpt d s0 1000000 := by
  obtain ⟨t, ht⟩ := List.exists_mem_of_ne_nil now hne
  obtain ⟨c, hc⟩ := (h.mem t (h.len t ht)).1 ht
  exact Z4S hd h0 hday ⟨_, c, hc⟩
open Go
def SpI (b : Barn) (m : Nat) (s e : Int) : Prop := (e = 6 ∧ s = 0 ∧ ∀ g : Nat, m ≤ g → g ≤ b.bins.length → b.ends g) ∨
  (e = 0 ∧ ∃ g : Nat, s = g ∧ m ≤ g ∧ g ≤ b.bins.length ∧ Kpt (b.withG g).dsk b.state 1000000 ∧ ∀ j : Nat, m ≤ j → j < g → b.ends j)
theorem SpI.start (b : Barn) : SpI b (b.bins.length + 1) 0 6 := .inl ⟨rfl, rfl, fun g h1 h2 => by omega⟩
theorem SpI.yes {b : Barn} {k : Nat} (hk : k ≤ b.bins.length) (h : Kpt (b.withG k).dsk b.state 1000000) : SpI b k k 0 := .inr ⟨rfl, k, rfl, Nat.le_refl _, hk, h, fun j h1 h2 => by omega⟩
theorem SpI.no {b : Barn} {k : Nat} {s e : Int} (h : SpI b (k + 1) s e) (hn : b.ends k) : SpI b k s e := by
  rcases h with ⟨h1, h2, h3⟩ | ⟨h1, g, h2, h3, h4, h5, h6⟩
  · refine .inl ⟨h1, h2, fun g hg hg2 => ?_⟩
    rcases Nat.lt_or_ge k g with h | h
    · exact h3 g h hg2
    · obtain rfl : g = k := by omega
      exact hn
  · refine .inr ⟨h1, g, h2, by omega, h4, h5, fun j hj hj2 => ?_⟩
    rcases Nat.lt_or_ge k j with h | h
    · exact h6 j h hj2
    · obtain rfl : j = k := by omega
      exact hn
theorem Z2z {b : Barn} {g : Nat} (h : b.ends g) : ¬ Kpt (b.withG g).dsk b.state 1000000 := fun h2 => by
  obtain ⟨w, hw, h3⟩ := h
  exact hw (ZO h3 h2)
theorem SpI.eq {b : Barn} {s e : Int} (h : SpI b 0 s e) (hc : b.check = 0) {v : Value} (hq : Z6v b v) : v = .tuple #[.int .i64 s, .int .i64 e] := by
  rcases hq with ⟨h1, _⟩ | ⟨_, ⟨g, hg, hn, hk, rfl⟩ | ⟨hn, rfl⟩⟩
  · exact absurd hc h1
  · rcases h with ⟨rfl, rfl, h3⟩ | ⟨rfl, g2, rfl, _, h4, h5, h6⟩
    · exact absurd hk (Z2z (h3 g (Nat.zero_le _) hg))
    · rcases Nat.lt_trichotomy g g2 with h7 | h7 | h7
      · exact absurd hk (Z2z (h6 g (Nat.zero_le _) h7))
      · rw [h7]
      · exact absurd h5 (Z2z (hn g2 h7))
  · rcases h with ⟨rfl, rfl, h3⟩ | ⟨rfl, g2, rfl, _, h4, h5, h6⟩
    · rfl
    · exact absurd h5 (Z2z (hn g2 h4))
structure FewC (d : Dsk) (s : HSt) (n c : Nat) : Prop where
  is : ∃ t, d.pth n s t c
  le : ∀ t c', d.pth n s t c' → c ≤ c'
structure Fsp (es : List (HSt × List Int)) (m : MW) : Prop where
  mem : ∀ t w, Z05 m t = some w → (t, w) ∈ es
  has : ∀ t w, (t, w) ∈ es → ∃ w', Z05 m t = some w' ∧ na w' 5 ≤ na w 5
theorem Fsp.nil : Fsp [] [] := ⟨fun t w h => (by cases h), fun t w h => (by cases h)⟩
theorem Fsp.add {es : List (HSt × List Int)} {m : MW} {e : HSt × List Int} (h : Fsp es m) (hz : ∀ f ∈ es, f.2 ≠ zw) : Fsp (es ++ [e]) (Z1A m e) := by
  obtain ⟨k, v⟩ := e
  have key : (Z1A m (k, v) = Z6k m k v ∧ ∀ w, Z05 m k = some w → na v 5 < na w 5) ∨ (Z1A m (k, v) = m ∧ ∃ w, Z05 m k = some w ∧ na w 5 ≤ na v 5) := by
    unfold Z1A
    dsimp only
    cases hk : Z05 m k with
    | none => exact .inl ⟨by rw [Option.getD_none, decide_eq_true rfl]; rfl, fun w h => by cases h⟩
    | some w0 =>
      have h0 : w0 ≠ zw := hz _ (h.mem _ _ hk)
      rw [Option.getD_some, decide_eq_false h0, Bool.false_or]
      by_cases h1 : na v 5 < na w0 5
      · rw [decide_eq_true h1]; exact .inl ⟨rfl, fun w hw => by cases hw; exact h1⟩
      · rw [decide_eq_false h1]; exact .inr ⟨rfl, w0, rfl, by omega⟩
  rcases key with ⟨e1, h1⟩ | ⟨e1, w0, h1, h2⟩
  · rw [e1]
    refine ⟨fun t w hw => ?_, fun t w hw => ?_⟩
    · rw [Z3j] at hw
      by_cases hkt : k = t
      · rw [decide_eq_true hkt] at hw; cases hw; subst hkt; simp
      · rw [decide_eq_false hkt] at hw; exact List.mem_append_left _ (h.mem _ _ hw)
    · rw [Z3j]
      by_cases hkt : k = t
      · subst hkt
        rw [decide_eq_true rfl]
        refine ⟨v, rfl, ?_⟩
        rcases List.mem_append.1 hw with h3 | h3
        · obtain ⟨w', h4, h5⟩ := h.has _ _ h3
          have := h1 _ h4
          omega
        · cases List.mem_singleton.1 h3; exact Int.le_refl _
      · rw [decide_eq_false hkt]
        rcases List.mem_append.1 hw with h3 | h3
        · exact h.has _ _ h3
        · cases List.mem_singleton.1 h3; exact absurd rfl hkt
  · rw [e1]
    refine ⟨fun t w hw => List.mem_append_left _ (h.mem _ _ hw), fun t w hw => ?_⟩
    rcases List.mem_append.1 hw with h3 | h3
    · exact h.has _ _ h3
    · cases List.mem_singleton.1 h3; exact ⟨w0, h1, h2⟩
theorem Fsp.fold : ∀ {fs es : List (HSt × List Int)} {m : MW}, Fsp es m → (∀ f ∈ es ++ fs, f.2 ≠ zw) → Fsp (es ++ fs) (fs.foldl Z1A m)
  | [], es, m, h, _ => by rw [List.append_nil]; exact h
  | f :: fs, es, m, h, hz => by
    have := Fsp.fold (fs := fs) (h.add (e := f) fun g hg => hz g (List.mem_append_left _ hg)) (fun g hg => hz g (by simpa [List.append_assoc] using hg))
    rw [List.append_assoc] at this
    exact this
theorem mem_ev {d : Dsk} {m : MW} {e : HSt × List Int} : e ∈ (d.sts.take d.nst).flatMap (evW d m) ↔ ∃ s, s ∈ d.sts ∧ ∃ w, Z05 m s = some w ∧ ∃ l, l ∈ d.trs false ∧ ∃ t, d.next s l = some t ∧ e = (t, s ++ [(Z0z l : Int), na w 5 + (l.length : Int)]) := by
  rw [List.take_of_length_le (by rw [d.sts_len]; exact Nat.le_refl _), List.mem_flatMap]
  refine exists_congr fun s => and_congr_right fun _ => ?_
  unfold evW Z4J
  cases Z05 m s with
  | none => simp
  | some w =>
    dsimp only
    rw [List.take_length, List.mem_filterMap]
    constructor
    · rintro ⟨l, hl, he⟩
      unfold Zcr at he
      rw [Option.map_eq_some_iff] at he
      obtain ⟨t, ht, rfl⟩ := he
      exact ⟨w, rfl, l, hl, t, ht, rfl⟩
    · rintro ⟨w', hw, l, hl, t, ht, rfl⟩
      cases hw
      exact ⟨l, hl, by unfold Zcr; rw [ht]; rfl⟩
theorem Zf0 {d : Dsk} (hd : d.ok) {s t : HSt} (hs : d.inS s) {l : List Nat} (hl : l ∈ d.trs false) (hn : d.next s l = some t) (c : Int) : s ++ [(Z0z l : Int), c] ≠ zw := by
  intro e
  obtain ⟨s0, s1, s2, s3, rfl⟩ := Z0x hs.len
  have e2 : s0 = 0 ∧ (Z0z l : Int) = 0 := by
    have h1 := congrArg (fun z => na z 0) e
    have h2 := congrArg (fun z => na z 4) e
    exact ⟨h1, h2⟩
  have hn1 := hd.n
  have h2 := ((d.next_at hn1.2 hs.len (d.trs_lt hl) hn).2 0).1 (by omega)
  have h0 : (0 : Nat) ∉ l := fun hm => by
    have h3 := Z1Q l 0
    rw [decide_eq_true hm, show Z0z l = 0 by have := e2.2; omega] at h3
    simp at h3
  unfold Dsk.mid at h2
  rw [if_neg h0] at h2
  have h4 : na [s0, s1, s2, s3] 0 = 0 := e2.1
  omega
theorem Z6P {d : Dsk} (hd : d.ok) (s0 : HSt) (i : Nat) : Fsp ((d.sts.take d.nst).flatMap (evW d (ZV d s0 i))) (ZV d s0 (i + 1)) := by
  have h := Fsp.fold (fs := (d.sts.take d.nst).flatMap (evW d (ZV d s0 i))) Fsp.nil (fun f hf => by
    rw [List.nil_append] at hf
    obtain ⟨s, hs, w, _, l, hl, t, ht, rfl⟩ := mem_ev.1 hf
    exact Zf0 hd ((d.mem_sts hd s).1 hs) hl ht _)
  rw [List.nil_append] at h
  exact h
theorem Z3q {d : Dsk} {s0 : HSt} (s : HSt) : Z05 (ZV d s0 0) s = bif decide (s0 = s) then some zw else none := by
  unfold ZV Z05
  rw [List.find?_cons]
  dsimp only
  cases decide (s0 = s) <;> rfl
theorem Z5h {d : Dsk} (hd : d.ok) {s0 : HSt} {i : Nat} {s : HSt} {w : List Int} (h : Z05 (ZV d s0 (i + 1)) s = some w) :
    ∃ u w' l, u ∈ d.sts ∧ Z05 (ZV d s0 i) u = some w' ∧ l ∈ d.trs false ∧ d.next u l = some s ∧ w = u ++ [(Z0z l : Int), na w' 5 + (l.length : Int)] := by
  obtain ⟨u, hu, w', hw', l, hl, t, ht, e⟩ := mem_ev.1 ((Z6P hd s0 i).mem _ _ h)
  cases e
  exact ⟨u, w', l, hu, hw', hl, ht, rfl⟩
theorem Z4F {u : HSt} (hu : u.length = 4) (x y : Int) : na (u ++ [x, y]) 5 = y ∧ na (u ++ [x, y]) 4 = x ∧ (u ++ [x, y]).take 4 = u := by
  obtain ⟨a, b, c, e, rfl⟩ := Z0x hu
  exact ⟨rfl, rfl, rfl⟩
theorem Z5m {d : Dsk} (hd : d.ok) {s0 : HSt} (h0 : d.inS s0) : ∀ (i : Nat), (∀ s c, d.pth i s0 s c → ∃ w, Z05 (ZV d s0 i) s = some w ∧ na w 5 ≤ (c : Int)) ∧ (∀ s w, Z05 (ZV d s0 i) s = some w → ∃ c : Nat, na w 5 = c ∧ d.pth i s0 s c)
  | 0 => by
    refine ⟨fun s c h => ?_, fun s w h => ?_⟩
    · obtain ⟨rfl, rfl⟩ := h
      exact ⟨zw, by rw [Z3q, decide_eq_true rfl]; rfl, by decide⟩
    · rw [Z3q] at h
      by_cases e : s0 = s
      · rw [decide_eq_true e] at h; cases h; exact ⟨0, by decide, e.symm, rfl⟩
      · rw [decide_eq_false e] at h; cases h
  | i + 1 => by
    obtain ⟨i1, i2⟩ := Z5m hd h0 i
    refine ⟨fun s c h => ?_, fun s w h => ?_⟩
    · obtain ⟨u, a, l, h1, h2, h3, rfl⟩ := h
      obtain ⟨w, hw, hle⟩ := i1 u a h1
      have hu := d.pth_inS hd h0 h1
      obtain ⟨w', hw', hle'⟩ := (Z6P hd s0 i).has s (u ++ [(Z0z l : Int), na w 5 + (l.length : Int)]) (mem_ev.2 ⟨u, (d.mem_sts hd u).2 hu, w, hw, l, h2, s, h3, rfl⟩)
      rw [(Z4F hu.len _ _).1] at hle'
      exact ⟨w', hw', by push_cast; omega⟩
    · obtain ⟨u, w', l, hu, hw', hl, ht, rfl⟩ := Z5h hd h
      obtain ⟨c, hc, hp⟩ := i2 u w' hw'
      have hul := ((d.mem_sts hd u).1 hu).len
      refine ⟨c + l.length, ?_, u, c, l, hp, hl, ht, rfl⟩
      rw [(Z4F hul _ _).1, hc]; push_cast; rfl
def Bsp (m : MW) (D : List HSt) : Option (HSt × Int) → Prop
  | none => ∀ s ∈ D, Z05 m s = none
  | some p => p.1 ∈ D ∧ ∃ w, Z05 m p.1 = some w ∧ p.2 = na w 5 ∧ ∀ s ∈ D, ∀ w', Z05 m s = some w' → p.2 ≤ na w' 5
theorem Bsp.add {m : MW} {D : List HSt} {acc : Option (HSt × Int)} (h : Bsp m D acc) (s : HSt) : Bsp m (D ++ [s]) (Z2N m acc s) := by
  unfold Z2N
  cases hs : Z05 m s with
  | none =>
    dsimp only
    cases acc with
    | none => intro t ht; rcases List.mem_append.1 ht with h1 | h1; exact h t h1; rw [List.mem_singleton.1 h1]; exact hs
    | some p =>
      obtain ⟨h1, w, h2, h3, h4⟩ := h
      refine ⟨List.mem_append_left _ h1, w, h2, h3, fun t ht w' hw' => ?_⟩
      rcases List.mem_append.1 ht with h5 | h5
      · exact h4 t h5 w' hw'
      · rw [List.mem_singleton.1 h5, hs] at hw'; cases hw'
  | some w =>
    dsimp only
    cases acc with
    | none =>
      refine ⟨by simp, w, hs, rfl, fun t ht w' hw' => ?_⟩
      rcases List.mem_append.1 ht with h5 | h5
      · rw [h t h5] at hw'; cases hw'
      · rw [List.mem_singleton.1 h5, hs] at hw'; cases hw'; exact Int.le_refl _
    | some p =>
      obtain ⟨q, n⟩ := p
      obtain ⟨h1, w0, h2, h3, h4⟩ := h
      dsimp only at h1 h2 h3 h4 ⊢
      by_cases hlt : na w 5 < n
      · rw [decide_eq_true hlt, cond_true]
        refine ⟨by simp, w, hs, rfl, fun t ht w' hw' => ?_⟩
        dsimp only
        rcases List.mem_append.1 ht with h5 | h5
        · have := h4 t h5 w' hw'; omega
        · rw [List.mem_singleton.1 h5, hs] at hw'; cases hw'; exact Int.le_refl _
      · rw [decide_eq_false hlt, cond_false]
        refine ⟨List.mem_append_left _ h1, w0, h2, h3, fun t ht w' hw' => ?_⟩
        dsimp only
        rcases List.mem_append.1 ht with h5 | h5
        · exact h4 t h5 w' hw'
        · rw [List.mem_singleton.1 h5, hs] at hw'; cases hw'; omega
theorem Bsp.fold {m : MW} : ∀ {l D : List HSt} {acc : Option (HSt × Int)}, Bsp m D acc → Bsp m (D ++ l) (l.foldl (Z2N m) acc)
  | [], D, acc, h => by rw [List.append_nil]; exact h
  | s :: l, D, acc, h => by
    have := Bsp.fold (l := l) (h.add s)
    rw [List.append_assoc] at this
    exact this
theorem Z7k (d : Dsk) (m : MW) : Bsp m d.sts (Z0f d m d.nst) := by
  have h := Bsp.fold (m := m) (l := d.sts) (D := []) (acc := none) (fun s hs => by cases hs)
  unfold Z0f
  rw [List.take_of_length_le (by rw [d.sts_len]; exact Nat.le_refl _)]
  exact h
def Dsk.run (d : Dsk) : HSt → List (List Nat) → Option HSt
  | s, [] => some s
  | s, l :: p => match d.next s l with
    | none => none
    | some t => d.run t p
def Z2S (p : List (List Nat)) : Nat := (p.map List.length).sum
theorem Z7r (p q : List (List Nat)) : Z2S (p ++ q) = Z2S p + Z2S q := by unfold Z2S; rw [List.map_append, List.sum_append]
theorem Dsk.run_app (d : Dsk) : ∀ (p q : List (List Nat)) (s : HSt), d.run s (p ++ q) = match d.run s p with
    | none => none
    | some t => d.run t q
  | [], q, s => rfl
  | l :: p, q, s => by
    have e1 : ∀ r, d.run s (l :: r) = match d.next s l with
      | none => none
      | some t => d.run t r := fun r => rfl
    rw [List.cons_append, e1, e1]
    cases d.next s l with
    | none => rfl
    | some t => exact run_app d p q t
theorem Dsk.run_one (d : Dsk) (s : HSt) (l : List Nat) : d.run s [l] = d.next s l := by
  unfold Dsk.run
  cases d.next s l <;> rfl
theorem Z3T {d : Dsk} (hd : d.ok) {s0 : HSt} : ∀ (i : Nat) (s : HSt) (w : List Int), Z05 (ZV d s0 i) s = some w → (Z0K d s0 i s).length = i ∧ (∀ l ∈ Z0K d s0 i s, l ∈ d.trs false) ∧ d.run s0 (Z0K d s0 i s) = some s ∧ (Z2S (Z0K d s0 i s) : Int) = na w 5
  | 0, s, w, h => by
    rw [Z3q] at h
    by_cases e : s0 = s
    · rw [decide_eq_true e] at h; cases h; subst e; exact ⟨rfl, fun l hl => (by cases hl), rfl, rfl⟩
    · rw [decide_eq_false e] at h; cases h
  | i + 1, s, w, h => by
    obtain ⟨u, w', l, hu, hw', hl, ht, rfl⟩ := Z5h hd h
    obtain ⟨a5, a4, aT⟩ := Z4F ((d.mem_sts hd u).1 hu).len (Z0z l : Int) (na w' 5 + (l.length : Int))
    obtain ⟨i1, i2, i3, i4⟩ := Z3T hd i u w' hw'
    have hn := hd.n
    obtain ⟨v, hv, rfl⟩ : ∃ v, v < 2 ^ d.n ∧ l = ZF d.n v := by obtain ⟨v, hv, e, _⟩ := d.mem_trs.1 hl; exact ⟨v, hv, e⟩
    have hlt : Z0z (ZF d.n v) < 2 ^ d.n := Z48 fun k hk => Z30 hk
    have hlt4 : Z0z (ZF d.n v) < 2 ^ 4 := Nat.lt_of_lt_of_le hlt (Nat.pow_le_pow_right (by decide) hn.2)
    have eb : Z0K d s0 (i + 1) s = Z0K d s0 i u ++ [ZF d.n v] := by
      show Z0K d s0 i (((Z05 (ZV d s0 (i + 1)) s).getD zw).take 4) ++ [ZF 4 (na ((Z05 (ZV d s0 (i + 1)) s).getD zw) 4).toNat] = _
      rw [h, Option.getD_some, aT, a4, Int.toNat_natCast, Z4M hlt4 hlt, Z9a]
    rw [eb, a5]
    refine ⟨by simp [i1], fun k hk => ?_, by rw [d.run_app, i3]; dsimp only; rw [d.run_one]; exact ht, by rw [Z7r]; push_cast; rw [i4]; rfl⟩
    rcases List.mem_append.1 hk with h4 | h4
    · exact i2 k h4
    · rw [List.mem_singleton.1 h4]; exact hl
theorem Z9x {d : Dsk} (hd : d.ok) {s0 : HSt} (h0 : d.inS s0) (days : Nat) : (Z0f d (ZV d s0 days) d.nst = none ∧ ¬ ∃ t c, d.pth days s0 t c) ∨
    ∃ (s : HSt) (c : Nat), Z0f d (ZV d s0 days) d.nst = some (s, (c : Int)) ∧ FewC d s0 days c ∧ (Z0K d s0 days s).length = days ∧ (∀ l ∈ Z0K d s0 days s, l ∈ d.trs false) ∧ d.run s0 (Z0K d s0 days s) = some s ∧ Z2S (Z0K d s0 days s) = c := by
  have hb := Z7k d (ZV d s0 days)
  obtain ⟨m1, m2⟩ := Z5m hd h0 days
  cases he : Z0f d (ZV d s0 days) d.nst with
  | none =>
    rw [he] at hb
    refine .inl ⟨rfl, ?_⟩
    rintro ⟨t, c, hp⟩
    obtain ⟨w, hw, _⟩ := m1 t c hp
    rw [hb t ((d.mem_sts hd t).2 (d.pth_inS hd h0 hp))] at hw
    cases hw
  | some p =>
    rw [he] at hb
    obtain ⟨s, n⟩ := p
    obtain ⟨h1, w, h2, h3, h4⟩ := hb
    dsimp only at h1 h2 h3 h4
    obtain ⟨c, hc, hp⟩ := m2 s w h2
    obtain ⟨b1, b2, b3, b4⟩ := Z3T hd days s w h2
    refine .inr ⟨s, c, by rw [h3, hc], ⟨⟨s, hp⟩, fun t c' hp' => ?_⟩, b1, b2, b3, by omega⟩
    obtain ⟨w', hw', hle⟩ := m1 t c' hp'
    have := h4 t ((d.mem_sts hd t).2 (d.pth_inS hd h0 hp')) w' hw'
    omega
def Barn.stw (b : Barn) (ws : List Int) : HSt := pad ((List.range b.bins.length).map fun k => b.days (b.bins.getD k hb0) (na ws k))
theorem Barn.stw_at {b : Barn} {ws : List Int} {k : Nat} (hk : k < b.bins.length) : na (b.stw ws) k = b.days (b.bins.getD k hb0) (na ws k) := by
  unfold Barn.stw
  rw [Z1w]
  unfold na
  rw [List.getD_eq_getElem?_getD, List.getElem?_map, List.getElem?_range hk]; rfl
theorem Barn.stw_out {b : Barn} {ws : List Int} {k : Nat} (hk : b.bins.length ≤ k) : na (b.stw ws) k = 0 := by
  unfold Barn.stw
  rw [Z1w]
  unfold na
  rw [List.getD_eq_getElem?_getD, List.getElem?_eq_none (by simpa using hk)]; rfl
theorem Barn.stw_len {b : Barn} (hb : b.ok) (ws : List Int) : (b.stw ws).length = 4 := Z20 (by simpa using hb.many.2)
theorem Barn.state_at {b : Barn} (hb : b.ok) {k : Nat} (hk : k < b.bins.length) : na b.state k = b.days (b.bins.getD k hb0) (b.bins.getD k hb0).warm := by
  obtain ⟨x, hx⟩ : ∃ x, b.bins[k]? = some x := ⟨_, List.getElem?_eq_getElem hk⟩
  rw [Z01 hx]
  exact Z13 (b.map_get hb _ hx)
theorem Barn.lasts_at {b : Barn} (hb : b.ok) {k : Nat} (hk : k < b.bins.length) : na b.lasts k = b.days (b.bins.getD k hb0) b.cool := by
  obtain ⟨x, hx⟩ : ∃ x, b.bins[k]? = some x := ⟨_, List.getElem?_eq_getElem hk⟩
  rw [Z01 hx]
  exact Z13 (b.map_get hb _ hx)
theorem Barn.warms_at {b : Barn} {k : Nat} (hk : k < b.bins.length) : na b.warms k = (b.bins.getD k hb0).warm := by
  obtain ⟨x, hx⟩ : ∃ x, b.bins[k]? = some x := ⟨_, List.getElem?_eq_getElem hk⟩
  rw [Z01 hx]
  unfold na Barn.warms
  rw [List.getD_eq_getElem?_getD, List.getElem?_map, hx]; rfl
theorem Barn.stw_warms {b : Barn} (hb : b.ok) : b.stw b.warms = b.state := Z7t (b.stw_len hb _) (b.state_sml hb).len fun k _ => by
  rcases Nat.lt_or_ge k b.bins.length with h | h
  · rw [Barn.stw_at h, Barn.state_at hb h, Barn.warms_at h]
  · rw [Barn.stw_out h]
    unfold Barn.state
    rw [Z1w]
    unfold na
    rw [List.getD_eq_getElem?_getD, List.getElem?_eq_none (by simpa using h)]; rfl
theorem Z3S {r m w v : Int} (hr : 0 ≤ r) (h : w ≤ v) : Z00 r m v ≤ Z00 r m w := by
  unfold Z00
  by_cases h0 : r = 0
  · rw [decide_eq_true h0]; exact Int.le_refl _
  · rw [decide_eq_false h0, cond_false, cond_false]
    by_cases h1 : m < v
    · rw [decide_eq_true h1, cond_true]
      by_cases h2 : m < w
      · rw [decide_eq_true h2]; exact Int.le_refl _
      · rw [decide_eq_false h2, cond_false]; exact Int.ediv_nonneg (by omega) hr
    · rw [decide_eq_false h1, cond_false, decide_eq_false (by omega), cond_false]
      exact Int.ediv_le_ediv (by omega) (by omega)
theorem Z8q {r m w c : Int} (hr : 0 ≤ r) : max (Z00 r m w) (Z00 r m c) = Z00 r m (min w c) := by
  rcases Int.le_total w c with h | h
  · have := Z3S (m := m) hr h
    rw [Int.min_eq_left h]; omega
  · have := Z3S (m := m) hr h
    rw [Int.min_eq_right h]; omega
theorem Z7J {r m w : Int} (hr : 0 < r) (hw : w ≤ m) (h : m < w + r) : Z00 r m w = 0 := by
  unfold Z00
  rw [decide_eq_false (by omega), cond_false, decide_eq_false (by omega), cond_false]
  exact Int.ediv_eq_zero_of_lt (by omega) (by omega)
theorem Z5a {r m w : Int} (hr : 0 < r) (h : w + r ≤ m) : Z00 r m (w + r) = Z00 r m w - 1 ∧ 1 ≤ Z00 r m w := by
  have e : Z00 r m w = Z00 r m (w + r) + 1 := by
    unfold Z00
    rw [decide_eq_false (by omega), cond_false, cond_false, decide_eq_false (by omega), cond_false, decide_eq_false (by omega), cond_false]
    rw [show m - w = (m - (w + r)) + 1 * r by omega, Int.add_mul_ediv_right _ _ (by omega)]
  have : 0 ≤ Z00 r m (w + r) := by
    unfold Z00
    rw [decide_eq_false (by omega), cond_false, decide_eq_false (by omega), cond_false]
    exact Int.ediv_nonneg (by omega) (by omega)
  omega
theorem Zdw (l : List Nat) (k : Nat) : Z2P (il l) (k : Int) = decide (k ∈ l) := by
  rw [Bool.eq_iff_iff, decide_eq_true_eq]
  unfold Z2P il
  rw [List.any_eq_true]
  constructor
  · rintro ⟨y, hy, he⟩
    obtain ⟨j, hj, rfl⟩ := List.mem_map.1 hy
    have := of_decide_eq_true he
    obtain rfl : k = j := by omega
    exact hj
  · intro h; exact ⟨(k : Int), List.mem_map.2 ⟨k, h, rfl⟩, decide_eq_true rfl⟩
theorem Barn.bin_at {b : Barn} (hb : b.ok) {k : Nat} (hk : k < b.bins.length) : b.bins.getD k hb0 ∈ b.bins := by
  rw [List.getD_eq_getElem?_getD, List.getElem?_eq_getElem hk]; exact List.getElem_mem hk
theorem Barn.mid_of {b : Barn} (hb : b.ok) {ws : List Int} (l : List Nat) {k : Nat} (hk : k < b.bins.length) : b.dsk.mid (b.stw ws) l k = b.days (b.bins.getD k hb0) (bif Z2P (il l) k then min (na ws k) b.cool else na ws k) := by
  have hr := b.worst_range hb (Barn.bin_at hb hk)
  unfold Dsk.mid
  rw [Zdw, Barn.stw_at hk, show na b.dsk.lasts k = _ from Barn.lasts_at hb hk]
  by_cases h : k ∈ l
  · rw [if_pos h, decide_eq_true h, cond_true]; exact Z8q (by omega)
  · rw [if_neg h, decide_eq_false h, cond_false]
theorem Barn.run_day {b : Barn} (hb : b.ok) {ws : List Int} (hw : Cool b ws) {l : List Nat} (hl : ∀ k ∈ l, k < b.bins.length) :
    ((∀ k < b.bins.length, b.hotAt ws (il l) k = false) → b.dsk.next (b.stw ws) l = some (b.stw (b.dayW ws (il l)))) ∧ (∀ k < b.bins.length, b.hotAt ws (il l) k = true → b.dsk.next (b.stw ws) l = none) := by
  have hn := hb.many
  have key : ∀ k < b.bins.length, ∃ r m v, (r = 0 ∨ 6 ≤ r) ∧ v ≤ m ∧ m ≤ 60 ∧ 0 ≤ v ∧ b.dsk.mid (b.stw ws) l k = Z00 r m v ∧ (b.hotAt ws (il l) k = decide (m < v + r)) ∧ na (b.stw (b.dayW ws (il l))) k = Z00 r m (v + r) := fun k hk => by
    have hm := Barn.bin_at hb hk
    have hr := b.worst_range hb hm
    obtain ⟨x, hx⟩ : ∃ x, b.bins[k]? = some x := ⟨_, List.getElem?_eq_getElem hk⟩
    have hc := hw.at_ k x hx
    have hcl := hb.cool
    have hmk := (hb.bins x (List.mem_of_getElem? hx)).1
    have e1 := Barn.mid_of hb (ws := ws) l hk
    rw [Z01 hx] at e1 hr
    refine ⟨b.worst x, x.mark, bif Z2P (il l) k then min (na ws k) b.cool else na ws k, by omega, ?_, by omega, ?_, e1, ?_, ?_⟩
    · cases Z2P (il l) k <;> simp only [cond_true, cond_false] <;> omega
    · cases Z2P (il l) k <;> simp only [cond_true, cond_false] <;> omega
    · unfold Barn.hotAt; rw [Z01 hx, b.wdAt_of hx]; rfl
    · rw [Barn.stw_at hk, Z13 (b.dayW_at hk), b.wdAt_of hx, Z01 hx]; rfl
  constructor
  · intro hcold
    obtain ⟨t, ht⟩ := b.dsk.next_some hn.2 (b.stw_len hb ws) hl (fun k hk => by
      obtain ⟨r, m, v, h1, h2, h3, h4, h5, h6, h7⟩ := key k hk
      rw [h5]
      rcases h1 with rfl | h1
      · exact .inl rfl
      · have h8 := hcold k hk
        rw [h6, decide_eq_false_iff_not] at h8
        exact .inr (Z5a (by omega) (by omega)).2)
    rw [ht]
    congr 1
    obtain ⟨t1, t2⟩ := b.dsk.next_at hn.2 (b.stw_len hb ws) hl ht
    refine Z7t t1 (b.stw_len hb _) fun k _ => ?_
    rw [(t2 k).2]
    rcases Nat.lt_or_ge k b.bins.length with hk | hk
    · obtain ⟨r, m, v, h1, h2, h3, h4, h5, h6, h7⟩ := key k hk
      rw [h7, h5]
      rcases h1 with rfl | h1
      · rw [if_neg (by intro h; exact h.2 rfl)]; rfl
      · have h8 := hcold k hk
        rw [h6, decide_eq_false_iff_not] at h8
        have h9 := Z5a (r := r) (m := m) (w := v) (by omega) (by omega)
        have h10 : Z00 r m v ≤ 60 := by
          unfold Z00
          rw [decide_eq_false (by omega), cond_false, decide_eq_false (by omega), cond_false]
          exact Int.le_trans (Int.ediv_le_self _ (by omega)) (by omega)
        rw [if_pos ⟨hk, by omega⟩, h9.1]
    · rw [if_neg (by intro h; have : k < b.bins.length := h.1; omega), Barn.stw_out hk]
      unfold Dsk.mid
      rw [if_neg (fun h => by have := hl k h; omega), Barn.stw_out hk]
  · intro k hk hhot
    cases hnx : b.dsk.next (b.stw ws) l with
    | none => rfl
    | some t =>
      exfalso
      have h8 := ((b.dsk.next_at hn.2 (b.stw_len hb ws) hl hnx).2 k).1 hk
      obtain ⟨r, m, v, h1, h2, h3, h4, h5, h6, h7⟩ := key k hk
      rw [h6, decide_eq_true_eq] at hhot
      have h9 := Z7J (r := r) (m := m) (w := v) (by omega) h2 hhot
      rw [h5, h9] at h8
      omega
theorem Barn.run_burns {b : Barn} (hb : b.ok) : ∀ (p : List (List Nat)) (ws : List Int) (d0 : Nat), Cool b ws → (∀ l ∈ p, ∀ k ∈ l, k < b.bins.length) →
    (∃ ws', b.burnsF ws (p.map il) d0 = (none, ws') ∧ b.dsk.run (b.stw ws) p = some (b.stw ws') ∧ Cool b ws') ∨ (∃ q ws', b.burnsF ws (p.map il) d0 = (some q, ws') ∧ b.dsk.run (b.stw ws) p = none)
  | [], ws, d0, hc, _ => .inl ⟨ws, rfl, rfl, hc⟩
  | l :: p, ws, d0, hc, hl => by
    obtain ⟨r1, r2⟩ := Barn.run_day hb hc (hl l (by simp))
    rw [List.map_cons, b.burns_cons]
    cases hf : (List.range b.bins.length).find? (b.hotAt ws (il l)) with
    | some k =>
      rw [List.find?_range_eq_some] at hf
      refine .inr ⟨_, _, rfl, ?_⟩
      unfold Dsk.run
      rw [r2 k (List.mem_range.1 hf.2.1) hf.1]
    | none =>
      have hn : ∀ k < b.bins.length, b.hotAt ws (il l) k = false := fun k hk => by
        have := List.find?_eq_none.1 hf k (List.mem_range.2 hk)
        simpa using this
      dsimp only
      unfold Dsk.run
      rw [r1 hn]
      exact run_burns hb p _ (d0 + 1) (hc.next hb hn) (fun m hm => hl m (by simp [hm]))
theorem Z9c {l : List Int} (h : l.Pairwise (· < ·)) : Z9H l = true := Z46 fun i x y hx hy => by
  obtain ⟨h1, e1⟩ := List.getElem?_eq_some_iff.1 hx
  obtain ⟨h2, e2⟩ := List.getElem?_eq_some_iff.1 hy
  have := List.pairwise_iff_getElem.1 h i (i + 1) h1 h2 (by omega)
  rw [e1, e2] at this; exact this
theorem Z4P (n u : Nat) : (il (ZF n u)).Pairwise (· < ·) := by
  unfold il ZF
  rw [List.pairwise_map]
  exact (List.Pairwise.filter _ List.pairwise_lt_range).imp fun h => by omega
theorem Z6X {d : Dsk} {l : List Nat} (h : l ∈ d.trs false) : Z0H d.n d.gangs (il l) = 0 := by
  obtain ⟨u, hu, rfl, h1, _⟩ := d.mem_trs.1 h
  unfold Z0H
  have e1 : ((il (ZF d.n u)).all fun k => inB k 0 ((d.n : Int) - 1)) = true := by
    rw [List.all_eq_true]
    intro y hy
    obtain ⟨k, hk, rfl⟩ := List.mem_map.1 hy
    have := Z30 hk
    simp [inB]; omega
  rw [e1, Z9c (Z4P _ _), Z8n]
  unfold Dsk.g at h1
  rw [decide_eq_false (by omega)]; rfl
theorem Z2Q {d : Dsk} : ∀ {p : List (List Nat)}, (∀ l ∈ p, l ∈ d.trs false) → Z0j d.n d.gangs (p.map il) = 0
  | [], _ => rfl
  | l :: p, h => by
    rw [List.map_cons]
    unfold Z0j
    rw [Z6X (h l (by simp))]
    exact Z2Q fun m hm => h m (by simp [hm])
theorem Z6c {d : Dsk} {p : List (List Nat)} (hl : p.length ≤ 20000) (h : ∀ l ∈ p, l ∈ d.trs false) : Z08 d.n d.gangs (p.map il) = 0 := by
  unfold Z08
  rw [List.length_map, decide_eq_false (by omega)]
  exact Z2Q h
theorem Dsk.trs_four {d : Dsk} (hd : d.ok) {l : List Nat} (h : l ∈ d.trs false) : l.length ≤ 4 := Z4n hd h
theorem Dsk.pth_le {d : Dsk} (hd : d.ok) : ∀ {n : Nat} {s t : HSt} {c : Nat}, d.pth n s t c → c ≤ 4 * n
  | 0, s, t, c, h => by obtain ⟨_, rfl⟩ := h; omega
  | n + 1, s, t, c, h => by
    obtain ⟨u, a, l, h1, h2, _, rfl⟩ := h
    have := pth_le hd h1
    have := d.trs_four hd h2
    omega
def Sxc (n : Nat) (g : Int) (la : List Int) (now : List (List Int)) (cs : List Int) (i u : Nat) (t : List Int) (x : Int) : Prop := ∃ j s v a, now[j]? = some s ∧ cs[j]? = some a ∧ (j < i ∨ (j = i ∧ v < u)) ∧ v < 2 ^ n ∧ rS n g la s v = some t ∧ x = a + ((ZF 4 v).length : Int)
theorem Sxc.sx {n : Nat} {g : Int} {la : List Int} {now : List (List Int)} {cs : List Int} {i u : Nat} {t : List Int} {x : Int} (h : Sxc n g la now cs i u t x) : Sx n g la now i u t := by
  obtain ⟨j, s, v, a, h1, _, h3, h4, h5, _⟩ := h
  exact ⟨j, s, v, h1, h3, h4, h5⟩
theorem Sxc.step {n : Nat} {g : Int} {la s t : List Int} {now : List (List Int)} {cs : List Int} {i u : Nat} {a x : Int} (hs : now[i]? = some s) (ha : cs[i]? = some a) (hu : u < 2 ^ n) : Sxc n g la now cs i (u + 1) t x ↔ Sxc n g la now cs i u t x ∨ (rS n g la s u = some t ∧ x = a + ((ZF 4 u).length : Int)) := by
  constructor
  · rintro ⟨j, s', v, a', h1, h2, h3, h4, h5, h6⟩
    rcases h3 with h3 | ⟨rfl, h3⟩
    · exact .inl ⟨j, s', v, a', h1, h2, .inl h3, h4, h5, h6⟩
    · rcases Nat.lt_or_ge v u with h7 | h7
      · exact .inl ⟨j, s', v, a', h1, h2, .inr ⟨rfl, h7⟩, h4, h5, h6⟩
      · obtain rfl : v = u := by omega
        rw [hs] at h1; cases h1; rw [ha] at h2; cases h2; exact .inr ⟨h5, h6⟩
  · rintro (⟨j, s', v, a', h1, h2, h3, h4, h5, h6⟩ | ⟨h5, h6⟩)
    · exact ⟨j, s', v, a', h1, h2, by omega, h4, h5, h6⟩
    · exact ⟨i, s, u, a, hs, ha, by omega, hu, h5, h6⟩
theorem Sxc.next {n : Nat} {g : Int} {la t : List Int} {now : List (List Int)} {cs : List Int} {i : Nat} {x : Int} : Sxc n g la now cs (i + 1) 0 t x ↔ Sxc n g la now cs i (2 ^ n) t x := by
  constructor
  · rintro ⟨j, s', v, a, h1, h2, h3, h4, h5⟩
    exact ⟨j, s', v, a, h1, h2, by omega, h4, h5⟩
  · rintro ⟨j, s', v, a, h1, h2, h3, h4, h5⟩
    exact ⟨j, s', v, a, h1, h2, by omega, h4, h5⟩
structure Bc (n : Nat) (g : Int) (la : List Int) (now : List (List Int)) (cs : List Int) (i u : Nat) (L : List (List Int)) (S : List Int) : Prop where
  bf : Bf n g la now i u L
  len : S.length = L.length
  val : ∀ (j : Nat) (t : List Int) (x : Int), L[j]? = some t → S[j]? = some x → Sxc n g la now cs i u t x ∧ ∀ y, Sxc n g la now cs i u t y → x ≤ y
theorem Bc.start {n : Nat} {g : Int} {la : List Int} {now : List (List Int)} {cs : List Int} : Bc n g la now cs 0 0 [] [] := ⟨Bf.start, rfl, fun j t x h => by simp at h⟩
theorem Bc.next {n : Nat} {g : Int} {la : List Int} {now : List (List Int)} {cs : List Int} {i : Nat} {L : List (List Int)} {S : List Int} (h : Bc n g la now cs i (2 ^ n) L S) : Bc n g la now cs (i + 1) 0 L S :=
  ⟨h.bf.next, h.len, fun j t x h1 h2 => by
    obtain ⟨h3, h4⟩ := h.val j t x h1 h2
    exact ⟨Sxc.next.2 h3, fun y hy => h4 y (Sxc.next.1 hy)⟩⟩
theorem Bc.skip {n : Nat} {g : Int} {la s : List Int} {now : List (List Int)} {cs : List Int} {i u : Nat} {L : List (List Int)} {S : List Int} {a : Int} (h : Bc n g la now cs i u L S) (hs : now[i]? = some s) (ha : cs[i]? = some a) (hu : u < 2 ^ n) (hn : rS n g la s u = none) : Bc n g la now cs i (u + 1) L S :=
  ⟨h.bf.skip hs hu (fun t ht => by rw [hn] at ht; cases ht), h.len, fun j t x h1 h2 => by
    obtain ⟨h3, h4⟩ := h.val j t x h1 h2
    refine ⟨(Sxc.step hs ha hu).2 (.inl h3), fun y hy => ?_⟩
    rcases (Sxc.step hs ha hu).1 hy with h5 | ⟨h5, _⟩
    · exact h4 y h5
    · rw [hn] at h5; cases h5⟩
theorem Bc.add {n : Nat} {g : Int} {la s t : List Int} {now : List (List Int)} {cs : List Int} {i u : Nat} {L : List (List Int)} {S : List Int} {a : Int} (h : Bc n g la now cs i u L S) (hs : now[i]? = some s) (ha : cs[i]? = some a) (hu : u < 2 ^ n) (ht : rS n g la s u = some t) (hn : t ∉ L) :
    Bc n g la now cs i (u + 1) (L ++ [t]) (S ++ [a + ((ZF 4 u).length : Int)]) where
  bf := h.bf.add hs hu ht hn
  len := by rw [List.length_append, List.length_append, h.len]; rfl
  val j t' x h1 h2 := by
    have hl := h.len
    rcases Nat.lt_or_ge j L.length with hj | hj
    · rw [List.getElem?_append_left hj] at h1
      rw [List.getElem?_append_left (by omega)] at h2
      obtain ⟨h3, h4⟩ := h.val j t' x h1 h2
      refine ⟨(Sxc.step hs ha hu).2 (.inl h3), fun y hy => ?_⟩
      rcases (Sxc.step hs ha hu).1 hy with h5 | ⟨h5, _⟩
      · exact h4 y h5
      · rw [ht] at h5; cases h5; exact absurd (List.mem_of_getElem? h1) hn
    · have hj2 := (List.getElem?_eq_some_iff.1 h1).1
      rw [List.length_append, List.length_singleton] at hj2
      obtain rfl : j = L.length := by omega
      rw [List.getElem?_append_right (Nat.le_refl _), Nat.sub_self] at h1
      rw [← hl, List.getElem?_append_right (Nat.le_refl _), Nat.sub_self] at h2
      cases h1; cases h2
      refine ⟨(Sxc.step hs ha hu).2 (.inr ⟨ht, rfl⟩), fun y hy => ?_⟩
      rcases (Sxc.step hs ha hu).1 hy with h5 | ⟨_, h5⟩
      · exact absurd ((h.bf.mem _).2 h5.sx) hn
      · rw [h5]; exact Int.le_refl _
theorem Bc.low {n : Nat} {g : Int} {la s t : List Int} {now : List (List Int)} {cs : List Int} {i u k : Nat} {L : List (List Int)} {S : List Int} {a x : Int} (h : Bc n g la now cs i u L S) (hs : now[i]? = some s) (ha : cs[i]? = some a) (hu : u < 2 ^ n) (ht : rS n g la s u = some t) (hk : L[k]? = some t) (hx : S[k]? = some x) :
    Bc n g la now cs i (u + 1) L (S.set k (min x (a + ((ZF 4 u).length : Int)))) where
  bf := h.bf.skip hs hu (fun t2 ht2 => by rw [ht] at ht2; cases ht2; exact List.mem_of_getElem? hk)
  len := by rw [List.length_set, h.len]
  val j t' y h1 h2 := by
    have hl := h.len
    have hkl := (List.getElem?_eq_some_iff.1 hk).1
    by_cases hj : k = j
    · subst hj
      rw [hk] at h1; cases h1
      rw [List.getElem?_set_self (by omega)] at h2; cases h2
      obtain ⟨h3, h4⟩ := h.val k t x hk hx
      refine ⟨(Sxc.step hs ha hu).2 ?_, fun y hy => ?_⟩
      · rcases Int.le_total x (a + ((ZF 4 u).length : Int)) with h5 | h5
        · rw [Int.min_eq_left h5]; exact .inl h3
        · rw [Int.min_eq_right h5]; exact .inr ⟨ht, rfl⟩
      · rcases (Sxc.step hs ha hu).1 hy with h5 | ⟨_, h5⟩
        · have := h4 y h5; omega
        · omega
    · rw [List.getElem?_set_ne hj] at h2
      obtain ⟨h3, h4⟩ := h.val j t' y h1 h2
      refine ⟨(Sxc.step hs ha hu).2 (.inl h3), fun z hz => ?_⟩
      rcases (Sxc.step hs ha hu).1 hz with h5 | ⟨h5, _⟩
      · exact h4 z h5
      · rw [ht] at h5; cases h5
        exact absurd ((List.getElem?_inj hkl h.bf.nd).1 (hk.trans h1.symm)) hj
structure Lvc (d : Dsk) (s0 : HSt) (day : Nat) (L : List (List Int)) (C : List Int) : Prop where
  lv : Lv d s0 day L
  len : C.length = L.length
  val : ∀ (j : Nat) (t : List Int) (x : Int), L[j]? = some t → C[j]? = some x → ∃ c : Nat, x = c ∧ d.pth day s0 (pad t) c ∧ ∀ c', d.pth day s0 (pad t) c' → c ≤ c'
theorem Lvc.start {d : Dsk} {s : List Int} (hs : s.length = d.n) : Lvc d (pad s) 0 [s] [0] := ⟨Lv.start hs, rfl, fun j t x h1 h2 => by
  cases j with
  | succ j => simp at h1
  | zero => cases h1; cases h2; exact ⟨0, rfl, ⟨rfl, rfl⟩, fun c' _ => Nat.zero_le _⟩⟩
theorem Lvc.next {d : Dsk} (hd : d.ok) {s0 : HSt} (h0 : d.inS s0) {la : List Int} (hla : ∀ k < d.n, na la k = na d.lasts k) {day : Nat} {now L : List (List Int)} {cs S : List Int} (h : Lvc d s0 day now cs) (hb : Bc d.n d.gangs la now cs now.length 0 L S) : Lvc d s0 (day + 1) L S where
  lv := h.lv.next hd h0 hla hb.bf
  len := hb.len
  val j t x h1 h2 := by
    have hn := hd.n
    have htl := hb.bf.len t (List.mem_of_getElem? h1)
    obtain ⟨⟨i, s, v, a, g1, g2, _, g4, g5, rfl⟩, h4⟩ := hb.val j t x h1 h2
    obtain ⟨ca, rfl, hp, _⟩ := h.val i s a g1 g2
    have hsl := h.lv.len s (List.mem_of_getElem? g1)
    obtain ⟨k1, k2⟩ := (Z55 hd hla hsl htl g4).1 g5
    have e4 := Z5V hn.2 g4
    refine ⟨ca + (ZF d.n v).length, by rw [e4]; push_cast; rfl, ⟨_, ca, _, hp, k1, k2, rfl⟩, fun c' hc' => ?_⟩
    obtain ⟨u, a', l, p1, p2, p3, rfl⟩ := hc'
    have hu := d.pth_inS hd h0 p1
    have eu := Z3a hd hu
    have hul : (u.take d.n).length = d.n := by rw [List.length_take, hu.len]; omega
    have hmem : u.take d.n ∈ now := (h.lv.mem _ hul).2 ⟨a', by rw [eu]; exact p1⟩
    obtain ⟨i2, hi2⟩ := List.getElem?_of_mem hmem
    have hi2l := (List.getElem?_eq_some_iff.1 hi2).1
    obtain ⟨y, hy⟩ : ∃ y, cs[i2]? = some y := ⟨_, List.getElem?_eq_getElem (by rw [h.len]; exact hi2l)⟩
    obtain ⟨cy, rfl, _, hmin⟩ := h.val i2 _ y hi2 hy
    rw [eu] at hmin
    have := hmin a' p1
    obtain ⟨w, hw, rfl, _⟩ := d.mem_trs.1 p2
    have e5 := Z5V hn.2 hw
    have := h4 _ ⟨i2, _, w, _, hi2, hy, .inl hi2l, hw, (Z55 hd hla hul htl hw).2 ⟨p2, by rw [eu]; exact p3⟩, rfl⟩
    omega
theorem Lvc.few {d : Dsk} (hd : d.ok) {s0 : HSt} (h0 : d.inS s0) {day : Nat} {L : List (List Int)} {C : List Int} (h : Lvc d s0 day L C) {j : Nat} {x : Int} (hx : C[j]? = some x) (hm : ∀ (i : Nat) (y : Int), C[i]? = some y → x ≤ y) : ∃ c : Nat, x = c ∧ FewC d s0 day c := by
  have hj := (List.getElem?_eq_some_iff.1 hx).1
  have hl := h.len
  obtain ⟨t, ht⟩ : ∃ t, L[j]? = some t := ⟨_, List.getElem?_eq_getElem (by omega)⟩
  obtain ⟨c, rfl, hp, _⟩ := h.val j t x ht hx
  refine ⟨c, rfl, ⟨_, hp⟩, fun u c' hu => ?_⟩
  have hi := d.pth_inS hd h0 hu
  have eu := Z3a hd hi
  have hn := hd.n
  have hmem : u.take d.n ∈ L := (h.lv.mem _ (by rw [List.length_take, hi.len]; omega)).2 ⟨c', by rw [eu]; exact hu⟩
  obtain ⟨i2, hi2⟩ := List.getElem?_of_mem hmem
  have hi2l := (List.getElem?_eq_some_iff.1 hi2).1
  obtain ⟨y, hy⟩ : ∃ y, C[i2]? = some y := ⟨_, List.getElem?_eq_getElem (by omega)⟩
  obtain ⟨cy, rfl, _, hmin⟩ := h.val i2 _ y hi2 hy
  rw [eu] at hmin
  have := hmin c' hu
  have := hm i2 _ hy
  omega
theorem Lvc.none {d : Dsk} (hd : d.ok) {s0 : HSt} (h0 : d.inS s0) {day : Nat} {L : List (List Int)} {C : List Int} (h : Lvc d s0 day L C) (hc : C = []) : ¬ ∃ t c, d.pth day s0 t c := by
  rintro ⟨u, c', hu⟩
  have hi := d.pth_inS hd h0 hu
  have eu := Z3a hd hi
  have hn := hd.n
  have hmem : u.take d.n ∈ L := (h.lv.mem _ (by rw [List.length_take, hi.len]; omega)).2 ⟨c', by rw [eu]; exact hu⟩
  have hl := h.len
  rw [hc] at hl
  rw [List.length_eq_zero_iff.1 hl.symm] at hmem
  cases hmem
theorem Lvc.bd {d : Dsk} (hd : d.ok) {s0 : HSt} {day : Nat} {L : List (List Int)} {C : List Int} (h : Lvc d s0 day L C) {j : Nat} {x : Int} (hx : C[j]? = some x) : 0 ≤ x ∧ x ≤ 4 * (day : Int) := by
  have hj := (List.getElem?_eq_some_iff.1 hx).1
  have hl := h.len
  obtain ⟨t, ht⟩ : ∃ t, L[j]? = some t := ⟨_, List.getElem?_eq_getElem (by omega)⟩
  obtain ⟨c, rfl, hp, _⟩ := h.val j t x ht hx
  have := d.pth_le hd hp
  omega
theorem Bc.bd {n : Nat} {g : Int} {la : List Int} {now : List (List Int)} {cs : List Int} {i u : Nat} {L : List (List Int)} {S : List Int} {B : Int} (h : Bc n g la now cs i u L S) (hc : ∀ (j : Nat) (x : Int), cs[j]? = some x → 0 ≤ x ∧ x ≤ B) {j : Nat} {x : Int} (hx : S[j]? = some x) : 0 ≤ x ∧ x ≤ B + 4 := by
  have hj := (List.getElem?_eq_some_iff.1 hx).1
  have hl := h.len
  obtain ⟨t, ht⟩ : ∃ t, L[j]? = some t := ⟨_, List.getElem?_eq_getElem (by omega)⟩
  obtain ⟨⟨i, s, v, a, _, g2, _, _, _, rfl⟩, _⟩ := h.val j t x ht hx
  have := hc _ _ g2
  have := Zbh v
  omega
def Zez (b : Barn) (n : Nat) (m : Int) : Prop := (m = -1 ∧ ¬ ∃ t c, b.dsk.pth n b.state t c) ∨ ∃ c : Nat, m = c ∧ FewC b.dsk b.state n c
def MinI (cs : List Int) (i : Nat) (m : Int) : Prop := (i = 0 ∧ m = -1) ∨ (0 < i ∧ 0 ≤ m ∧ (∃ j : Nat, cs[j]? = some m) ∧ ∀ (j : Nat) (x : Int), j < i → cs[j]? = some x → m ≤ x)
theorem MinI.take {cs : List Int} {i : Nat} {m x : Int} (h : MinI cs i m) (hx : cs[i]? = some x) (h0 : 0 ≤ x) (hc : m < 0 ∨ x < m) : MinI cs (i + 1) x := by
  refine .inr ⟨by omega, h0, ⟨i, hx⟩, fun j y hj hy => ?_⟩
  rcases Nat.lt_or_ge j i with h1 | h1
  · rcases h with ⟨rfl, _⟩ | ⟨_, h2, _, h3⟩
    · omega
    · have := h3 j y h1 hy; omega
  · obtain rfl : j = i := by omega
    rw [hx] at hy; cases hy; exact Int.le_refl _
theorem MinI.keep {cs : List Int} {i : Nat} {m x : Int} (h : MinI cs i m) (hx : cs[i]? = some x) (h0 : ¬ m < 0) (hc : ¬ x < m) : MinI cs (i + 1) m := by
  rcases h with ⟨_, rfl⟩ | ⟨h1, h2, h3, h4⟩
  · omega
  · refine .inr ⟨by omega, h2, h3, fun j y hj hy => ?_⟩
    rcases Nat.lt_or_ge j i with h5 | h5
    · exact h4 j y h5 hy
    · obtain rfl : j = i := by omega
      rw [hx] at hy; cases hy; omega
theorem MinI.done {b : Barn} (hok : b.ok) {n : Nat} {L : List (List Int)} {cs : List Int} (h : Lvc b.dsk b.state n L cs) {m : Int} (hm : MinI cs cs.length m) : Zez b n m := by
  have hdk := b.dsk_ok hok
  have hst := b.state_inS hok
  rcases hm with ⟨h1, rfl⟩ | ⟨_, _, ⟨j, hj⟩, h4⟩
  · exact .inl ⟨rfl, h.none hdk hst (List.length_eq_zero_iff.1 h1)⟩
  · exact .inr (h.few hdk hst hj fun i y hy => h4 i y (List.getElem?_eq_some_iff.1 hy).1 hy)
structure Les (d d' : Dsk) : Prop where
  n : d.n = d'.n
  g : d.gangs ≤ d'.gangs
  lasts : ∀ k < d.n, na d.lasts k ≤ na d'.lasts k
theorem Les.next {d d' : Dsk} (h : Les d d') (hd : d.ok) (hd' : d'.ok) {s s' t : HSt} (hs : d.inS s) (hs' : d'.inS s') (hle : ∀ k < d.n, na s k ≤ na s' k) {l : List Nat} (hl : ∀ k ∈ l, k < d.n) (e : d.next s l = some t) : ∃ t', d'.next s' l = some t' ∧ ∀ k < d.n, na t k ≤ na t' k := by
  have hn := h.n
  obtain ⟨_, h2⟩ := d.next_at hd.n.2 hs.len hl e
  have hl' : ∀ k ∈ l, k < d'.n := fun k hk => by have := hl k hk; omega
  have hm : ∀ k < d.n, d.mid s l k ≤ d'.mid s' l k := fun k hk => by
    have h4 := hle k hk
    have h5 := h.lasts k hk
    unfold Dsk.mid
    by_cases h3 : k ∈ l
    · rw [if_pos h3, if_pos h3]; omega
    · rw [if_neg h3, if_neg h3]; exact h4
  obtain ⟨t', ht'⟩ := d'.next_some hd'.n.2 hs'.len hl' (fun k hk => by
    have hk0 : k < d.n := by omega
    have := hm k hk0; have := (h2 k).1 hk0; have := d.inS_mid hd hs l hk0; have := d'.inS_mid hd' hs' l hk; have := (hd.ever k hk0).2.1; have := (hd'.ever k hk).2.1; omega)
  refine ⟨t', ht', fun k hk => ?_⟩
  have hk' : k < d'.n := by omega
  obtain ⟨_, h3⟩ := d'.next_at hd'.n.2 hs'.len hl' ht'
  have a1 := (h2 k).2; have a2 := (h3 k).2
  have := hm k hk
  have b1 := d.inS_mid hd hs l hk; have b2 := d'.inS_mid hd' hs' l hk'
  have := (hd.ever k hk).2.1; have := (hd'.ever k hk').2.1
  rw [a1, a2]
  split <;> split <;> omega
theorem Les.trs {d d' : Dsk} (h : Les d d') {l : List Nat} (hl : l ∈ d.trs false) : l ∈ d'.trs false := by
  obtain ⟨u, hu, rfl, h1, _⟩ := d.mem_trs.1 hl
  have hn := h.n; have hg := h.g
  refine d'.mem_trs.2 ⟨u, by rw [← hn]; exact hu, by rw [← hn], ?_, fun h => by cases h⟩
  unfold Dsk.g at h1 ⊢
  omega
theorem Les.pth {d d' : Dsk} (h : Les d d') (hd : d.ok) (hd' : d'.ok) {s s' : HSt} (hs : d.inS s) (hs' : d'.inS s') (hle : ∀ k < d.n, na s k ≤ na s' k) : ∀ {n : Nat} {t : HSt} {c : Nat}, d.pth n s t c → ∃ t', d'.pth n s' t' c ∧ ∀ k < d.n, na t k ≤ na t' k
  | 0, t, c, hp => by obtain ⟨rfl, rfl⟩ := hp; exact ⟨s', ⟨rfl, rfl⟩, hle⟩
  | n + 1, t, c, hp => by
    obtain ⟨u, a, l, h1, h2, h3, rfl⟩ := hp
    obtain ⟨u', i1, i2⟩ := Les.pth h hd hd' hs hs' hle h1
    obtain ⟨t', j1, j2⟩ := h.next hd hd' (d.pth_inS hd hs h1) (d'.pth_inS hd' hs' i1) i2 (d.trs_lt h2) h3
    exact ⟨t', ⟨u', a, l, i1, h.trs h2, j1, rfl⟩, j2⟩
theorem Les.run {d d' : Dsk} (h : Les d d') (hd : d.ok) (hd' : d'.ok) : ∀ {p : List (List Nat)} {s s' t : HSt}, d.inS s → d'.inS s' → (∀ k < d.n, na s k ≤ na s' k) → (∀ l ∈ p, l ∈ d.trs false) → d.run s p = some t → ∃ t', d'.run s' p = some t' ∧ ∀ k < d.n, na t k ≤ na t' k
  | [], s, s', t, _, _, hle, _, hr => by cases hr; exact ⟨s', rfl, hle⟩
  | l :: p, s, s', t, hs, hs', hle, hp, hr => by
    unfold Dsk.run at hr
    split at hr
    · cases hr
    · rename_i u hu
      obtain ⟨u', j1, j2⟩ := h.next hd hd' hs hs' hle (d.trs_lt (hp l (by simp))) hu
      have hlt := d'.trs_lt (h.trs (hp l (by simp)))
      obtain ⟨t', i1, i2⟩ := Les.run h hd hd' (d.next_inS hd hs (d.trs_lt (hp l (by simp))) hu) (d'.next_inS hd' hs' hlt j1) j2 (fun m hm => hp m (by simp [hm])) hr
      refine ⟨t', ?_, i2⟩
      unfold Dsk.run
      rw [j1]; exact i1
theorem kpt_pth {d : Dsk} (hd : d.ok) {s : HSt} (hs : d.inS s) {v : Int} (h : Kpt d s v) (n : Nat) : (∃ t c, d.pth n s t c) ↔ v = 1000000 ∨ (n : Int) ≤ v := by
  rw [← d.alive_iff hd hs]
  rcases h with ⟨rfl, h1⟩ | ⟨j, hj, rfl, h1, h2⟩
  · exact ⟨fun _ => .inl rfl, fun _ => h1 n⟩
  · constructor
    · intro h3
      right
      rcases Nat.lt_or_ge j n with h4 | h4
      · exact absurd (d.alive_le (by omega) h3) h2
      · omega
    · rintro (h3 | h3)
      · omega
      · exact d.alive_le (by omega) h1
theorem kpt_nn {d : Dsk} {s : HSt} {v : Int} (h : Kpt d s v) : 0 ≤ v ∧ (v = 1000000 ∨ v ≤ 14641) := by
  rcases h with ⟨rfl, _⟩ | ⟨j, hj, rfl, _⟩ <;> omega
theorem Z8w {d d' : Dsk} (hd : d.ok) (hd' : d'.ok) {s s' : HSt} (hs : d.inS s) (hs' : d'.inS s') (hp : ∀ n, (∃ t c, d.pth n s t c) → ∃ t c, d'.pth n s' t c) {v v' : Int} (h : Kpt d s v) (h' : Kpt d' s' v') : v ≤ v' ∧ (v = 1000000 → v' = 1000000) := by
  have n1 := kpt_nn h; have n2 := kpt_nn h'
  have key : ∀ n : Nat, (v = 1000000 ∨ (n : Int) ≤ v) → (v' = 1000000 ∨ (n : Int) ≤ v') := fun n hn => (kpt_pth hd' hs' h' n).1 (hp n ((kpt_pth hd hs h n).2 hn))
  rcases Int.lt_or_le v' 1000000 with h1 | h1
  · have h2 := key (v'.toNat + 1)
    have h3 := key v.toNat
    omega
  · omega
theorem Les.kpt {d d' : Dsk} (h : Les d d') (hd : d.ok) (hd' : d'.ok) {s s' : HSt} (hs : d.inS s) (hs' : d'.inS s') (hle : ∀ k < d.n, na s k ≤ na s' k) {v v' : Int} (hv : Kpt d s v) (hv' : Kpt d' s' v') : v ≤ v' ∧ (v = 1000000 → v' = 1000000) :=
  Z8w hd hd' hs hs' (fun _ ⟨_, c, hp⟩ => by obtain ⟨t', i, _⟩ := h.pth hd hd' hs hs' hle hp; exact ⟨t', c, i⟩) hv hv'
theorem Les.few {d d' : Dsk} (h : Les d d') (hd : d.ok) (hd' : d'.ok) {s s' : HSt} (hs : d.inS s) (hs' : d'.inS s') (hle : ∀ k < d.n, na s k ≤ na s' k) {n c c' : Nat} (hc : FewC d s n c) (hc' : FewC d' s' n c') : c' ≤ c := by
  obtain ⟨t, ht⟩ := hc.is
  obtain ⟨t', i, _⟩ := h.pth hd hd' hs hs' hle ht
  exact hc'.le _ _ i
structure PlnOk (b : Barn) (n c : Nat) (p : List (List Nat)) : Prop where
  few : FewC b.dsk b.state n c
  len : p.length = n
  trs : ∀ l ∈ p, l ∈ b.dsk.trs false
  run : ∃ t, b.dsk.run b.state p = some t
  sum : Z2S p = c
theorem Z3I {b : Barn} (hok : b.ok) (hck : b.check = 0) {n : Nat} (hn : n ≤ 20) : (planE b n = 6 ∧ turnsV b n = 0 ∧ ¬ ∃ t c, b.dsk.pth n b.state t c) ∨ ∃ (c : Nat) (p : List (List Nat)), planE b n = 0 ∧ turnsV b n = c ∧ Z4W b n = p.map il ∧ PlnOk b n c p := by
  have hin : inB (n : Int) 0 20 = true := by simp [inB]; omega
  have he : planE b n = bif (Z0f b.dsk (ZV b.dsk b.state n) b.dsk.nst).isNone then 6 else 0 := by
    unfold planE; rw [decide_eq_true hck, hin, Int.toNat_natCast]; rfl
  rcases Z9x (b.dsk_ok hok) (b.state_inS hok) n with ⟨h1, h2⟩ | ⟨s, c, h1, h2, h3, h4, h5, h6⟩
  · have e6 : planE b n = 6 := by rw [he, h1]; rfl
    exact .inl ⟨e6, by unfold turnsV; rw [e6]; rfl, h2⟩
  · have e0 : planE b n = 0 := by rw [he, h1]; rfl
    refine .inr ⟨c, Z0K b.dsk b.state n s, e0, by unfold turnsV; rw [e0, Int.toNat_natCast, h1]; rfl, by unfold Z4W; rw [Int.toNat_natCast, h1]; rfl, h2, h3, h4, ⟨s, h5⟩, h6⟩
structure RndOk (b : Barn) (p q : List (List Nat)) : Prop where
  hp : ∀ l ∈ p, l ∈ b.dsk.trs true
  hq : ∀ l ∈ q, l ∈ b.dsk.trs true
  ne : q ≠ []
  len : p.length + q.length ≤ 14641
  run : ∃ u, b.dsk.run b.state p = some u ∧ b.dsk.run u q = some u
theorem Dsk.run_rep {d : Dsk} {u : HSt} {q : List (List Nat)} (h : d.run u q = some u) : ∀ n, d.run u (List.replicate n q).flatten = some u
  | 0 => rfl
  | n + 1 => by
    rw [List.replicate_succ, List.flatten_cons, d.run_app, h]
    exact run_rep h n
theorem RndOk.goes {b : Barn} (hb : b.ok) {p q : List (List Nat)} (h : RndOk b p q) : b.goes (p.map il) (q.map il) := fun n => by
  obtain ⟨u, h1, h2⟩ := h.run
  have e : p.map il ++ rep n (q.map il) = (p ++ (List.replicate n q).flatten).map il := by
    unfold rep
    rw [List.map_append, List.map_flatten, List.map_replicate]
  rw [e]
  have hr : b.dsk.run (b.stw b.warms) (p ++ (List.replicate n q).flatten) = some u := by
    rw [Barn.stw_warms hb, b.dsk.run_app, h1]
    exact Dsk.run_rep h2 n
  rcases Barn.run_burns hb (p ++ (List.replicate n q).flatten) b.warms 0 (Cool.start hb) (fun l hl k hk => by
    rcases List.mem_append.1 hl with hl | hl
    · exact b.dsk.trs_lt (h.hp l hl) k hk
    · obtain ⟨r, hr, hl⟩ := List.mem_flatten.1 hl
      rw [(List.mem_replicate.1 hr).2] at hl
      exact b.dsk.trs_lt (h.hq l hl) k hk) with ⟨ws, h3, _⟩ | ⟨x, ws, _, h4⟩
  · rw [h3]
  · rw [hr] at h4; cases h4
structure Met (d : Dsk) (s0 : HSt) (S : List HSt) (p : List (List Nat)) (s : HSt) : Prop where
  len : S.length = p.length
  nd : S.Nodup
  trs : ∀ l ∈ p, l ∈ d.trs true
  at_ : ∀ j t, S[j]? = some t → d.run s0 (p.take j) = some t ∧ d.inS t
  run : d.run s0 p = some s
  inS : d.inS s
  ever : ∀ m, s ∈ d.alive m
theorem Met.start {d : Dsk} {s : HSt} (h : d.inS s) (he : ∀ m, s ∈ d.alive m) : Met d s [] [] s := ⟨rfl, List.nodup_nil, by simp, by simp, rfl, h, he⟩
theorem Met.few {d : Dsk} (hd : d.ok) {s0 s : HSt} {S : List HSt} {p : List (List Nat)} (h : Met d s0 S p s) : S.length ≤ d.nst := by
  have := Z0M h.nd (m := d.sts) fun t ht => by
    obtain ⟨j, hj⟩ := List.getElem?_of_mem ht
    exact (d.mem_sts hd t).2 (h.at_ j t hj).2
  rw [d.sts_len] at this
  exact this
theorem Met.next {d : Dsk} (hd : d.ok) {s0 s t : HSt} {S : List HSt} {p : List (List Nat)} (h : Met d s0 S p s) (hs : s ∉ S) {l : List Nat} (hl : l ∈ d.trs true) (hn : d.next s l = some t) (he : ∀ m, t ∈ d.alive m) : Met d s0 (S ++ [s]) (p ++ [l]) t where
  len := by rw [List.length_append, List.length_append, h.len]; rfl
  nd := List.nodup_append.2 ⟨h.nd, by simp, fun x hx y hy e => hs (by rw [← List.mem_singleton.1 hy, ← e]; exact hx)⟩
  trs m hm := by
    rcases List.mem_append.1 hm with hm | hm
    · exact h.trs m hm
    · rw [List.mem_singleton.1 hm]; exact hl
  at_ j u hu := by
    have hlen := h.len
    rcases Nat.lt_or_ge j S.length with hj | hj
    · rw [List.getElem?_append_left hj] at hu
      rw [List.take_append_of_le_length (by omega)]
      exact h.at_ j u hu
    · have hj2 := (List.getElem?_eq_some_iff.1 hu).1
      rw [List.length_append, List.length_singleton] at hj2
      obtain rfl : j = S.length := by omega
      rw [List.getElem?_append_right (Nat.le_refl _), Nat.sub_self] at hu
      cases hu
      rw [hlen, List.take_left]
      exact ⟨h.run, h.inS⟩
  run := by rw [d.run_app, h.run]; dsimp only; rw [d.run_one]; exact hn
  inS := d.next_inS hd h.inS (d.trs_lt hl) hn
  ever := he
theorem Met.done {b : Barn} (hok : b.ok) {s : HSt} {S : List HSt} {p : List (List Nat)} (h : Met b.dsk b.state S p s) {j : Nat} (hj : S[j]? = some s) : RndOk b (p.take j) (p.drop j) := by
  have hjl := (List.getElem?_eq_some_iff.1 hj).1
  have hlen := h.len
  have hf := h.few (b.dsk_ok hok)
  have hn := (b.dsk.nst_le (b.dsk_ok hok)).2
  refine ⟨fun l hl => h.trs l (List.mem_of_mem_take hl), fun l hl => h.trs l (List.mem_of_mem_drop hl), fun e => ?_, ?_, s, (h.at_ j s hj).1, ?_⟩
  · have := congrArg List.length e
    rw [List.length_drop, List.length_nil] at this; omega
  · rw [List.length_take, List.length_drop]; omega
  · have h1 := h.run
    rw [← List.take_append_drop j p, b.dsk.run_app, (h.at_ j s hj).1] at h1
    exact h1
theorem Inn.sub {l k : List PL} (h : ∀ x ∈ k, x ∈ l) {w : World} (hi : Inn l w) : Inn k w := fun x hx => hi x (h x hx)
theorem brn_iff {b : Barn} {p : List (List Int)} : (Z5I b p).2.2 = false ↔ (b.burnsF b.warms p 0).1 = none := by
  rcases Z5b b p with ⟨ws, h1, h2⟩ | ⟨d, k, ws, h1, h2⟩ <;> rw [h1, h2] <;> simp
theorem lls_four {b : Barn} (hok : b.ok) {pl : List PL} {p : List (List Nat)} (h : lls pl = p.map il) (ht : ∀ l ∈ p, l ∈ b.dsk.trs false) : ∀ x ∈ pl, x.l.length ≤ 4 := fun x hx => by
  have h1 : x.l ∈ lls pl := List.mem_map.2 ⟨x, hx, rfl⟩
  rw [h] at h1
  obtain ⟨l, hl, e⟩ := List.mem_map.1 h1
  have := b.dsk.trs_four (b.dsk_ok hok) (ht l hl)
  rw [← e, Z8n]; exact this
structure RWant (b : Barn) (p q : List (List Int)) (w u : Int) (g : Bool) : Prop where
  u : u = Z04 b p q
  g : g = true ↔ Z04 b p q = 0 ∧ b.goes p q
  w : (b.check ≠ 0 ∧ w = b.check) ∨ (b.check = 0 ∧ w = 0 ∧ Kpt b.dsk b.state 1000000) ∨ (b.check = 0 ∧ w = 6 ∧ ∃ v, v ≠ 1000000 ∧ Kpt b.dsk b.state v)
theorem RWant.w1 {b : Barn} {p q : List (List Int)} {w u : Int} {g : Bool} (h : RWant b p q w u g) (hc : b.check ≠ 0) : w = b.check := by
  rcases h.w with ⟨_, h2⟩ | ⟨h1, _⟩ | ⟨h1, _⟩
  · exact h2
  · exact absurd h1 hc
  · exact absurd h1 hc
theorem RWant.w2 {b : Barn} {p q : List (List Int)} {w u : Int} {g : Bool} (h : RWant b p q w u g) (hc : b.check = 0) (hk : ∃ v, v ≠ 1000000 ∧ Kpt b.dsk b.state v) : w = 6 := by
  obtain ⟨v, hv, hk⟩ := hk
  rcases h.w with ⟨h1, _⟩ | ⟨_, _, h2⟩ | ⟨_, h2, _⟩
  · exact absurd hc h1
  · exact absurd (ZO hk h2) hv
  · exact h2
theorem RWant.w3 {b : Barn} {p q : List (List Int)} {w u : Int} {g : Bool} (h : RWant b p q w u g) (hc : b.check = 0) (hk : Kpt b.dsk b.state 1000000) : w = 0 := by
  rcases h.w with ⟨h1, _⟩ | ⟨_, h2, _⟩ | ⟨_, _, v, hv, h3⟩
  · exact absurd hc h1
  · exact h2
  · exact absurd (ZO h3 hk) hv
theorem RWant.val {b : Barn} {p q : List (List Int)} {w u : Int} {g : Bool} (h : RWant b p q w u g) {v : Value} (hv : Zcp b p q v) : v = .tuple #[.bool g, .int .i64 u] := by
  rcases hv with ⟨h1, rfl⟩ | ⟨h1, is, h2, rfl⟩
  · have e : g = false := by
      cases hg : g with
      | false => rfl
      | true => exact absurd (h.g.1 hg).1 h1
    rw [e, h.u]
  · have e : is = g := by
      rw [Bool.eq_iff_iff, h2, h.g]
      exact ⟨fun h3 => ⟨h1, h3⟩, fun h3 => h3.2⟩
    rw [e, h.u, h1]
end Go.Proofs.YtelnhmimhfjacaaGreat.Ht
