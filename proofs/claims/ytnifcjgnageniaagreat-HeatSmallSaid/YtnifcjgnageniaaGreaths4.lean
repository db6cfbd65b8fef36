/- Walks of the functions of the program, and the laws that join them: what the last theorem of this claim needs, in order. -/
import Derived.Test.YtnifcjgnageniaaGreaths3
namespace Go.Proofs.YtnifcjgnageniaaGreat
set_option linter.unusedSimpArgs false
set_option linter.unusedVariables false
open Go
theorem Z9L : Z5G Tryz.prog 155 = some 6 := by kernel_rfl
theorem ZgI : apT Tryz.prog 157 = some (156, 1, 8) := by kernel_rfl
theorem Z2A : apT Tryz.prog 23 = some (22, 1, 24) := by kernel_rfl
theorem ZdF : cal Tryz.prog 110 = true := by kernel_rfl
theorem Zgg : cal Tryz.prog 111 = true := by kernel_rfl
theorem Z7M : Z1h Tryz.prog 155 = some 6 := by kernel_rfl
theorem ZgT : Z1h Tryz.prog 156 = some 1 := by kernel_rfl
theorem Zgk : Z1h Tryz.prog 157 = some 1 := by kernel_rfl
theorem Zgu : Z1h Tryz.prog 22 = some 1 := by kernel_rfl
theorem Zen : elN Tryz.prog 157 = some 1 := by kernel_rfl
theorem Zdg : eqB Tryz.prog 10000 155 = some (true, 6) := by kernel_rfl
theorem Zdn : Tryz.prog.eqGuardType Tryz.prog.depth 155 = false := by kernel_rfl
theorem Ze5 : Z2R Tryz.prog 155 0 = some 0 := by kernel_rfl
theorem Zf3 : Z2R Tryz.prog 155 1 = some 4 := by kernel_rfl
theorem Z2o : Z2R Tryz.prog 155 2 = some 5 := by kernel_rfl
theorem Z4J : Z5g Tryz.prog 156 = some (54, 155) := by kernel_rfl
theorem Zba : Z2z Tryz.prog 155 = some [(0, 4), (4, 1), (5, 1)] := by kernel_rfl
theorem Z3T : Z45 Tryz.prog 156 = true := by kernel_rfl
theorem Z8g : Z45 Tryz.prog 157 = true := by kernel_rfl
theorem Zg5 : slE Tryz.prog 157 = some (156, 1) := by kernel_rfl
theorem Z4d : Z0x Tryz.prog 155 = some ([.int .i64 0, .int .i64 0, .int .i64 0, .int .i64 0, .int .i64 0, .int .i64 0]) := by kernel_rfl
theorem ZeP : Z0x Tryz.prog 156 = some ([.map none]) := by kernel_rfl
theorem Zhf : Z0x Tryz.prog 157 = some ([.slice none 0 0]) := by kernel_rfl
theorem Z1K : Z0x Tryz.prog 22 = some ([.slice none 0 0]) := by kernel_rfl
theorem Zfx : zvl Tryz.prog 155 = some (.agg #[.int .i64 0, .int .i64 0, .int .i64 0, .int .i64 0, .int .i64 0, .int .i64 0]) := by kernel_rfl
abbrev MW := List (HSt × List Int)
def zw : List Int := [0, 0, 0, 0, 0, 0]
def wvl (w : List Int) : Value := .agg (ZI w).toArray
def Z17 (m : MW) (s : HSt) : Option (List Int) := (m.find? fun e => decide (e.1 = s)).map (·.2)
def Z8B : MW → HSt → List Int → MW
  | [], k, v => [(k, v)]
  | (k', v') :: l, k, v => bif decide (k' = k) then (k, v) :: l else (k', v') :: Z8B l k v
def kvw (m : MW) : KV := m.map fun p => (p.1, wvl p.2)
theorem Z7Y : ∀ (m : MW) (s : HSt), (kvw m).get s = (Z17 m s).map wvl
  | [], s => rfl
  | (k, v) :: m, s => by
    have ih := Z7Y m s
    unfold KV.get Z17 at ih ⊢
    show (((k, wvl v) :: kvw m).find? fun e => decide (e.1 = s)).map (·.2) = _
    rw [List.find?_cons, List.find?_cons]
    dsimp only
    cases decide (k = s) with
    | true => rfl
    | false => exact ih
theorem Z4I : ∀ (m : MW) (k : HSt) (v : List Int), (kvw m).put k (wvl v) = kvw (Z8B m k v)
  | [], k, v => rfl
  | (k', v') :: m, k, v => by
    have ih := Z4I m k v
    show KV.put ((k', wvl v') :: kvw m) k (wvl v) = kvw (bif decide (k' = k) then (k, v) :: m else (k', v') :: Z8B m k v)
    unfold KV.put
    cases decide (k' = k) with
    | true => rfl
    | false =>
      rw [cond_false, cond_false]
      show (k', wvl v') :: (kvw m).put k (wvl v) = _
      rw [ih]; rfl
theorem Z57 : ∀ (m : MW) (k : HSt) (v : List Int) (s : HSt), Z17 (Z8B m k v) s = bif decide (k = s) then some v else Z17 m s
  | [], k, v, s => by
    unfold Z8B Z17
    rw [List.find?_cons]
    dsimp only
    cases decide (k = s) <;> rfl
  | (k', v') :: m, k, v, s => by
    have ih := Z57 m k v s
    unfold Z8B
    by_cases h : k' = k
    · subst h
      rw [decide_eq_true rfl, cond_true]
      unfold Z17
      rw [List.find?_cons, List.find?_cons]
      dsimp only
      cases decide (k' = s) <;> rfl
    · rw [decide_eq_false h, cond_false]
      unfold Z17 at ih ⊢
      rw [List.find?_cons, List.find?_cons]
      dsimp only
      by_cases h2 : k' = s
      · subst h2
        rw [decide_eq_true rfl, decide_eq_false (fun e => h e.symm)]; rfl
      · rw [decide_eq_false h2]; exact ih
structure WOk (B : Int) (e : HSt × List Int) : Prop where
  k : e.1.length = 4
  v : e.2.length = 6
  t : 0 ≤ na e.2 4 ∧ na e.2 4 < 16
  a : 0 ≤ na e.2 5 ∧ na e.2 5 ≤ B
def Z6H (B : Int) (m : MW) : Prop := ∀ e ∈ m, WOk B e
theorem Zam {B : Int} : ∀ {m : MW} {k : HSt} {v : List Int}, Z6H B m → WOk B (k, v) → Z6H B (Z8B m k v)
  | [], k, v, _, h => fun e he => by rw [List.mem_singleton.1 he]; exact h
  | (k', v') :: m, k, v, hm, h => fun e he => by
    unfold Z8B at he
    cases hd : decide (k' = k) with
    | true =>
      rw [hd, cond_true] at he
      rcases List.mem_cons.1 he with rfl | h1
      · exact h
      · exact hm e (by simp [h1])
    | false =>
      rw [hd, cond_false] at he
      rcases List.mem_cons.1 he with rfl | h1
      · exact hm _ (by simp)
      · exact Zam (m := m) (fun e he => hm e (by simp [he])) h e h1
theorem Z8m {B : Int} {m : MW} (hm : Z6H B m) {s : HSt} {w : List Int} (h : Z17 m s = some w) : w.length = 6 ∧ (0 ≤ na w 4 ∧ na w 4 < 16) ∧ 0 ≤ na w 5 ∧ na w 5 ≤ B := by
  unfold Z17 at h
  rw [Option.map_eq_some_iff] at h
  obtain ⟨e, he, rfl⟩ := h
  have := hm e (List.mem_of_find?_eq_some he)
  exact ⟨this.v, this.t, this.a⟩
theorem zw_ok : (0 ≤ na zw 4 ∧ na zw 4 < 16) ∧ 0 ≤ na zw 5 ∧ na zw 5 ≤ 0 := by decide
theorem Z3L {B : Int} {m : MW} (hm : Z6H B m) : ∀ e ∈ kvw m, e.1.length = 4 := fun e he => by
  obtain ⟨p, hp, rfl⟩ := List.mem_map.1 he
  exact (hm p hp).k
theorem wor {o : Option (List Int)} : (o.map wvl).getD (wvl zw) = wvl (o.getD zw) := by cases o <;> rfl
theorem Zcx {o : Option (List Int)} : (o.map wvl).isSome = o.isSome := by cases o <;> rfl
theorem Z74 {l : List Int} (h : l.length = 6) : ∃ a b c d e f, l = [a, b, c, d, e, f] := by
  match l, h with
  | [a, b, c, d, e, f], _ => exact ⟨a, b, c, d, e, f, rfl⟩
def Z2S (m : MW) (e : HSt × List Int) : MW := bif decide ((Z17 m e.1).getD zw = zw) || decide (na e.2 5 < na ((Z17 m e.1).getD zw) 5) then Z8B m e.1 e.2 else m
theorem Zf6 {B : Int} {m : MW} {e : HSt × List Int} (hm : Z6H B m) (he : WOk B e) : Z6H B (Z2S m e) := by
  unfold Z2S
  cases (decide ((Z17 m e.1).getD zw = zw) || decide (na e.2 5 < na ((Z17 m e.1).getD zw) 5)) with
  | true => exact Zam hm he
  | false => exact hm
def Zg8 (d : Dsk) (s : HSt) (c : Int) (l : List Nat) : Option (HSt × List Int) := (d.next s l).map fun t => (t, s ++ [(Z1L l : Int), c + (l.length : Int)])
def Z6J (d : Dsk) (m : MW) (s : HSt) (j : Nat) : List (HSt × List Int) := match Z17 m s with
  | none => []
  | some w => ((d.trs false).take j).filterMap (Zg8 d s (na w 5))
def evW (d : Dsk) (m : MW) (s : HSt) : List (HSt × List Int) := Z6J d m s (d.trs false).length
def Z7y (d : Dsk) (m : MW) (k : Nat) : MW := ((d.sts.take k).flatMap (evW d m)).foldl Z2S []
def Z0N (d : Dsk) (s0 : HSt) : Nat → MW
  | 0 => [(s0, zw)]
  | i + 1 => Z7y d (Z0N d s0 i) d.nst
theorem Zbg {d : Dsk} {m : MW} {k : Nat} {s : HSt} (h : d.sts[k]? = some s) : Z7y d m (k + 1) = (evW d m s).foldl Z2S (Z7y d m k) := by
  unfold Z7y
  rw [ZK h, List.flatMap_append, List.foldl_append, List.flatMap_singleton]
theorem ZbD {d : Dsk} {m : MW} {s : HSt} (h : Z17 m s = none) (j : Nat) : Z6J d m s j = [] := by unfold Z6J; rw [h]
theorem Zbs (d : Dsk) (m : MW) (s : HSt) : Z6J d m s 0 = [] := by unfold Z6J; cases Z17 m s <;> simp
theorem Zaj {d : Dsk} {m : MW} {s : HSt} {w : List Int} (h : Z17 m s = some w) {j : Nat} {l : List Nat} (hl : (d.trs false)[j]? = some l) : Z6J d m s (j + 1) = Z6J d m s j ++ (match d.next s l with | none => [] | some t => [(t, s ++ [(Z1L l : Int), na w 5 + (l.length : Int)])]) := by
  unfold Z6J
  rw [h]
  dsimp only
  rw [ZK hl, List.filterMap_append]
  congr 1
  unfold Zg8
  cases hn : d.next s l with
  | none => simp [hn]
  | some t => simp [hn]
theorem Z4n {d : Dsk} (hd : d.ok) {full : Bool} {l : List Nat} (h : l ∈ d.trs full) : l.length ≤ 4 := by
  obtain ⟨i, _, rfl⟩ := List.mem_map.1 (List.mem_filter.1 h).1
  have := Z18 d.n i
  have := hd.n
  omega
theorem Zhh {d : Dsk} (hd : d.ok) {s t : HSt} {B c : Int} (hs : d.inS s) (hc : 0 ≤ c ∧ c ≤ B) {l : List Nat} (hl : l ∈ d.trs false) (hn : d.next s l = some t) : WOk (B + 4) (t, s ++ [(Z1L l : Int), c + (l.length : Int)]) := by
  have h1 := d.trs_lt hl
  have h2 := Z4n hd hl
  have h3 := Z8r (l := l) (m := 4) (fun k hk => by have := h1 k hk; have := hd.n; omega)
  obtain ⟨s0, s1, s2, s3, rfl⟩ := Z1P hs.len
  refine ⟨(d.next_inS hd hs h1 hn).len, rfl, ?_, ?_⟩
  · show 0 ≤ (Z1L l : Int) ∧ (Z1L l : Int) < 16; omega
  · show 0 ≤ c + (l.length : Int) ∧ c + (l.length : Int) ≤ B + 4; omega
theorem Z8w {B : Int} : ∀ {es : List (HSt × List Int)} {m : MW}, Z6H B m → (∀ e ∈ es, WOk B e) → Z6H B (es.foldl Z2S m)
  | [], _, hm, _ => hm
  | e :: es, m, hm, he => Z8w (m := Z2S m e) (Zf6 hm (he e (by simp))) (fun f hf => he f (by simp [hf]))
theorem ZaF {d : Dsk} (hd : d.ok) {m : MW} {B : Int} (hm : Z6H B m) {s : HSt} (hs : s ∈ d.sts) (j : Nat) : ∀ e ∈ Z6J d m s j, WOk (B + 4) e := fun e he => by
  unfold Z6J at he
  cases h : Z17 m s with
  | none => rw [h] at he; cases he
  | some w =>
    rw [h] at he
    obtain ⟨l, hl, hle⟩ := List.mem_filterMap.1 he
    unfold Zg8 at hle
    rw [Option.map_eq_some_iff] at hle
    obtain ⟨t, ht, rfl⟩ := hle
    exact Zhh hd ((d.mem_sts hd s).1 hs) (Z8m hm h).2.2 (List.mem_of_mem_take hl) ht
theorem ZaY {d : Dsk} (hd : d.ok) {m : MW} {B : Int} (hm : Z6H B m) (k : Nat) : Z6H (B + 4) (Z7y d m k) := by
  refine Z8w (fun e he => by cases he) fun e he => ?_
  obtain ⟨s, hs, hes⟩ := List.mem_flatMap.1 he
  exact ZaF hd hm (List.mem_of_mem_take hs) _ e hes
theorem Z7Z {d : Dsk} (hd : d.ok) {s0 : HSt} (hs : s0.length = 4) : ∀ (i : Nat), Z6H (4 * i) (Z0N d s0 i)
  | 0 => fun e he => by rw [List.mem_singleton.1 he]; exact ⟨hs, rfl, zw_ok.1, ⟨zw_ok.2.1, zw_ok.2.2⟩⟩
  | i + 1 => by
    have := ZaY hd (Z7Z hd hs i) d.nst
    have e : (4 * ((i + 1 : Nat) : Int)) = 4 * (i : Int) + 4 := by push_cast; omega
    rw [e]; exact this
def Z52 (m : MW) (acc : Option (HSt × Int)) (s : HSt) : Option (HSt × Int) := match Z17 m s with
  | none => acc
  | some w => match acc with
    | none => some (s, na w 5)
    | some (t, n) => bif decide (na w 5 < n) then some (s, na w 5) else some (t, n)
def Z1a (d : Dsk) (m : MW) (k : Nat) : Option (HSt × Int) := (d.sts.take k).foldl (Z52 m) none
theorem Z9O {d : Dsk} {m : MW} {k : Nat} {s : HSt} (h : d.sts[k]? = some s) : Z1a d m (k + 1) = Z52 m (Z1a d m k) s := by
  unfold Z1a; rw [ZK h, List.foldl_append]; rfl
def Z1Q (d : Dsk) (s0 : HSt) : Nat → HSt → List (List Nat)
  | 0, _ => []
  | j + 1, s => Z1Q d s0 j (((Z17 (Z0N d s0 (j + 1)) s).getD zw).take 4) ++ [Z04 4 (na ((Z17 (Z0N d s0 (j + 1)) s).getD zw) 4).toNat]
def Z3c (ms : List (Nat × MW)) (w : World) : Prop := ∀ p ∈ ms, w.heap[p.1]? = some (Z0g true (kvw p.2))
def Z3d (ms : List (Nat × MW)) : List (List Value) := ms.map fun p => [.map (some p.1)]
def Z2l (ms : List (Nat × MW)) : List Value := ms.map fun p => .map (some p.1)
theorem Z3P (ms : List (Nat × MW)) : (Z3d ms).length = ms.length := List.length_map _
theorem Z9B (ms : List (Nat × MW)) : (Z2l ms).length = ms.length := List.length_map _
theorem Z4P : ∀ (ms : List (Nat × MW)), (Z3d ms).flatten = Z2l ms
  | [] => rfl
  | p :: ms => by show [Value.map (some p.1)] ++ (Z3d ms).flatten = _; rw [Z4P ms]; rfl
theorem Z5m {ms : List (Nat × MW)} {junk : List Value} {d i : Nat} {p : Nat × MW} (h : ms[d]? = some p) (e : i = d) : (Z2l ms ++ junk)[i]? = some (.map (some p.1)) := by
  subst e
  rw [List.getElem?_append_left (by rw [Z9B]; exact (List.getElem?_eq_some_iff.1 h).1)]
  simp [Z2l, h]
theorem Z2K {ms : List (Nat × MW)} {H : Zg} {R : Z6} [m : MemF (Z3c ms) R] {p : Nat × MW} (hp : p ∈ ms) : ∀ w, St H R w → w.heap[p.1]? = some (Z0g true (kvw p.2)) := fun w hs => hs.now m.mem p hp
theorem St.maps {ms : List (Nat × MW)} {x : Nat} {m : MW} {H : Zg} {R : Z6} {w : World} [mf : MemF (Z3c ms) R] (h : St ((x, Z0g true (kvw m)) :: H) R w) : St H (Z3c (ms ++ [(x, m)]) :: R) w := by
  have h1 := (St.freeze h).also (f := Z3c (ms ++ [(x, m)])) (fun w' hw p hp => by
    rcases List.mem_append.1 hp with h2 | h2
    · exact hw _ (List.mem_cons_of_mem _ mf.mem) p h2
    · rw [List.mem_singleton.1 h2]; exact hw (fun w => w.heap[x]? = some (Z0g true (kvw m))) (by simp))
  exact h1.facts (fun g hg => by rcases List.mem_cons.1 hg with h2 | h2 <;> simp [h2])
theorem St.maps1 {x : Nat} {m : MW} {H : Zg} {R : Z6} {w : World} (h : St ((x, Z0g true (kvw m)) :: H) R w) : St H (Z3c [(x, m)] :: R) w := by
  have h1 := (St.freeze h).also (f := Z3c [(x, m)]) (fun w' hw p hp => by
    rw [List.mem_singleton.1 hp]; exact hw (fun w => w.heap[x]? = some (Z0g true (kvw m))) (by simp))
  exact h1.facts (fun g hg => by rcases List.mem_cons.1 hg with h2 | h2 <;> simp [h2])
def MsOk (d : Dsk) (s0 : HSt) (ms : List (Nat × MW)) (n : Nat) : Prop := ms.length = n ∧ ∀ j < n, ∃ x, ms[j]? = some (x, Z0N d s0 j)
theorem ZfI {H : Zg} {R : Z6} {m : MW} {B : Int} (hm : Z6H B m) {x : Nat} (hx : ∀ w, St H R w → w.heap[x]? = some (Z0g true (kvw m))) (s : HSt) (hs : s.length = 4) :
    ∀ w, St H R w → Lkp Tryz.prog 156 (.map (some x)) (mkv true s) true (.tuple #[wvl ((Z17 m s).getD zw), .bool (Z17 m s).isSome]) w := fun w hw => by
  have h := Z59 (b := true) (kvw m) s Z4J (KeyT.of Z0L Z0P) (Z1O Zfx) hs (Z3L hm) hx true w hw
  rw [Z7Y] at h
  rw [← wor, ← Zcx]
  exact h
theorem Z8i {H : Zg} {R : Z6} {m : MW} {B : Int} (hm : Z6H B m) {x : Nat} (hx : ∀ w, St H R w → w.heap[x]? = some (Z0g true (kvw m))) (s : HSt) (hs : s.length = 4) :
    ∀ w, St H R w → Lkp Tryz.prog 156 (.map (some x)) (mkv true s) false (wvl ((Z17 m s).getD zw)) w := fun w hw => by
  have h := Z59 (b := true) (kvw m) s Z4J (KeyT.of Z0L Z0P) (Z1O Zfx) hs (Z3L hm) hx false w hw
  rw [Z7Y] at h
  rw [← wor]
  exact h
theorem Z4Q {H : Zg} {R : Z6} {x : Nat} {o : Obj} [mm : Mem1 x o H] : ∀ w, St H R w → w.heap[x]? = some o := fun w hs => hs.held _ mm.mem
theorem Z6U {B : Int} {m : MW} (hm : Z6H B m) (s : HSt) : ((Z17 m s).getD zw).length = 6 ∧ (0 ≤ na ((Z17 m s).getD zw) 4 ∧ na ((Z17 m s).getD zw) 4 < 16) ∧ 0 ≤ na ((Z17 m s).getD zw) 5 := by
  cases h : Z17 m s with
  | none => exact ⟨rfl, by decide, by decide⟩
  | some w => have := Z8m hm h; exact ⟨this.1, this.2.1, this.2.2.1⟩
theorem Z6s {H : Zg} {R : Z6} {m : MW} {B : Int} (hm : Z6H B m) {x : Nat} (hx : ∀ w, St H R w → w.heap[x]? = some (Z0g true (kvw m))) (s : HSt) (hs : s.length = 4) {wo : Option (List Int)} (hwo : Z17 m s = wo) :
    ∀ w, St H R w → Lkp Tryz.prog 156 (.map (some x)) (mkv true s) true (.tuple #[wvl (wo.getD zw), .bool wo.isSome]) w := by subst hwo; exact ZfI hm hx s hs
theorem Z9h {H : Zg} {R : Z6} {m : MW} {B : Int} (hm : Z6H B m) {x : Nat} (hx : ∀ w, St H R w → w.heap[x]? = some (Z0g true (kvw m))) (s : HSt) (hs : s.length = 4) {wo : List Int} (hwo : (Z17 m s).getD zw = wo) :
    ∀ w, St H R w → Lkp Tryz.prog 156 (.map (some x)) (mkv true s) false (wvl wo) w := by subst hwo; exact Z8i hm hx s hs
def bN (a : Option (HSt × Int)) : Int := match a with
  | none => 0
  | some p => p.2
def bS (a : Option (HSt × Int)) : HSt := match a with
  | none => [0, 0, 0, 0]
  | some p => p.1
def ZhQ (d : Dsk) (s0 : HSt) (days : Nat) (H : Zg) (R : Z6) : Value → Zg → Z6 → Prop := fun v H' R' => H' = H ∧
  ((Z1a d (Z0N d s0 days) d.nst = none ∧ v = .tuple #[.slice none 0 0, .int .i64 0, .bool false] ∧ R' = R) ∨
   (∃ (s : HSt) (n : Int) (pl : List PL) (bp : Nat), Z1a d (Z0N d s0 days) d.nst = some (s, n) ∧ lls pl = (Z1Q d s0 days s).map il ∧ v = .tuple #[.slice (some ⟨bp, 0, none⟩) days days, .int .i64 n, .bool true] ∧ R' = Z5 (some ⟨bp, 0, none⟩) 1 (Z9 pl) :: Inn pl :: R))
theorem Z7I (ms : List (Nat × MW)) (x : Nat) (m : MW) : Z3d (ms ++ [(x, m)]) = Z3d ms ++ [[.map (some x)]] := by simp [Z3d]
theorem MsOk.start (d : Dsk) (s0 : HSt) (x : Nat) : MsOk d s0 [(x, [(s0, zw)])] 1 := ⟨rfl, fun j hj => by
  obtain rfl : j = 0 := by omega
  exact ⟨x, rfl⟩⟩
theorem MsOk.snoc {d : Dsk} {s0 : HSt} {ms : List (Nat × MW)} {n : Nat} (h : MsOk d s0 ms (n + 1)) (x : Nat) : MsOk d s0 (ms ++ [(x, Z7y d (Z0N d s0 n) d.nst)]) (n + 1 + 1) := by
  obtain ⟨h1, h2⟩ := h
  refine ⟨by rw [List.length_append, h1]; rfl, fun j hj => ?_⟩
  rcases Nat.lt_or_ge j (n + 1) with h3 | h3
  · obtain ⟨y, hy⟩ := h2 j h3
    exact ⟨y, by rw [List.getElem?_append_left (by omega)]; exact hy⟩
  · obtain rfl : j = n + 1 := by omega
    exact ⟨x, by rw [List.getElem?_append_right (by omega), h1, Nat.sub_self]; rfl⟩
theorem ZbT {j i : Nat} {v z : Value} {cs : List Value} (e : i = j) : spl (List.replicate (j + 1) z ++ cs) i [v] = List.replicate j z ++ v :: cs := by
  subst e
  rw [List.replicate_succ', List.append_assoc]
  have := Z6N (p := List.replicate i z) (q := [z]) (s := cs) (vs := [v]) rfl
  rw [List.length_replicate] at this
  exact this
theorem St.innCons {a : Option Addr} {c : Nat} {l0 : List Int} {l : List PL} {H : Zg} {R : Z6} {w : World} [m1 : MemF (Inn l) R] [m2 : MemRows a 1 (Zm l0) R] (h : St H R w) : St H (Inn (⟨a, c, l0⟩ :: l) :: R) w :=
  h.also fun _ hw y hy => by
    rcases List.mem_cons.1 hy with rfl | hy
    · exact hw _ m2.mem
    · exact hw _ m1.mem y hy
theorem Z7a {d : Dsk} (hd : d.ok) (m : MW) : ∀ k, (bS (Z1a d m k)).length = 4 := by
  have key : ∀ (l : List HSt) (acc : Option (HSt × Int)), (∀ s ∈ l, s.length = 4) → (bS acc).length = 4 → (bS (l.foldl (Z52 m) acc)).length = 4 := by
    intro l
    induction l with
    | nil => intro acc _ h; exact h
    | cons s l ih =>
      intro acc hl h
      refine ih _ (fun t ht => hl t (by simp [ht])) ?_
      have hs := hl s (by simp)
      unfold Z52
      cases Z17 m s with
      | none => exact h
      | some w =>
        cases acc with
        | none => exact hs
        | some p =>
          obtain ⟨t, n⟩ := p
          dsimp only
          cases decide (na w 5 < n) with
          | true => exact hs
          | false => exact h
  exact fun k => key _ none (fun s hs => ((d.mem_sts hd s).1 (List.mem_of_mem_take hs)).len) rfl
def Zi4 (d : Dsk) (s0 : HSt) (days : Nat) (H : Zg) (R : Z6) : Value → Zg → Z6 → Prop := fun v H' R' =>
  ((Z1a d (Z0N d s0 days) d.nst = none ∧ v = .tuple #[.slice none 0 0, .int .i64 0, .bool false] ∧ H' = H ∧ R' = R) ∨
   (∃ (s : HSt) (n : Int) (pl : List PL) (bp : Nat), Z1a d (Z0N d s0 days) d.nst = some (s, n) ∧ lls pl = (Z1Q d s0 days s).map il ∧ v = .tuple #[.slice (some ⟨bp, 0, none⟩) days days, .int .i64 n, .bool true] ∧ H' = (bp, cel 22 (Z9 pl).flatten) :: H ∧ R' = Inn pl :: R))
set_option maxHeartbeats 4000000 in
theorem Z71 (b : Barn) (hok : b.ok) (ab : Option Addr) (cb bd m : Nat) (days : Nat) (hdy : days ≤ 20) (H : Zg) (R : Z6) [hD : MemRows (some ⟨bd, 0, none⟩) 18 [dcs b (b.sl ab cb) b.lasts b.most m] R] [hB : MemRows ab 4 (Z7 b.bins) R] :
    Fn Tryz.prog 77 [.pointer (some ⟨bd, 0, none⟩), .int .i64 days] H R (Zi4 b.dsk b.state days H R) := by
 have hdk := b.dsk_ok hok
 have hl4 := hdk.lasts.len
 have hm4 := hdk.most.len
 refine Z5C Tryz.func77 rfl Tryz.ntmps77 rfl ?_
 refine sqt 5 rfl (bx rfl rfl rfl (fun b2 => bx rfl rfl rfl (fun b3 => pur 3 rfl (sqt 12 rfl ?_))))
 refine mkm rfl rfl true (fun m27 => ?_)
 refine spL rfl rfl (lh Z0U rfl rfl) rfl (sp rfl (PE.nilCheck rfl) rfl (sp rfl (PE.fA Z1N rfl) rfl (spL rfl rfl (ZhB (sz := 18) (btl b (b.sl ab cb)) ZD rfl rfl) rfl ?_)))
 refine clV rfl Z63 rfl rfl (Z2b b ab cb hok _ _) ?_
 refine sp rfl (PE.build (out := [_, _, _, _, _, _]) Zba Z4d rfl rfl) rfl ?_
 refine mpi [] b.state rfl Z4J (KeyT.of Z0L Z0P) rfl rfl rfl (b.state_sml hok).len (by simp) ?_
 refine pur 1 rfl ?_
 refine bsl (out := [_]) rfl Zg5 ZeP rfl rfl rfl rfl rfl rfl (fun b35 => ?_)
 refine alc rfl Zhf rfl (fun b7 => ?_)
 refine sto rfl rfl rfl Zgk rfl rfl rfl rfl ?_
 refine Z0 (sqt 2 rfl (spL rfl rfl (lh sc3 rfl rfl) rfl (pur 1 rfl (Z3 ?_))))
 refine Sy.heap (fun w h => St.maps1 (x := m27) (m := [(b.state, zw)]) (h.pull m27)) ?_
 obtain ⟨o0, h0f, h0g⟩ : ∃ o : OSl 156 1 (Z3d [(m27, [(b.state, zw)])]), o.fs = .slice (some ⟨b35, 0, none⟩) 1 1 ∧ o.G = [(b35, cel 156 [.map (some m27)])] := ⟨⟨.slice (some ⟨b35, 0, none⟩) 1 1, [(b35, cel 156 [.map (some m27)])], by intro r hr; simp only [Z3d, List.map_cons, List.map_nil, List.mem_singleton] at hr; subst hr; rfl, .inr ⟨b35, 1, [], rfl, rfl, rfl, Nat.le_refl _, by decide⟩⟩, rfl, rfl⟩
 refine Sy.heap (H' := (b7, cel 157 [o0.fs]) :: (b3, cel 3 [.int .i64 days]) :: (b2, cel 50 [.pointer (some ⟨bd, 0, none⟩)]) :: (o0.G ++ (mkh [] ++ H))) (fun w h => by rw [h0f, h0g]; exact (((h.pull b35).pull b2).pull b3).pull b7) ?_
 have hs0 : b.state.length = 4 := (b.state_sml hok).len
 refine Z3j (ι := (x : {x : Nat × List (Nat × MW) × List Nat // x.1 ≤ days ∧ MsOk b.dsk b.state x.2.1 (x.1 + 1)}) × OSl 156 1 (Z3d x.1.2.1)) (fun x => ⟨[(2, .pointer (some ⟨b2, 0, none⟩)), (3, .pointer (some ⟨b3, 0, none⟩)), (7, .pointer (some ⟨b7, 0, none⟩)), (36, .int .i64 days), (37, .int .i64 x.1.1.1)], mks x.1.1.2.2, (b7, cel 157 [x.2.fs]) :: (b3, cel 3 [.int .i64 days]) :: (b2, cel 50 [.pointer (some ⟨bd, 0, none⟩)]) :: (x.2.G ++ (mkh x.1.1.2.2 ++ H)), Z3c x.1.1.2.1 :: R⟩) (fun x => days - x.1.1.1) ⟨⟨(0, [(m27, [(b.state, zw)])], []), Nat.zero_le _, MsOk.start _ _ _⟩, o0⟩ ?_ (fun x => ?_)
 exact Z7t (by repeat' first | exact Sub.nil | apply Sub.cons | rfl | (simp [lk]; omega)) rfl idH
 ·
  obtain ⟨⟨⟨d, ms, mk⟩, hd, hms⟩, o⟩ := x
  dsimp only at hd hms o ⊢
  obtain ⟨hml, hmg⟩ := hms
  obtain ⟨br, cr, jr, hrf, hrG, hrj, hrc, hrx⟩ := o.is.resolve_left (fun h => by have := congrArg List.length h.1; rw [Z3P] at this; simp only [List.length_nil] at this; omega)
  rw [Z3P] at hrf hrj hrc
  rw [Z4P] at hrG
  rw [hrf]
  refine Sy.heap (H' := (b7, cel 157 [.slice (some ⟨br, 0, none⟩) ms.length cr]) :: (b3, cel 3 [.int .i64 days]) :: (b2, cel 50 [.pointer (some ⟨bd, 0, none⟩)]) :: (br, cel 156 (Z2l ms ++ jr)) :: (mkh mk ++ H)) (fun w h => by rw [hrG] at h; exact h) ?_
  obtain ⟨mj, hmj⟩ := hmg d (by omega)
  have hmok := Z7Z hdk hs0 d
  refine sqt 1 rfl (pur 1 rfl (Z0 ?_))
  refine Z2 rfl ?_ ?_ <;> intro hc0 <;> try simp only [cS] at hc0
  ·
   refine Z1 (Z0 (Z3 (sqt 3 rfl (pur 1 rfl (alc rfl zl3 rfl (fun b8 => ?_))))))
   refine sto rfl rfl rfl cn3 rfl rfl rfl rfl ?_
   refine sqt 3 rfl ?_
   refine mkm rfl rfl true (fun m40 => ?_)
   refine alc rfl ZeP rfl (fun b9 => ?_)
   refine sto rfl rfl rfl ZgT rfl rfl rfl rfl ?_
   refine Z0 (sqt 2 rfl (spL rfl rfl (lh Z0U rfl rfl) rfl ?_))
   refine cl rfl ZdI rfl rfl (Z69 bd _ _) ?_
   rintro _ _ _ ⟨xb, rfl, rfl, rfl⟩
   refine Z3 ?_
   refine Z1x rfl ZaN (fun c0 bl0 bd0 hcp0 hca0 hcb0 hck0 => ?_)
   refine ⟨fun st pend T R' => st = .ready ∧ pend = none ∧ T = (bd0, .deferred (some [])) :: (b9, cel 156 [.map (some m40)]) :: (m40, Z0g true (kvw (Z7y b.dsk (Z0N b.dsk b.state d) b.dsk.nst))) :: (b8, cel 3 [.int .i64 d]) :: (b7, cel 157 [.slice (some ⟨br, 0, none⟩) ms.length cr]) :: (b3, cel 3 [.int .i64 days]) :: (b2, cel 50 [.pointer (some ⟨bd, 0, none⟩)]) :: (br, cel 156 (Z2l ms ++ jr)) :: (mkh mk ++ H) ∧ R' = Z5 (some ⟨xb, 0, none⟩) 1 [[.pointer (some ⟨bd, 0, none⟩)]] :: Z3c ms :: R,
     Fn.mono (Z4Z b hok ab cb bd m xb bl0 (fun k H' R' => H' = (bl0, lob c0 .ready none) :: (bd0, .deferred (some [])) :: (b9, cel 156 [.map (some m40)]) :: (m40, Z0g true (kvw (Z7y b.dsk (Z0N b.dsk b.state d) k))) :: (b8, cel 3 [.int .i64 d]) :: (b7, cel 157 [.slice (some ⟨br, 0, none⟩) ms.length cr]) :: (b3, cel 3 [.int .i64 days]) :: (b2, cel 50 [.pointer (some ⟨bd, 0, none⟩)]) :: (br, cel 156 (Z2l ms ++ jr)) :: (mkh mk ++ H) ∧ R' = Z5 (some ⟨xb, 0, none⟩) 1 [[.pointer (some ⟨bd, 0, none⟩)]] :: Z3c ms :: R) (fun _ _ => False)
       (fun k H' R' h => by obtain ⟨_, rfl⟩ := h; exact ⟨by simp, List.mem_cons_of_mem _ (List.mem_cons_of_mem _ hD.mem)⟩) (fun k s q oo H' R' hk hI => ?_) _ _ ⟨rfl, rfl⟩) (fun v H' R' h => ?_), ?_⟩
   rotate_left
   · rcases h with ⟨rfl, rfl⟩ | h
     · exact ⟨.ready, none, _, by simp, .refl _, rfl, rfl, rfl, rfl⟩
     · exact h.elim
   rotate_left
   ·
    have hmem := List.mem_of_getElem? hk
    have hsi := (b.dsk.mem_sts hdk s).1 hmem
    obtain ⟨s0, s1, s2, s3, rfl⟩ := Z1P hsi.len
    have hnk := Zbg (m := (Z0N b.dsk b.state d)) hk
    obtain ⟨hw6, hw4, hw5⟩ := Z6U hmok [s0, s1, s2, s3]
    obtain ⟨wo, hwo⟩ : ∃ wo, Z17 (Z0N b.dsk b.state d) [s0, s1, s2, s3] = wo := ⟨_, rfl⟩
    rw [hwo] at hw6 hw4 hw5
    obtain ⟨rfl, rfl⟩ := hI
    refine Z5h hcp0 hca0 hcb0 hck0 rfl ?_
    refine sqr 2 rfl (alc rfl Z1G rfl (fun b10 => ?_))
    refine sto rfl rfl rfl Z1e rfl rfl rfl rfl ?_
    refine Z05 ?_
    refine Z3 (Z0 ?_)
    refine Zi [0, 0, 3, 7, 0, 31, 63, 127, 127, 0, 767, 2047] (.ld 0 (.ld 1 (.tk 2 (.ld 3 (.ld 4 (.ld 5 (tks 6 3 (.big 9 (.big 10 (.tk 11 .done)))))))))) ZH (by kernel_rfl) ?_
    refine ld rfl rfl (lh Z8g rfl rfl) rfl (ld rfl rfl (lh sc3 rfl rfl) rfl (tk rfl (PE.indexAddr Zen rfl rfl (by omega) (by omega)) rfl (ld rfl rfl (lh Z3T rfl (Z5m hmj (by show 0 + ((d : Nat) : Int).toNat * 1 = d; omega))) rfl (ld rfl rfl (lhA [_, _, _, _] ZV rfl rfl rfl) rfl ?_))))
    refine ldK rfl rfl rfl (Z6s hmok (Z2K (List.mem_of_getElem? hmj)) [s0, s1, s2, s3] rfl hwo) rfl ?_
    refine Zp 3 rfl (alc rfl Z4d rfl (fun b11 => ?_))
    refine bg (fun w hs => ⟨(Z6s hmok (Z2K (List.mem_of_getElem? hmj)) [s0, s1, s2, s3] rfl hwo) w hs, (lhA [_, _, _, _] ZV rfl rfl rfl) w hs, (lh Z3T rfl (Z5m hmj (by show 0 + ((d : Nat) : Int).toNat * 1 = d; omega))) w hs, (lh sc3 rfl rfl) w hs, (lh Z8g rfl rfl) w hs, trivial⟩) ?_
    refine Z1I (vs := ZI (wo.getD zw)) rfl rfl rfl Z7M rfl (by rw [Z8]; exact hw6) rfl (Zu _) ?_
    refine bgT (Zp 1 rfl (Z0 (sqt 2 rfl (pur 2 rfl ?_))))
    refine Z2 rfl ?_ ?_ <;> intro hc1
    have hwn : wo = none := by cases wo with
      | none => rfl
      | some w => cases hc1
    have hev : evW b.dsk (Z0N b.dsk b.state d) [s0, s1, s2, s3] = [] := ZbD (hwo.trans hwn) _
    refine Zb (Zf (ZB ?_))
    exact ZF (.inl ⟨rfl, _, rfl, rfl, rfl⟩) (fun w h => by rw [hnk, hev]; exact (h.del b11).del b10)
    ·
     obtain ⟨w, rfl⟩ : ∃ w, wo = some w := by cases wo with
       | none => cases hc1
       | some w => exact ⟨w, rfl⟩
     obtain ⟨w0, w1, w2, w3, w4, w5, rfl⟩ := Z74 (show w.length = 6 from hw6)
     have hwb : 0 ≤ w5 ∧ w5 ≤ 4 * (d : Int) := (Z8m hmok hwo).2.2
     refine Z1 (sqt 2 rfl (spL rfl rfl (lh Z0U rfl rfl) rfl ?_))
     refine cl rfl Z8o rfl rfl (Z1j bd false _ _) ?_
     rintro _ _ _ ⟨xt, xf, rfl, rfl, rfl⟩
     refine Z3 ?_
     refine Zan rfl Z8s (fun c1 bl1 hcp1 hca1 hcb1 hck1 => ?_)
     refine ⟨fun st pend T R' => st = .ready ∧ pend = none ∧ T = (b11, cel 155 [.int .i64 w0, .int .i64 w1, .int .i64 w2, .int .i64 w3, .int .i64 w4, .int .i64 w5]) :: (b10, cel 54 [.int .i64 s0, .int .i64 s1, .int .i64 s2, .int .i64 s3]) :: (q, oo) :: (bl0, lob c0 .busy none) :: (bd0, .deferred (some [])) :: (b9, cel 156 [.map (some m40)]) :: (m40, Z0g true (kvw ((Z6J b.dsk (Z0N b.dsk b.state d) [s0, s1, s2, s3] (b.dsk.trs false).length).foldl Z2S (Z7y b.dsk (Z0N b.dsk b.state d) k)))) :: (b8, cel 3 [.int .i64 d]) :: (b7, cel 157 [.slice (some ⟨br, 0, none⟩) ms.length cr]) :: (b3, cel 3 [.int .i64 days]) :: (b2, cel 50 [.pointer (some ⟨bd, 0, none⟩)]) :: (br, cel 156 (Z2l ms ++ jr)) :: (mkh mk ++ H) ∧ R' = Z5 (some ⟨xf, 0, none⟩) 1 [[.bool false]] :: Z5 (some ⟨xt, 0, none⟩) 1 [[.pointer (some ⟨bd, 0, none⟩)]] :: Z5 (some ⟨xb, 0, none⟩) 1 [[.pointer (some ⟨bd, 0, none⟩)]] :: Z3c ms :: R,
       Fn.mono (Z10 b hok ab cb bd m false xt xf bl1 (fun j H' R' => H' = (bl1, lob c1 .ready none) :: (b11, cel 155 [.int .i64 w0, .int .i64 w1, .int .i64 w2, .int .i64 w3, .int .i64 w4, .int .i64 w5]) :: (b10, cel 54 [.int .i64 s0, .int .i64 s1, .int .i64 s2, .int .i64 s3]) :: (q, oo) :: (bl0, lob c0 .busy none) :: (bd0, .deferred (some [])) :: (b9, cel 156 [.map (some m40)]) :: (m40, Z0g true (kvw ((Z6J b.dsk (Z0N b.dsk b.state d) [s0, s1, s2, s3] j).foldl Z2S (Z7y b.dsk (Z0N b.dsk b.state d) k)))) :: (b8, cel 3 [.int .i64 d]) :: (b7, cel 157 [.slice (some ⟨br, 0, none⟩) ms.length cr]) :: (b3, cel 3 [.int .i64 days]) :: (b2, cel 50 [.pointer (some ⟨bd, 0, none⟩)]) :: (br, cel 156 (Z2l ms ++ jr)) :: (mkh mk ++ H) ∧ R' = Z5 (some ⟨xf, 0, none⟩) 1 [[.bool false]] :: Z5 (some ⟨xt, 0, none⟩) 1 [[.pointer (some ⟨bd, 0, none⟩)]] :: Z5 (some ⟨xb, 0, none⟩) 1 [[.pointer (some ⟨bd, 0, none⟩)]] :: Z3c ms :: R) (fun _ _ => False)
         (fun k H' R' h => by obtain ⟨_, rfl⟩ := h; exact ⟨by simp, by simp, List.mem_cons_of_mem _ (List.mem_cons_of_mem _ (List.mem_cons_of_mem _ (List.mem_cons_of_mem _ hD.mem)))⟩) (fun j l a c H' R' hj hI => ?_) _ _ ⟨by rw [Zbs]; rfl, rfl⟩) (fun v H' R' h => ?_), ?_⟩
     rotate_left
     · rcases h with ⟨rfl, rfl⟩ | h
       · exact ⟨.ready, none, _, by simp, .refl _, rfl, rfl, rfl, rfl⟩
       · exact h.elim
     rotate_left
     have hlm := List.mem_of_getElem? hj
     have hlt := b.dsk.trs_lt hlm
     have hl4' := Z4n hdk hlm
     have hll : l.length ≤ 1000000 := by omega
     have hcm : Z6H (4 * (d : Int) + 4) ((Z6J b.dsk (Z0N b.dsk b.state d) [s0, s1, s2, s3] j).foldl Z2S (Z7y b.dsk (Z0N b.dsk b.state d) k)) := Z8w (ZaY hdk hmok k) (ZaF hdk hmok hmem j)
     have hes := Zaj hwo hj
     obtain ⟨cu, hcu⟩ : ∃ cu, ((Z6J b.dsk (Z0N b.dsk b.state d) [s0, s1, s2, s3] j).foldl Z2S (Z7y b.dsk (Z0N b.dsk b.state d) k)) = cu := ⟨_, rfl⟩
     have hcs : ((Z6J b.dsk (Z0N b.dsk b.state d) [s0, s1, s2, s3] (j + 1)).foldl Z2S (Z7y b.dsk (Z0N b.dsk b.state d) k)) = (match b.dsk.next [s0, s1, s2, s3] l with | none => cu | some t => Z2S cu (t, [s0, s1, s2, s3, (Z1L l : Int), w5 + (l.length : Int)])) := by
       rw [hes, List.foldl_append, hcu]; cases b.dsk.next [s0, s1, s2, s3] l <;> rfl
     obtain ⟨rfl, rfl⟩ := hI
     rw [hcu] at hcm ⊢
     refine Z5h hcp1 hca1 hcb1 hck1 rfl ?_
     refine sqr 1 rfl (pur 1 rfl ?_)
     refine Z05 ?_
     refine Z3 (sqt 10 rfl (spL rfl rfl (lh Z0U rfl rfl) rfl (spL rfl rfl (lhA [_, _, _, _] ZV rfl rfl rfl) rfl (pur 1 rfl ?_))))
     refine cl rfl Z8k rfl rfl (Z4O b hok ab cb bd m [s0, s1, s2, s3] (b.dsk.inS_sml hdk hsi) l hlt hll a c _ _) ?_
     rintro _ _ _ ⟨rfl, rfl, rfl⟩
     rcases hnx : b.dsk.next [s0, s1, s2, s3] l with _ | t
     have hcs2 : ((Z6J b.dsk (Z0N b.dsk b.state d) [s0, s1, s2, s3] (j + 1)).foldl Z2S (Z7y b.dsk (Z0N b.dsk b.state d) k)) = cu := by rw [hcs, hnx]
     refine pur 3 rfl (alc rfl Z1G rfl (fun b14 => ?_))
     refine sto rfl rfl rfl Z1e rfl rfl rfl rfl ?_
     refine pur 1 rfl (Z0 (sqt 2 rfl (pur 2 rfl ?_)))
     refine Zq rfl ?_
     refine Zb (Zf (ZB ?_))
     exact ZF (.inl ⟨rfl, rfl, rfl⟩) (fun w h => by rw [hcs2]; exact (h.del b14).ftail)
     have hts := b.dsk.next_inS hdk hsi hlt hnx
     obtain ⟨t0, t1, t2, t3, rfl⟩ := Z1P hts.len
     have hcs2 : ((Z6J b.dsk (Z0N b.dsk b.state d) [s0, s1, s2, s3] (j + 1)).foldl Z2S (Z7y b.dsk (Z0N b.dsk b.state d) k)) = Z2S cu ([t0, t1, t2, t3], [s0, s1, s2, s3, (Z1L l : Int), w5 + (l.length : Int)]) := by rw [hcs, hnx]
     refine pur 3 rfl (alc rfl Z1G rfl (fun b14 => ?_))
     refine sto rfl rfl rfl Z1e rfl rfl rfl rfl ?_
     refine pur 1 rfl (Z0 (sqt 2 rfl (pur 2 rfl ?_)))
     refine ZG rfl ?_
     refine Z1 (Z0 ?_)
     refine Zi [0, 0, 2, 0, 8, 0, 32, 120, 255, 0, 1023] (.ld 0 (.tk 1 (.tk 3 (.ld 4 (tks 5 3 (.any (.alt 2 (.tk 8 (.big 9 (.big 10 .done))) (.alt 9 (.big 2 (.tk 8 (.big 10 .done))) .stop)))))))) ZH (by kernel_rfl) ?_
     refine ld rfl rfl (lhA [_, _, _, _] ZV rfl rfl rfl) rfl (Zp 1 rfl (tk rfl (PE.fA Z2o rfl) rfl (ld rfl rfl (lh sc3 rfl rfl) rfl (Zp 1 rfl (tk rfl (PE.lenSl Z0n rfl) rfl (tk rfl (PE.add rfl rfl (by omega)) rfl ?_))))))
     refine Zs ?_ ?_
     refine clV rfl ZdF rfl rfl (ZfS l (fun k hk => by have h1 := hlt k hk; have h2 : b.dsk.n ≤ 4 := hdk.n.2; omega) hll a c _ _) ?_
     refine bg (fun w hs => ⟨(lh sc3 rfl rfl) w hs, (lhA [_, _, _, _] ZV rfl rfl rfl) w hs, trivial⟩) ?_
     refine tk rfl (PE.build (out := [_, _, _, _, _, _]) Zba Z4d rfl rfl) rfl (alc rfl Z4d rfl (fun b16 => ?_))
     refine bg (fun w hs => ⟨(lh sc3 rfl rfl) w hs, (lhA [_, _, _, _] ZV rfl rfl rfl) w hs, trivial⟩) ?_
     refine sto rfl rfl rfl Z7M rfl rfl rfl rfl ?_
     refine bgT (sqt 5 rfl (spL rfl rfl (lh Z3T rfl rfl) rfl (spL rfl rfl (lhA [_, _, _, _] ZV rfl rfl rfl) rfl ?_)))
     refine spK rfl rfl rfl (Z8i hcm (Z4Q (x := m40)) [t0, t1, t2, t3] rfl) rfl ?_
     have hl6 := (Z6U hcm [t0, t1, t2, t3]).1
     obtain ⟨ol, hol⟩ : ∃ ol, (Z17 cu [t0, t1, t2, t3]).getD zw = ol := ⟨_, rfl⟩
     rw [hol] at hl6 ⊢
     obtain ⟨o0, o1, o2, o3, o4, o5, rfl⟩ := Z74 hl6
     refine alc rfl Z4d rfl (fun b17 => ?_)
     refine sto rfl rfl rfl Z7M rfl rfl rfl rfl ?_
     refine sqt 10 rfl (spL rfl rfl (lhA [_, _, _, _, _, _] Z9L rfl rfl rfl) rfl (sp rfl (PE.build (out := [_, _, _, _, _, _]) Zba Z4d rfl rfl) rfl (sp rfl (PE.eqlAgg [o0, o1, o2, o3, o4, o5] [0, 0, 0, 0, 0, 0] (Z1X 10000 155 true 6 Zdg) Zdn rfl rfl rfl rfl) rfl (pur 1 rfl ?_))))
     refine Zh 82 rfl ?_ ?_ <;> intro g82
     have hu : Z2S cu ([t0, t1, t2, t3], [s0, s1, s2, s3, (Z1L l : Int), w5 + (l.length : Int)]) = Z8B cu [t0, t1, t2, t3] [s0, s1, s2, s3, (Z1L l : Int), w5 + (l.length : Int)] := by unfold Z2S; dsimp only; rw [hol, show decide ([o0, o1, o2, o3, o4, o5] = zw) = true from g82]; rfl
     refine pur 6 rfl ?_
     refine Zq rfl ?_
     refine sqr 4 rfl (spL rfl rfl (lh Z3T rfl rfl) rfl (spL rfl rfl (lhA [_, _, _, _] ZV rfl rfl rfl) rfl (spL rfl rfl (lhA [_, _, _, _, _, _] Z9L rfl rfl rfl) rfl ?_)))
     refine mpu (kvw cu) [t0, t1, t2, t3] (v := wvl [s0, s1, s2, s3, (Z1L l : Int), w5 + (l.length : Int)]) rfl Z4J (KeyT.of Z0L Z0P) rfl rfl rfl rfl (Z3L hcm) ?_
     rw [Z4I]
     exact ZF (.inl ⟨rfl, rfl, rfl⟩) (fun w h => by rw [hcs2, hu]; exact (((h.del b17).del b16).del b14).ftail)
     refine spG rfl rfl rfl rfl (PE.fA Z2o rfl) rfl ?_
     refine Z0o rfl rfl rfl rfl rfl (lh sc3 rfl rfl) rfl ?_
     refine spG rfl rfl rfl rfl (PE.fA Z2o rfl) rfl ?_
     refine Z0o rfl rfl rfl rfl rfl (lh sc3 rfl rfl) rfl (pur 2 rfl ?_)
     refine Z2 rfl ?_ ?_ <;> intro hc3
     have hu : Z2S cu ([t0, t1, t2, t3], [s0, s1, s2, s3, (Z1L l : Int), w5 + (l.length : Int)]) = Z8B cu [t0, t1, t2, t3] [s0, s1, s2, s3, (Z1L l : Int), w5 + (l.length : Int)] := by unfold Z2S; dsimp only; rw [hol, show decide ([o0, o1, o2, o3, o4, o5] = zw) = false from g82, show decide (na [s0, s1, s2, s3, (Z1L l : Int), w5 + (l.length : Int)] 5 < na [o0, o1, o2, o3, o4, o5] 5) = true from hc3]; rfl
     refine sqr 4 rfl (spL rfl rfl (lh Z3T rfl rfl) rfl (spL rfl rfl (lhA [_, _, _, _] ZV rfl rfl rfl) rfl (spL rfl rfl (lhA [_, _, _, _, _, _] Z9L rfl rfl rfl) rfl ?_)))
     refine mpu (kvw cu) [t0, t1, t2, t3] (v := wvl [s0, s1, s2, s3, (Z1L l : Int), w5 + (l.length : Int)]) rfl Z4J (KeyT.of Z0L Z0P) rfl rfl rfl rfl (Z3L hcm) ?_
     rw [Z4I]
     exact ZF (.inl ⟨rfl, rfl, rfl⟩) (fun w h => by rw [hcs2, hu]; exact (((h.del b17).del b16).del b14).ftail)
     have hu : Z2S cu ([t0, t1, t2, t3], [s0, s1, s2, s3, (Z1L l : Int), w5 + (l.length : Int)]) = cu := by unfold Z2S; dsimp only; rw [hol, show decide ([o0, o1, o2, o3, o4, o5] = zw) = false from g82, show decide (na [s0, s1, s2, s3, (Z1L l : Int), w5 + (l.length : Int)] 5 < na [o0, o1, o2, o3, o4, o5] 5) = false from hc3]; rfl
     refine Z1 ?_
     exact ZF (.inl ⟨rfl, rfl, rfl⟩) (fun w h => by rw [hcs2, hu]; exact (((h.del b17).del b16).del b14).ftail)
     refine Zs ?_ ?_
     refine alc rfl Z4d rfl (fun b16 => ?_)
     refine bg (fun w hs => ⟨(lh sc3 rfl rfl) w hs, (lhA [_, _, _, _] ZV rfl rfl rfl) w hs, trivial⟩) ?_
     refine clV rfl ZdF rfl rfl (ZfS l (fun k hk => by have h1 := hlt k hk; have h2 : b.dsk.n ≤ 4 := hdk.n.2; omega) hll a c _ _) ?_
     refine bg (fun w hs => ⟨(lh sc3 rfl rfl) w hs, (lhA [_, _, _, _] ZV rfl rfl rfl) w hs, trivial⟩) ?_
     refine tk rfl (PE.build (out := [_, _, _, _, _, _]) Zba Z4d rfl rfl) rfl ?_
     refine sto rfl rfl rfl Z7M rfl rfl rfl rfl ?_
     refine bgT (sqt 5 rfl (spL rfl rfl (lh Z3T rfl rfl) rfl (spL rfl rfl (lhA [_, _, _, _] ZV rfl rfl rfl) rfl ?_)))
     refine spK rfl rfl rfl (Z8i hcm (Z4Q (x := m40)) [t0, t1, t2, t3] rfl) rfl ?_
     have hl6 := (Z6U hcm [t0, t1, t2, t3]).1
     obtain ⟨ol, hol⟩ : ∃ ol, (Z17 cu [t0, t1, t2, t3]).getD zw = ol := ⟨_, rfl⟩
     rw [hol] at hl6 ⊢
     obtain ⟨o0, o1, o2, o3, o4, o5, rfl⟩ := Z74 hl6
     refine alc rfl Z4d rfl (fun b17 => ?_)
     refine sto rfl rfl rfl Z7M rfl rfl rfl rfl ?_
     refine sqt 10 rfl (spL rfl rfl (lhA [_, _, _, _, _, _] Z9L rfl rfl rfl) rfl (sp rfl (PE.build (out := [_, _, _, _, _, _]) Zba Z4d rfl rfl) rfl (sp rfl (PE.eqlAgg [o0, o1, o2, o3, o4, o5] [0, 0, 0, 0, 0, 0] (Z1X 10000 155 true 6 Zdg) Zdn rfl rfl rfl rfl) rfl (pur 1 rfl ?_))))
     refine Zh 82 rfl ?_ ?_ <;> intro g82
     have hu : Z2S cu ([t0, t1, t2, t3], [s0, s1, s2, s3, (Z1L l : Int), w5 + (l.length : Int)]) = Z8B cu [t0, t1, t2, t3] [s0, s1, s2, s3, (Z1L l : Int), w5 + (l.length : Int)] := by unfold Z2S; dsimp only; rw [hol, show decide ([o0, o1, o2, o3, o4, o5] = zw) = true from g82]; rfl
     refine pur 6 rfl ?_
     refine Zq rfl ?_
     refine sqr 4 rfl (spL rfl rfl (lh Z3T rfl rfl) rfl (spL rfl rfl (lhA [_, _, _, _] ZV rfl rfl rfl) rfl (spL rfl rfl (lhA [_, _, _, _, _, _] Z9L rfl rfl rfl) rfl ?_)))
     refine mpu (kvw cu) [t0, t1, t2, t3] (v := wvl [s0, s1, s2, s3, (Z1L l : Int), w5 + (l.length : Int)]) rfl Z4J (KeyT.of Z0L Z0P) rfl rfl rfl rfl (Z3L hcm) ?_
     rw [Z4I]
     exact ZF (.inl ⟨rfl, rfl, rfl⟩) (fun w h => by rw [hcs2, hu]; exact (((h.del b17).del b16).del b14).ftail)
     refine spG rfl rfl rfl rfl (PE.fA Z2o rfl) rfl ?_
     refine Z0o rfl rfl rfl rfl rfl (lh sc3 rfl rfl) rfl ?_
     refine spG rfl rfl rfl rfl (PE.fA Z2o rfl) rfl ?_
     refine Z0o rfl rfl rfl rfl rfl (lh sc3 rfl rfl) rfl (pur 2 rfl ?_)
     refine Z2 rfl ?_ ?_ <;> intro hc3
     have hu : Z2S cu ([t0, t1, t2, t3], [s0, s1, s2, s3, (Z1L l : Int), w5 + (l.length : Int)]) = Z8B cu [t0, t1, t2, t3] [s0, s1, s2, s3, (Z1L l : Int), w5 + (l.length : Int)] := by unfold Z2S; dsimp only; rw [hol, show decide ([o0, o1, o2, o3, o4, o5] = zw) = false from g82, show decide (na [s0, s1, s2, s3, (Z1L l : Int), w5 + (l.length : Int)] 5 < na [o0, o1, o2, o3, o4, o5] 5) = true from hc3]; rfl
     refine sqr 4 rfl (spL rfl rfl (lh Z3T rfl rfl) rfl (spL rfl rfl (lhA [_, _, _, _] ZV rfl rfl rfl) rfl (spL rfl rfl (lhA [_, _, _, _, _, _] Z9L rfl rfl rfl) rfl ?_)))
     refine mpu (kvw cu) [t0, t1, t2, t3] (v := wvl [s0, s1, s2, s3, (Z1L l : Int), w5 + (l.length : Int)]) rfl Z4J (KeyT.of Z0L Z0P) rfl rfl rfl rfl (Z3L hcm) ?_
     rw [Z4I]
     exact ZF (.inl ⟨rfl, rfl, rfl⟩) (fun w h => by rw [hcs2, hu]; exact (((h.del b17).del b16).del b14).ftail)
     have hu : Z2S cu ([t0, t1, t2, t3], [s0, s1, s2, s3, (Z1L l : Int), w5 + (l.length : Int)]) = cu := by unfold Z2S; dsimp only; rw [hol, show decide ([o0, o1, o2, o3, o4, o5] = zw) = false from g82, show decide (na [s0, s1, s2, s3, (Z1L l : Int), w5 + (l.length : Int)] 5 < na [o0, o1, o2, o3, o4, o5] 5) = false from hc3]; rfl
     refine Z1 ?_
     exact ZF (.inl ⟨rfl, rfl, rfl⟩) (fun w h => by rw [hcs2, hu]; exact (((h.del b17).del b16).del b14).ftail)
     exact ZN
     rintro _ _ _ _ ⟨rfl, rfl, rfl, rfl⟩
     refine Z5k ?_
     exact ZF (.inl ⟨rfl, _, rfl, rfl, rfl⟩) (fun w h => by rw [hnk]; exact ((h.del b11).del b10).ftail.ftail)
   rintro _ _ _ _ ⟨rfl, rfl, rfl, rfl⟩
   refine Z5k ?_
   refine sqr 5 rfl (spL rfl rfl (lh Z8g rfl rfl) rfl (spL rfl rfl (lh Z3T rfl rfl) rfl ?_))
   refine bsl (out := [_]) rfl Zg5 ZeP rfl rfl rfl rfl rfl rfl (fun b94 => ?_)
   rw [← hrf]
   refine Sy.heap (H' := (b94, cel 156 [.map (some m40)]) :: (bd0, .deferred (some [])) :: (b9, cel 156 [.map (some m40)]) :: (m40, Z0g true (kvw (Z7y b.dsk (Z0N b.dsk b.state d) b.dsk.nst))) :: (b8, cel 3 [.int .i64 d]) :: (b7, cel 157 [o.fs]) :: (b3, cel 3 [.int .i64 days]) :: (b2, cel 50 [.pointer (some ⟨bd, 0, none⟩)]) :: (o.G ++ (mkh mk ++ H))) (fun w h => by rw [hrG]; exact h) ?_
   refine apO (o) rfl ZgI rfl rfl (Z0W (row := [.map (some m40)]) rfl) rfl rfl ((by rw [Z3P]; simp only [List.length_singleton]; omega)) rfl (fun o95 => ?_)
   refine Z1b (l' := [o95.fs]) rfl rfl rfl Zgk rfl (by rw [o95.cells.1]; first | done | rfl) (by rw [o95.cells.1]; simp [o95.cells.2]) (by rw [o95.cells.1]; first | done | rfl) (by rw [o95.cells.1]; first | done | exact Nat.le_refl _) ?_
   refine sqr 2 rfl (sp rfl (PE.add rfl rfl (by omega)) rfl (pur 1 rfl ?_))
   exact Z3k ⟨⟨(d + 1, ms ++ [(m40, (Z7y b.dsk (Z0N b.dsk b.state d) b.dsk.nst))], bd0 :: mk), by dsimp only; omega, MsOk.snoc ⟨hml, hmg⟩ m40⟩, o95.cast (Z7I ms m40 _).symm⟩ (by dsimp only; omega) (by repeat' first | exact Sub.nil | apply Sub.cons | rfl | (simp [lk]; omega)) rfl (fun w h => St.sub ((St.maps (ms := ms) ((((h.del b94).del b9).del b8).pull m40)).perm (ZO [_] ([_, _, _] ++ o95.G) _)))
  ·
   obtain rfl : days = d := by omega
   refine Zb (Zf (Zf (ZB (sqt 1 rfl (alc rfl Z1G rfl (fun b18 => sqt 4 rfl (alc rfl zl3 rfl (fun b19 => alc rfl zl4 rfl (fun b20 => ?_)))))))))
   refine sto rfl rfl rfl cn3 rfl rfl rfl rfl ?_
   refine sto rfl rfl rfl cn4 rfl rfl rfl rfl ?_
   refine Z0 (sqt 2 rfl (spL rfl rfl (lh Z0U rfl rfl) rfl ?_))
   refine cl rfl ZdI rfl rfl (Z69 bd _ _) ?_
   rintro _ _ _ ⟨xb, rfl, rfl, rfl⟩
   refine Z3 ?_
   refine Z1x rfl ZaN (fun c2 bl2 bd2 hcp2 hca2 hcb2 hck2 => ?_)
   refine ⟨fun st pend T R' => st = .ready ∧ pend = none ∧ T = (bd2, .deferred (some [])) :: (b20, cel 4 [.bool (Z1a b.dsk (Z0N b.dsk b.state days) b.dsk.nst).isSome]) :: (b19, cel 3 [.int .i64 (bN (Z1a b.dsk (Z0N b.dsk b.state days) b.dsk.nst))]) :: (b18, cel 54 (ZI (bS (Z1a b.dsk (Z0N b.dsk b.state days) b.dsk.nst)))) :: (b7, cel 157 [.slice (some ⟨br, 0, none⟩) ms.length cr]) :: (b3, cel 3 [.int .i64 days]) :: (b2, cel 50 [.pointer (some ⟨bd, 0, none⟩)]) :: (br, cel 156 (Z2l ms ++ jr)) :: (mkh mk ++ H) ∧ R' = Z5 (some ⟨xb, 0, none⟩) 1 [[.pointer (some ⟨bd, 0, none⟩)]] :: Z3c ms :: R,
     Fn.mono (Z4Z b hok ab cb bd m xb bl2 (fun k H' R' => H' = (bl2, lob c2 .ready none) :: (bd2, .deferred (some [])) :: (b20, cel 4 [.bool (Z1a b.dsk (Z0N b.dsk b.state days) k).isSome]) :: (b19, cel 3 [.int .i64 (bN (Z1a b.dsk (Z0N b.dsk b.state days) k))]) :: (b18, cel 54 (ZI (bS (Z1a b.dsk (Z0N b.dsk b.state days) k)))) :: (b7, cel 157 [.slice (some ⟨br, 0, none⟩) ms.length cr]) :: (b3, cel 3 [.int .i64 days]) :: (b2, cel 50 [.pointer (some ⟨bd, 0, none⟩)]) :: (br, cel 156 (Z2l ms ++ jr)) :: (mkh mk ++ H) ∧ R' = Z5 (some ⟨xb, 0, none⟩) 1 [[.pointer (some ⟨bd, 0, none⟩)]] :: Z3c ms :: R) (fun _ _ => False)
       (fun k H' R' h => by obtain ⟨_, rfl⟩ := h; exact ⟨by simp, List.mem_cons_of_mem _ (List.mem_cons_of_mem _ hD.mem)⟩) (fun k s q oo H' R' hk hI => ?_) _ _ ⟨rfl, rfl⟩) (fun v H' R' h => ?_), ?_⟩
   rotate_left
   · rcases h with ⟨rfl, rfl⟩ | h
     · exact ⟨.ready, none, _, by simp, .refl _, rfl, rfl, rfl, rfl⟩
     · exact h.elim
   rotate_left
   have hmem := List.mem_of_getElem? hk
   have hsi := (b.dsk.mem_sts hdk s).1 hmem
   obtain ⟨s0, s1, s2, s3, rfl⟩ := Z1P hsi.len
   have hbs := Z9O (m := (Z0N b.dsk b.state days)) hk
   have hbl := Z7a hdk (Z0N b.dsk b.state days) k
   obtain ⟨hw6, hw4, hw5⟩ := Z6U hmok [s0, s1, s2, s3]
   obtain ⟨wo, hwo⟩ : ∃ wo, Z17 (Z0N b.dsk b.state days) [s0, s1, s2, s3] = wo := ⟨_, rfl⟩
   rw [hwo] at hw6 hw4 hw5
   obtain ⟨rfl, rfl⟩ := hI
   obtain ⟨acc, hacc⟩ : ∃ acc, (Z1a b.dsk (Z0N b.dsk b.state days) k) = acc := ⟨_, rfl⟩
   rw [hacc] at hbs hbl ⊢
   refine Z5h hcp2 hca2 hcb2 hck2 rfl ?_
   refine sqr 2 rfl (alc rfl Z1G rfl (fun b21 => ?_))
   refine sto rfl rfl rfl Z1e rfl rfl rfl rfl ?_
   refine Z05 ?_
   refine Z3 (Z0 ?_)
   refine Zi [0, 0, 3, 7, 0, 31, 63, 127, 127, 0, 767, 2047] (.ld 0 (.ld 1 (.tk 2 (.ld 3 (.ld 4 (.ld 5 (tks 6 3 (.big 9 (.big 10 (.tk 11 .done)))))))))) ZH (by kernel_rfl) ?_
   refine ld rfl rfl (lh Z8g rfl rfl) rfl (ld rfl rfl (lh sc3 rfl rfl) rfl (tk rfl (PE.indexAddr Zen rfl rfl (by omega) (by omega)) rfl (ld rfl rfl (lh Z3T rfl (Z5m hmj (by show 0 + ((days : Nat) : Int).toNat * 1 = days; omega))) rfl (ld rfl rfl (lhA [_, _, _, _] ZV rfl rfl rfl) rfl ?_))))
   refine ldK rfl rfl rfl (Z6s hmok (Z2K (List.mem_of_getElem? hmj)) [s0, s1, s2, s3] rfl hwo) rfl ?_
   refine Zp 3 rfl (alc rfl Z4d rfl (fun b22 => ?_))
   refine bg (fun w hs => ⟨(Z6s hmok (Z2K (List.mem_of_getElem? hmj)) [s0, s1, s2, s3] rfl hwo) w hs, (lhA [_, _, _, _] ZV rfl rfl rfl) w hs, (lh Z3T rfl (Z5m hmj (by show 0 + ((days : Nat) : Int).toNat * 1 = days; omega))) w hs, (lh sc3 rfl rfl) w hs, (lh Z8g rfl rfl) w hs, trivial⟩) ?_
   refine Z1I (vs := ZI (wo.getD zw)) rfl rfl rfl Z7M rfl (by rw [Z8]; exact hw6) rfl (Zu _) ?_
   refine bgT (Zp 1 rfl (sqt 11 rfl (pur 2 rfl ?_)))
   refine Zh 110 rfl ?_ ?_ <;> intro g110
   obtain ⟨w, rfl⟩ : ∃ w, wo = some w := Option.isSome_iff_exists.1 g110
   obtain ⟨w0, w1, w2, w3, w4, w5, rfl⟩ := Z74 (show w.length = 6 from hw6)
   refine Z0o rfl rfl rfl rfl rfl (lh sc4 rfl rfl) rfl (pur 2 rfl ?_)
   refine Zh 113 rfl ?_ ?_ <;> intro g113
   have han : acc = none := by cases acc with
     | none => rfl
     | some w => cases g113
   subst han
   have hb2 : (Z1a b.dsk (Z0N b.dsk b.state days) (k + 1)) = some ([s0, s1, s2, s3], w5) := by rw [hbs]; unfold Z52; rw [hwo]; rfl
   refine pur 6 rfl ?_
   refine Zq rfl ?_
   refine Zi [0, 0, 2, 1, 15, 31] (.ld 0 (.tk 1 (.ld 2 (.big 3 (.big 4 (.big 5 .done)))))) ZH (by kernel_rfl) ?_
   refine ld rfl rfl (lhA [_, _, _, _] ZV rfl rfl rfl) rfl (tk rfl (PE.fA Z2o rfl) rfl (ld rfl rfl (lh sc3 rfl rfl) rfl ?_))
   refine sto rfl rfl rfl Z1e rfl rfl rfl rfl ?_
   refine bg (fun w hs => ⟨(lh sc3 rfl rfl) w hs, trivial, trivial⟩) ?_
   refine sto rfl rfl rfl cn3 rfl rfl rfl rfl ?_
   refine bgT ?_
   refine sto rfl rfl rfl cn4 rfl rfl rfl rfl ?_
   refine bgT ?_
   exact ZF (.inl ⟨rfl, _, rfl, rfl, rfl⟩) (fun w h => by rw [hb2]; exact (h.del b22).del b21)
   obtain ⟨⟨ta, nn⟩, rfl⟩ : ∃ p, acc = some p := by cases acc with
     | none => cases g113
     | some p => exact ⟨p, rfl⟩
   obtain ⟨a0, a1, a2, a3, rfl⟩ := Z1P (show ta.length = 4 from hbl)
   refine spG rfl rfl rfl rfl (PE.fA Z2o rfl) rfl ?_
   refine Z0o rfl rfl rfl rfl rfl (lh sc3 rfl rfl) rfl (Z0o rfl rfl rfl rfl rfl (lh sc3 rfl rfl) rfl (pur 3 rfl ?_))
   refine Z2 rfl ?_ ?_ <;> intro hc4
   have hb2 : (Z1a b.dsk (Z0N b.dsk b.state days) (k + 1)) = some ([s0, s1, s2, s3], w5) := by rw [hbs]; unfold Z52; rw [hwo]; dsimp only; rw [show decide (na [w0, w1, w2, w3, w4, w5] 5 < nn) = true from hc4]; rfl
   refine Zi [0, 0, 2, 1, 15, 31] (.ld 0 (.tk 1 (.ld 2 (.big 3 (.big 4 (.big 5 .done)))))) ZH (by kernel_rfl) ?_
   refine ld rfl rfl (lhA [_, _, _, _] ZV rfl rfl rfl) rfl (tk rfl (PE.fA Z2o rfl) rfl (ld rfl rfl (lh sc3 rfl rfl) rfl ?_))
   refine sto rfl rfl rfl Z1e rfl rfl rfl rfl ?_
   refine bg (fun w hs => ⟨(lh sc3 rfl rfl) w hs, trivial, trivial⟩) ?_
   refine sto rfl rfl rfl cn3 rfl rfl rfl rfl ?_
   refine bgT ?_
   refine sto rfl rfl rfl cn4 rfl rfl rfl rfl ?_
   refine bgT ?_
   exact ZF (.inl ⟨rfl, _, rfl, rfl, rfl⟩) (fun w h => by rw [hb2]; exact (h.del b22).del b21)
   have hb2 : (Z1a b.dsk (Z0N b.dsk b.state days) (k + 1)) = some ([a0, a1, a2, a3], nn) := by rw [hbs]; unfold Z52; rw [hwo]; dsimp only; rw [show decide (na [w0, w1, w2, w3, w4, w5] 5 < nn) = false from hc4]; rfl
   refine Z1 ?_
   exact ZF (.inl ⟨rfl, _, rfl, rfl, rfl⟩) (fun w h => by rw [hb2]; exact (h.del b22).del b21)
   have hwn : wo = none := by cases wo with
     | none => rfl
     | some w => cases g110
   have hb2 : (Z1a b.dsk (Z0N b.dsk b.state days) (k + 1)) = acc := by rw [hbs]; unfold Z52; rw [hwo.trans hwn]
   refine pur 3 rfl ?_
   repeat refine spU rfl rfl rfl rfl rfl rfl rfl ?_
   refine pur 2 rfl ?_
   refine ZG rfl ?_
   refine Z1 ?_
   exact ZF (.inl ⟨rfl, _, rfl, rfl, rfl⟩) (fun w h => by rw [hb2]; exact (h.del b22).del b21)
   rintro _ _ _ _ ⟨rfl, rfl, rfl, rfl⟩
   have hbl := Z7a hdk (Z0N b.dsk b.state days) b.dsk.nst
   obtain ⟨acc, hacc⟩ : ∃ acc, (Z1a b.dsk (Z0N b.dsk b.state days) b.dsk.nst) = acc := ⟨_, rfl⟩
   rw [hacc] at hbl ⊢
   refine Z5k ?_
   refine Z0 (sqt 2 rfl (spL rfl rfl (lh sc4 rfl rfl) rfl (pur 1 rfl ?_)))
   refine Z2 rfl ?_ ?_ <;> intro hc5
   have han : acc = none := by cases acc with
     | none => rfl
     | some w => cases hc5
   subst han
   refine sqt 3 rfl (pur 3 rfl (Z4 ?_))
   refine Sy.heap (H' := mkh (bd2 :: mk) ++ H) (R' := R) (fun w h => St.sub (((((((h.del b20).del b19).del b18).del b7).del b3).del b2).del br)) ?_
   exact ZY (bd2 :: mk) idH rfl (.cons (RV.tmp rfl) (.cons (RV.tmp rfl) (.cons (RV.tmp rfl) .nil))) rfl (.inl ⟨hacc, rfl, rfl, rfl⟩) idH
   obtain ⟨⟨sb, nb⟩, rfl⟩ : ∃ p, acc = some p := by cases acc with
     | none => cases hc5
     | some p => exact ⟨p, rfl⟩
   have hsb : sb.length = 4 := hbl
   refine Z1 (sqt 3 rfl (spL rfl rfl (lh sc3 rfl rfl) rfl ?_))
   refine mkS rfl Z2A Z1K rfl rfl (Nat.le_refl _) ⟨by omega, by omega⟩ rfl (fun b126 => ?_)
   rw [Zhw]
   refine pur 1 rfl (Z0 (sqt 2 rfl (spL rfl rfl (lh sc3 rfl rfl) rfl (pur 1 rfl (Z3 ?_)))))
   refine Zj (ι := {x : Nat × HSt × List PL // x.1 ≤ days ∧ x.2.1.length = 4 ∧ x.2.2.length + x.1 = days ∧ (Z1Q b.dsk b.state days sb).map il = (Z1Q b.dsk b.state x.1 x.2.1).map il ++ lls x.2.2}) (fun x => ⟨[(7, .pointer (some ⟨b7, 0, none⟩)), (18, .pointer (some ⟨b18, 0, none⟩)), (19, .pointer (some ⟨b19, 0, none⟩)), (24, .slice (some ⟨b126, 0, none⟩) days days), (25, .int .i64 x.1.1)], (b126, cel 22 (List.replicate x.1.1 (.slice none 0 0) ++ (Z9 x.1.2.2).flatten)) :: (bd2, .deferred (some [])) :: (b20, cel 4 [.bool true]) :: (b19, cel 3 [.int .i64 nb]) :: (b18, cel 54 (ZI x.1.2.1)) :: (b7, cel 157 [.slice (some ⟨br, 0, none⟩) ms.length cr]) :: (b3, cel 3 [.int .i64 days]) :: (b2, cel 50 [.pointer (some ⟨bd, 0, none⟩)]) :: (br, cel 156 (Z2l ms ++ jr)) :: (mkh mk ++ H), Inn x.1.2.2 :: Z5 (some ⟨xb, 0, none⟩) 1 [[.pointer (some ⟨bd, 0, none⟩)]] :: Z3c ms :: R⟩) (fun x => x.1.1) ⟨(days, sb, []), Nat.le_refl _, hsb, by simp, by simp [lls]⟩ ?_ (fun x => ?_)
   exact Zr (fun w h => by dsimp only; rw [show (Z9 []).flatten = [] from rfl, List.append_nil]; exact h.also fun _ _ y hy => by cases hy)
   obtain ⟨⟨j, sj, pl⟩, hj, hjs, hjl, hjb⟩ := x
   dsimp only at hj hjs hjl hjb ⊢
   refine Z0 (sqt 2 rfl (pur 2 rfl ?_))
   refine Z2 rfl ?_ ?_ <;> intro hc6 <;> try simp only [cS] at hc6
   obtain ⟨i, rfl⟩ : ∃ i, j = i + 1 := ⟨j - 1, by omega⟩
   obtain ⟨s0, s1, s2, s3, rfl⟩ := Z1P hjs
   obtain ⟨mi, hmi⟩ := hmg (i + 1) (by omega)
   have hmo := Z7Z hdk hs0 (i + 1)
   obtain ⟨hw6, hw4, _⟩ := Z6U hmo [s0, s1, s2, s3]
   obtain ⟨wo, hwo⟩ : ∃ wo, (Z17 (Z0N b.dsk b.state (i + 1)) [s0, s1, s2, s3]).getD zw = wo := ⟨_, rfl⟩
   rw [hwo] at hw6 hw4
   obtain ⟨w0, w1, w2, w3, w4, w5, rfl⟩ := Z74 hw6
   have hw4' : 0 ≤ w4 ∧ w4 < 16 := hw4
   obtain ⟨n4, rfl⟩ : ∃ n : Nat, w4 = n := ⟨w4.toNat, by omega⟩
   have hback : Z1Q b.dsk b.state (i + 1) [s0, s1, s2, s3] = Z1Q b.dsk b.state i [w0, w1, w2, w3] ++ [Z04 4 n4] := by
     show Z1Q b.dsk b.state i (((Z17 (Z0N b.dsk b.state (i + 1)) [s0, s1, s2, s3]).getD zw).take 4) ++ [Z04 4 (na ((Z17 (Z0N b.dsk b.state (i + 1)) [s0, s1, s2, s3]).getD zw) 4).toNat] = _
     rw [hwo]; rfl
   refine Z1 (Z0 (Z3 (Z0 ?_)))
   refine Zi [0, 0, 3, 7, 0, 31, 0, 127] (.ld 0 (.tk 1 (.tk 2 (.ld 3 (.ld 4 (.ld 5 (.big 6 (.big 7 .done)))))))) ZH (by kernel_rfl) ?_
   refine ld rfl rfl (lh Z8g rfl rfl) rfl (Zp 1 rfl (tk rfl (PE.indexAddr Zen rfl rfl (by omega) (by omega)) rfl (ld rfl rfl (lh Z3T rfl (Z5m hmi (by show 0 + ((i + 1 : Nat) : Int).toNat * 1 = i + 1; omega))) rfl (ld rfl rfl (lhA [_, _, _, _] ZV rfl rfl rfl) rfl ?_))))
   refine ldK rfl rfl rfl (Z9h hmo (Z2K (List.mem_of_getElem? hmi)) [s0, s1, s2, s3] rfl hwo) rfl ?_
   refine alc rfl Z4d rfl (fun b26 => ?_)
   refine bg (fun w hs => ⟨(Z9h hmo (Z2K (List.mem_of_getElem? hmi)) [s0, s1, s2, s3] rfl hwo) w hs, (lhA [_, _, _, _] ZV rfl rfl rfl) w hs, (lh Z3T rfl (Z5m hmi (by show 0 + ((i + 1 : Nat) : Int).toNat * 1 = i + 1; omega))) w hs, (lh Z8g rfl rfl) w hs, trivial⟩) ?_
   refine sto rfl rfl rfl Z7M rfl rfl rfl rfl ?_
   refine bgT ?_
   refine Zi [0, 0, 2, 0, 8, 24, 0, 64, 63, 319, 1023] (tks 0 4 (.ld 4 (.tk 6 (.ld 7 (.big 5 (.tk 8 (.big 9 (.big 10 .done)))))))) ZH (by kernel_rfl) ?_
   refine Zp 2 rfl (tk rfl (PE.sub rfl rfl (by omega)) rfl (tk rfl (PE.fA Zf3 rfl) rfl (ld rfl rfl (lh sc3 rfl rfl) rfl (tk rfl (PE.fA Ze5 rfl) rfl (ld rfl rfl (lhA [_, _, _, _] ZV rfl rfl rfl) rfl ?_)))))
   refine cl rfl Zgg rfl rfl (Zfm n4 (by omega) _ _) ?_
   rintro _ _ _ ⟨ol, rfl, rfl, rfl⟩
   refine bg (fun w hs => ⟨(lhA [_, _, _, _] ZV rfl rfl rfl) w hs, trivial, trivial⟩) ?_
   refine tk rfl (PE.indexAddr Z4l rfl rfl (by omega) (by omega)) rfl ?_
   refine Z1b (l' := List.replicate i (.slice none 0 0) ++ (ol.fs :: (Z9 pl).flatten)) rfl rfl rfl Zgu rfl (by rw [ol.cells.1]; first | done | rfl) (by rw [ol.cells.1]; simp [ol.cells.2]) (by rw [ol.cells.1]; exact ZbT (by show 0 + (((i + 1 : Nat) : Int) - 1).toNat * 1 = i; omega)) (by rw [ol.cells.1, List.length_append, List.length_replicate]; show 0 + (((i + 1 : Nat) : Int) - 1).toNat * 1 + 1 ≤ _; omega) ?_
   refine bg (fun w hs => ⟨(lhA [_, _, _, _] ZV rfl rfl rfl) w hs, trivial⟩) ?_
   refine sto rfl rfl rfl Z1e rfl rfl rfl rfl ?_
   refine bgT (sqr 3 rfl ?_)
   obtain ⟨al, cl, he, hf⟩ := ol.freeze
   rw [he, Zd]
   refine Sy.heap (fun w h => hf h) ?_
   clear he hf
   refine pur 1 rfl (sp rfl (PE.sub rfl rfl (by omega)) rfl (pur 1 rfl ?_))
   rw [show (((i + 1 : Nat) : Int) - 1) = (i : Int) by omega]
   exact Zn ⟨(i, [w0, w1, w2, w3], ⟨al, cl, il (Z04 4 n4)⟩ :: pl), by dsimp only; omega, rfl, by simp only [List.length_cons]; omega, by rw [hjb, hback]; simp [lls]⟩ (fun w h => St.sub (St.innCons (a := al) (c := cl) (l0 := il (Z04 4 n4)) (l := pl) (h.del b26)))
   obtain rfl : j = 0 := by omega
   refine Zb (Zf (Zf (ZB (Z0 ?_))))
   refine Zi [0, 0, 1, 7, 15] (.tk 0 (.ld 1 (tks 2 3 .done))) ZH (by kernel_rfl) ?_
   refine Zp 1 rfl (ld rfl rfl (lh sc3 rfl rfl) rfl (Zp 3 rfl (Z4 ?_)))
   refine Sy.heap (H' := mkh (bd2 :: mk) ++ ((b126, cel 22 (Z9 pl).flatten) :: H)) (R' := Inn pl :: R) (fun w h => St.sub ((((((((h.del b20).del b19).del b18).del b7).del b3).del b2).del br).perm (List.perm_middle (l₁ := mkh (bd2 :: mk)) (a := (b126, cel 22 (Z9 pl).flatten))).symm)) ?_
   exact ZY (bd2 :: mk) idH rfl (.cons (RV.tmp rfl) (.cons (RV.tmp rfl) (.cons (RV.tmp rfl) .nil))) rfl (.inr ⟨sb, nb, pl, b126, hacc, by rw [hjb]; rfl, rfl, rfl, rfl⟩) idH
theorem Fn.weakH {P : Program} {f : FuncId} {args : List Value} {H : Zg} {R : Z6} {Q Q' : Value → Zg → Z6 → Prop} (h : Fn P f args H R Q) (hq : ∀ v H' R', Q v H' R' → ∃ H2 R2, Q' v H2 R2 ∧ ∀ w, St H' R' w → St H2 R2 w) : Fn P f args H R Q' := fun w hw =>
  CallsIn.mono (h w hw) (by
    rintro e w' ⟨v, H', R', h1, he, hs⟩
    obtain ⟨H2, R2, h2, h3⟩ := hq v H' R' h1
    exact ⟨v, H2, R2, h2, he, h3 w' hs⟩)
theorem Zd6 (l : List PL) : ∀ r ∈ Z9 l, r.length = 1 := fun r hr => by obtain ⟨x, _, rfl⟩ := List.mem_map.1 hr; rfl
theorem Zcz (b : Barn) (hok : b.ok) (ab : Option Addr) (cb bd m : Nat) (days : Nat) (hdy : days ≤ 20) (H : Zg) (R : Z6) [hD : MemRows (some ⟨bd, 0, none⟩) 18 [dcs b (b.sl ab cb) b.lasts b.most m] R] [hB : MemRows ab 4 (Z7 b.bins) R] : Fn Tryz.prog 77 [.pointer (some ⟨bd, 0, none⟩), .int .i64 days] H R (ZhQ b.dsk b.state days H R) :=
  Fn.weakH (Z71 b hok ab cb bd m days hdy H R) fun v H' R' hq => by
    rcases hq with ⟨h1, rfl, rfl, rfl⟩ | ⟨s, n, pl, bp, h1, h2, rfl, rfl, rfl⟩
    · exact ⟨_, _, ⟨rfl, .inl ⟨h1, rfl, rfl⟩⟩, fun w h => h⟩
    · exact ⟨_, _, ⟨rfl, .inr ⟨s, n, pl, bp, h1, h2, rfl, rfl⟩⟩, fun w h => St.rows (sz := 1) (rows := Z9 pl) (rest := []) (by rw [List.append_nil]; exact h) (Zd6 pl)⟩
theorem ZeF : cal Tryz.prog 24 = true := by kernel_rfl
theorem Zfq : cal Tryz.prog 77 = true := by kernel_rfl
def Z09 (b : Barn) (days : Int) : Int := bif decide (b.check = 0) then (bif !(inB days 0 20) then 3 else (bif (Z1a b.dsk (Z0N b.dsk b.state days.toNat) b.dsk.nst).isNone then 6 else 0)) else b.check
def Z0l (b : Barn) (days : Int) : Int := bif decide (Z09 b days = 0) then bN (Z1a b.dsk (Z0N b.dsk b.state days.toNat) b.dsk.nst) else 0
def Z3B (b : Barn) (days : Int) : List (List Int) := (Z1Q b.dsk b.state days.toNat (bS (Z1a b.dsk (Z0N b.dsk b.state days.toNat) b.dsk.nst))).map il
def Zi7 (b : Barn) (days : Int) (H : Zg) (R : Z6) : Value → Zg → Z6 → Prop := fun v H' R' => H' = H ∧
  ((Z09 b days ≠ 0 ∧ v = .tuple #[.slice none 0 0, .int .i64 0, .int .i64 (Z09 b days)] ∧ R' = R) ∨
   (Z09 b days = 0 ∧ ∃ (pl : List PL) (bp : Nat), lls pl = Z3B b days ∧ v = .tuple #[.slice (some ⟨bp, 0, none⟩) days.toNat days.toNat, .int .i64 (Z0l b days), .int .i64 0] ∧ R' = Z5 (some ⟨bp, 0, none⟩) 1 (Z9 pl) :: Inn pl :: R))
def ZgO (b : Barn) (days : Int) (H : Zg) (R : Z6) : Value → Zg → Z6 → Prop := fun v H' R' => H' = H ∧
  ((Z09 b days ≠ 0 ∧ v = .tuple #[.slice none 0 0, .int .i64 (Z09 b days)] ∧ R' = R) ∨
   (Z09 b days = 0 ∧ ∃ (pl : List PL) (bp : Nat), lls pl = Z3B b days ∧ v = .tuple #[.slice (some ⟨bp, 0, none⟩) days.toNat days.toNat, .int .i64 0] ∧ R' = Z5 (some ⟨bp, 0, none⟩) 1 (Z9 pl) :: Inn pl :: R))
theorem ZaD (b : Barn) (ab : Option Addr) (cb : Nat) (hl : b.bins.length ≤ 9223372036854775807) (hr : b.rise.length = 6) (days : Int) (H : Zg) (R : Z6) [hB : MemRows ab 4 (Z7 b.bins) R] :
    Fn Tryz.prog 24 [b.v (b.sl ab cb), .int .i64 days] H R (Zi7 b days H R) := by
 refine Zy Tryz.func24 rfl Tryz.ntmps24 rfl ?_
 refine sqt 4 rfl (bx rfl rfl rfl (fun b2 => pur 3 rfl (sqt 7 rfl (spL rfl rfl (lhA (btl b (b.sl ab cb)) ZD rfl rfl rfl) rfl ?_))))
 refine cl rfl Z9V rfl rfl (Z2H b ab cb hl hr _ _) ?_
 rintro _ _ _ (⟨hck, rfl, rfl, rfl⟩ | ⟨hck, bd, m, rfl, rfl, rfl⟩)
 refine pur 5 rfl (Z0 (Z3 (sqt 3 rfl (pur 3 rfl ?_))))
 refine Zq (congrArg (fun b => some (Value.bool b)) (dT hck)) ?_
 refine sqt 4 rfl ?_
 have ese : Z09 b days = b.check := by unfold Z09; rw [dF hck]; rfl
 refine pur 4 rfl (Z4 ?_)
 exact rtC rfl rfl rfl rfl rfl ⟨rfl, .inl ⟨by rw [ese]; exact hck, by rw [ese]; rfl, rfl⟩⟩ drp
 have hok := Barn.ok_of hr hck
 have hdk := b.dsk_ok hok
 have hl4 := hdk.lasts.len
 have hm4 := hdk.most.len
 refine pur 5 rfl (Z0 (Z3 (sqt 3 rfl (pur 3 rfl ?_))))
 refine ZG (rfl) ?_
 refine sqt 4 rfl (pur 1 rfl ?_)
 refine clV rfl Z3R rfl rfl (Z9T _ _ _ _ _) ?_
 refine pur 2 rfl ?_
 refine Z2 rfl ?_ ?_ <;> intro hc1
 have ese : Z09 b days = 3 := by unfold Z09; rw [dT hck, hc1]; rfl
 refine sqt 3 rfl (pur 3 rfl (Z4 ?_))
 exact rtC rfl rfl rfl rfl rfl ⟨rfl, .inl ⟨by rw [ese]; decide, by rw [ese]; rfl, rfl⟩⟩ (fun w h => ((h.del b2).del m).ftail)
 have hin := hc1
 rw [Bool.not_eq_false'] at hin
 simp only [inB, Bool.and_eq_true, decide_eq_true_eq] at hin
 obtain ⟨n, rfl⟩ : ∃ n : Nat, days = n := ⟨days.toNat, by omega⟩
 refine Z1 (sqt 10 rfl (pur 2 rfl ?_))
 refine cl rfl Zfq rfl rfl (Zcz b hok ab cb bd m n (by omega) _ _) ?_
 rintro _ _ R1 ⟨rfl, hQ⟩
 rcases hQ with ⟨hbn, rfl, hR1⟩ | ⟨sb, nb, pl, bp, hbn, hpl, rfl, hR1⟩ <;> obtain rfl := hR1.symm
 refine pur 7 rfl (Z0 (sqt 2 rfl ?_))
 have ese : Z09 b (n : Int) = 6 := by unfold Z09; rw [dT hck, hc1, Int.toNat_natCast, hbn]; rfl
 refine pur 2 rfl ?_
 refine Zq rfl ?_
 refine sqt 3 rfl (pur 3 rfl (Z4 ?_))
 exact rtC rfl rfl rfl rfl rfl ⟨rfl, .inl ⟨by rw [ese]; decide, by rw [ese]; rfl, rfl⟩⟩ (fun w h => ((h.del b2).del m).ftail)
 refine pur 7 rfl (Z0 (sqt 2 rfl ?_))
 have ese : Z09 b (n : Int) = 0 := by unfold Z09; rw [dT hck, hc1, Int.toNat_natCast, hbn]; rfl
 have etv : Z0l b (n : Int) = nb := by unfold Z0l; rw [decide_eq_true ese, Int.toNat_natCast, hbn]; rfl
 refine pur 2 rfl ?_
 refine ZG rfl ?_
 refine Z1 (sqt 5 rfl (pur 5 rfl (Z4 ?_)))
 exact rtC rfl rfl rfl rfl rfl ⟨rfl, .inr ⟨ese, pl, bp, by unfold Z3B; rw [Int.toNat_natCast, hbn]; exact hpl, by rw [etv]; rfl, rfl⟩⟩ (fun w h => St.sub ((h.del b2).del m))
theorem Zgp (b : Barn) (ab : Option Addr) (cb : Nat) (hl : b.bins.length ≤ 9223372036854775807) (hr : b.rise.length = 6) (days : Int) (H : Zg) (R : Z6) [hB : MemRows ab 4 (Z7 b.bins) R] :
    Fn Tryz.prog 7 [b.v (b.sl ab cb), .int .i64 days] H R (ZgO b days H R) := by
 refine Zy Tryz.func7 rfl Tryz.ntmps7 rfl ?_
 refine sqt 3 rfl (bx rfl rfl rfl (fun b2 => pur 2 rfl (sqt 10 rfl (spL rfl rfl (lhA (btl b (b.sl ab cb)) ZD rfl rfl rfl) rfl (pur 1 rfl ?_)))))
 refine cl rfl ZeF rfl rfl (ZaD b ab cb hl hr days _ _) ?_
 rintro _ _ R1 ⟨rfl, hQ⟩
 rcases hQ with ⟨hpe, rfl, hR1⟩ | ⟨hpe, pl, bp, hpl, rfl, hR1⟩ <;> obtain rfl := hR1.symm
 refine pur 7 rfl (sqt 4 rfl (pur 4 rfl (Z4 ?_)))
 exact rtB rfl rfl rfl rfl ⟨rfl, .inl ⟨hpe, rfl, rfl⟩⟩ drp
 refine pur 7 rfl (sqt 4 rfl (pur 4 rfl (Z4 ?_)))
 exact rtB rfl rfl rfl rfl ⟨rfl, .inr ⟨hpe, pl, bp, hpl, rfl, rfl⟩⟩ drp
theorem Z3M (b : Barn) (ab : Option Addr) (cb : Nat) (hl : b.bins.length ≤ 9223372036854775807) (hr : b.rise.length = 6) (days : Int) (H : Zg) (R : Z6) [hB : MemRows ab 4 (Z7 b.bins) R] :
    FnV Tryz.prog 51 [b.v (b.sl ab cb), .int .i64 days] H R (.tuple #[.int .i64 (Z0l b days), .int .i64 (Z09 b days)]) := by
 refine Zy Tryz.func51 rfl Tryz.ntmps51 rfl ?_
 refine sqt 3 rfl (bx rfl rfl rfl (fun b2 => pur 2 rfl (sqt 10 rfl (spL rfl rfl (lhA (btl b (b.sl ab cb)) ZD rfl rfl rfl) rfl (pur 1 rfl ?_)))))
 refine cl rfl ZeF rfl rfl (ZaD b ab cb hl hr days _ _) ?_
 rintro _ _ R1 ⟨rfl, hQ⟩
 rcases hQ with ⟨hpe, rfl, hR1⟩ | ⟨hpe, pl, bp, hpl, rfl, hR1⟩ <;> obtain rfl := hR1.symm
 refine pur 7 rfl (sqt 4 rfl (pur 4 rfl (Z4 ?_)))
 exact rtB rfl rfl rfl rfl ⟨by unfold Z0l; rw [dF hpe]; rfl, rfl, rfl⟩ drp
 refine pur 7 rfl (sqt 4 rfl (pur 4 rfl (Z4 ?_)))
 exact rtB rfl rfl rfl rfl ⟨by rw [hpe]; rfl, rfl, rfl⟩ drp
theorem Zfp : cal Tryz.prog 101 = true := by kernel_rfl
theorem ZbX : cal Tryz.prog 36 = true := by kernel_rfl
theorem Z4c : cal Tryz.prog 4 = true := by kernel_rfl
theorem ZfK : cal Tryz.prog 47 = true := by kernel_rfl
theorem Zft : cal Tryz.prog 48 = true := by kernel_rfl
theorem Zfu : cal Tryz.prog 49 = true := by kernel_rfl
theorem Ze7 : cal Tryz.prog 51 = true := by kernel_rfl
theorem Zet : cal Tryz.prog 52 = true := by kernel_rfl
theorem ZdS : cal Tryz.prog 53 = true := by kernel_rfl
theorem Zem : cal Tryz.prog 54 = true := by kernel_rfl
theorem Zgb : elN Tryz.prog 101 = some 2 := by kernel_rfl
theorem ZeV : eqB Tryz.prog 10000 31 = some (true, 2) := by kernel_rfl
theorem ZeM : Tryz.prog.eqGuardType Tryz.prog.depth 31 = false := by kernel_rfl
theorem Zad : Z7W Tryz.prog 101 = true := by kernel_rfl
theorem Zdk : Z2z Tryz.prog 40 = some [(0, 1), (1, 1), (2, 2)] := by kernel_rfl
theorem Z6I : slE Tryz.prog 23 = some (22, 1) := by kernel_rfl
theorem Zhq : Z0x Tryz.prog 24 = some ([.int .i64 0, .int .i64 0, .int .i64 0, .int .i64 0, .int .i64 0, .int .i64 0]) := by kernel_rfl
def thr (n : Nat) : Barn := ⟨20, 1, [0, 0, 6, 8, 10, 20], [⟨20, 40, 3, 4⟩, ⟨30, 50, 2, 3⟩, ⟨30, 40, 4, 4⟩].take n⟩
theorem ZaR {n : Nat} (h : n ≤ 3) : (thr n).bins.length = n := by simp [thr]; omega
theorem St.inn0 {H : Zg} {R : Z6} {w : World} (h : St H R w) : St H (Inn [] :: R) w := h.also fun _ _ y hy => by cases hy
theorem St.innN {l : List PL} {H : Zg} {R : Z6} {w : World} [m1 : MemF (Inn l) R] (h : St H R w) : St H (Inn (⟨none, 0, []⟩ :: l) :: R) w :=
  h.also fun _ hw y hy => by
    rcases List.mem_cons.1 hy with rfl | hy
    · exact fun i row hi => by simp at hi
    · exact hw _ m1.mem y hy
theorem ex_w : ZZ (thr 2) [[], [], []] 0 = 0 ∧ Z5e (thr 2) [[], [], []] 0 = [(28, 30), (36, 40), (44, 50)] := by decide +kernel
theorem ex_b : (thr 2).planned [[], [], [0]] = 0 ∧ ((thr 2).burnsF (thr 2).warms [[], [], [0]] 0).1 = some (2, 1) := by decide +kernel
theorem ex_k : (thr 2).planned [[], [0], [1]] = 0 ∧ ((thr 2).burnsF (thr 2).warms [[], [0], [1]] 0).1 = none := by decide +kernel
theorem ex_c : (thr 2).check = 0 ∧ (thr 3).check = 0 := by decide +kernel
theorem Z9v {d : Dsk} {s : HSt} {n : Nat} (hf : d.alive (n + 1) = d.alive n) (hs : s ∈ d.alive n) : Kpt d s 1000000 := .inl ⟨rfl, fun m => by
  rcases Nat.lt_or_ge m n with h | h
  · exact d.alive_le (by omega) hs
  · obtain ⟨k, rfl⟩ : ∃ k, m = n + k := ⟨m - n, by omega⟩
    rw [d.alive_fix hf]; exact hs⟩
theorem ex_l : (thr 2).dsk.alive 4 = (thr 2).dsk.alive 3 ∧ (thr 2).state ∈ (thr 2).dsk.alive 3 := by decide +kernel
theorem ex_t : Z09 (thr 2) 3 = 0 ∧ Z0l (thr 2) 3 = 2 := by decide +kernel
theorem ex_f : (thr 3).state ∈ (thr 3).dsk.alive 3 ∧ (thr 3).state ∉ (thr 3).dsk.alive 4 := by decide +kernel
theorem ex_s0 : (thr 3).state ∈ ((thr 3).withG 0).dsk.alive 1 ∧ (thr 3).state ∉ ((thr 3).withG 0).dsk.alive 2 := by decide +kernel
theorem ex_s2 : ((thr 3).withG 2).dsk.alive 4 = ((thr 3).withG 2).dsk.alive 3 ∧ (thr 3).state ∈ ((thr 3).withG 2).dsk.alive 3 := by decide +kernel
theorem ex_g : Z0d (thr 2) [] [[0], [1]] = 0 ∧ (thr 2).burnsF (thr 2).warms ([] ++ rep 1 [[0], [1]]) 0 = (none, [40, 28]) ∧ (thr 2).burnsF [40, 28] [[0], [1]] 0 = (none, [40, 28]) := by decide +kernel
theorem Zbf (xs ys : List (Int × Int)) (a a2 : Option Addr) (c c2 : Nat) (hl : xs.length ≤ 9223372036854775807) (hl2 : ys.length ≤ 9223372036854775807) (H : Zg) (R : Z6) [hR : MemRows a 2 (Z0H xs) R] [hR2 : MemRows a2 2 (Z0H ys) R] :
    FnV Tryz.prog 101 [.slice a xs.length c, .slice a2 ys.length c2] H R (.bool (decide (xs = ys))) := by
 refine Zy Tryz.func101 rfl Tryz.ntmps101 rfl ?_
 refine sqt 1 rfl (pur 1 rfl (Z0 (sqt 5 rfl (pur 1 rfl (sp rfl (PE.lenSl Zad rfl) rfl (pur 1 rfl (sp rfl (PE.lenSl Zad rfl) rfl (pur 1 rfl ?_))))))))
 refine Z2 rfl ?_ ?_ <;> intro hc0
 have hne : xs ≠ ys := fun e => by subst e; simp at hc0
 refine sqt 1 rfl (pur 1 rfl (Z4 ?_))
 exact rtA rfl rfl rfl ⟨by first | (simp only [Z0u]; rw [dT heq]; done) | (simp only [Z0u]; rw [dF hne]), rfl, rfl⟩ idH
 have hle : xs.length = ys.length := by simp only [cS] at hc0; omega
 refine Z1 (Z0 (sqt 3 rfl (pur 1 rfl (sp rfl (PE.lenSl Zad rfl) rfl (pur 1 rfl (Z3 ?_))))))
 refine Zj (ι := {k : Nat // k ≤ xs.length ∧ xs.take k = ys.take k}) (fun k => ⟨[(0, .slice a xs.length c), (1, .slice a2 ys.length c2), (12, .int .i64 xs.length), (13, .int .i64 k.1)], H, R⟩) (fun k => xs.length - k.1) ⟨0, by simp⟩ ?_ (fun k => ?_)
 exact Zr idH
 obtain ⟨k, hk, hn⟩ := k
 dsimp only
 refine sqt 1 rfl (pur 1 rfl (Z0 ?_))
 refine Z2 rfl ?_ ?_ <;> intro hc1
 simp only [cS] at hc1
 obtain ⟨x, hx⟩ : ∃ x, xs[k]? = some x := ⟨_, List.getElem?_eq_getElem (by omega)⟩
 obtain ⟨z, hz⟩ : ∃ z, ys[k]? = some z := ⟨_, List.getElem?_eq_getElem (by omega)⟩
 refine Zl (a := a) (sz := 2) (rows := Z0H xs) (by intro h0; simp [Z0H] at h0; simp [h0] at hx) (fun b off he => ?_)
 subst he
 refine Zl (a := a2) (sz := 2) (rows := Z0H ys) (by intro h0; simp [Z0H] at h0; simp [h0] at hz) (fun b2 off2 he => ?_)
 subst he
 refine Z1 (Z0 (Z3 (sqt 2 rfl (pur 2 rfl (Z0 ?_)))))
 refine Zi [0, 0, 3, 7, 0, 0, 48, 112, 255] (tks 0 3 (.ld 3 (tks 4 3 (.ld 7 (.tk 8 .done))))) ZH (by kernel_rfl) ?_
 refine Zp 2 rfl (tk rfl (PE.indexAddr Zgb rfl rfl (by omega) (by omega)) rfl (ld rfl rfl (lfA Z7O (row := Z9M x) (by simp [Z0H, hx]) rfl) rfl (Zp 2 rfl (tk rfl (PE.indexAddr Zgb rfl rfl (by omega) (by omega)) rfl (ld rfl rfl (lfA Z7O (row := Z9M z) (by simp [Z0H, hz]) rfl) rfl (tk rfl (PE.neqAgg [x.1, x.2] [z.1, z.2] (Z1X 10000 31 true 2 ZeV) ZeM rfl rfl rfl rfl) rfl ?_))))))
 refine Z2 rfl ?_ ?_ <;> intro hc2
 have hne : xs ≠ ys := fun e => by subst e; rw [hx] at hz; cases hz; simp at hc2
 refine sqt 1 rfl (pur 1 rfl (Z4 ?_))
 exact rtA rfl rfl rfl ⟨by first | (simp only [Z0u]; rw [dT heq]; done) | (simp only [Z0u]; rw [dF hne]), rfl, rfl⟩ idH
 have hxz : x = z := by cases x; cases z; simpa using hc2
 refine Z1 (sqr 2 rfl (sp rfl (PE.add rfl rfl (by omega)) rfl (pur 1 rfl ?_)))
 exact Zn ⟨k + 1, by omega, by rw [List.take_add_one, List.take_add_one, hn, hx, hz, hxz]⟩ idH
 simp only [cS] at hc1
 obtain rfl : k = xs.length := by omega
 have heq : xs = ys := by
   rw [List.take_length] at hn
   exact hn.trans (by rw [hle]; exact List.take_length)
 refine Zb (Zf (Zf (ZB (sqt 1 rfl (pur 1 rfl (Z4 ?_))))))
 exact rtA rfl rfl rfl ⟨by first | (simp only [Z0u]; rw [dT heq]; done) | (simp only [Z0u]; rw [dF hne]), rfl, rfl⟩ idH
theorem Z4E (xs ys : List (Int × Int)) (a a2 : Option Addr) (c c2 : Nat) (hl : xs.length ≤ 9223372036854775807) (hl2 : ys.length ≤ 9223372036854775807) (H : Zg) (R : Z6) [hR : MemRows a 2 (Z0H xs) R] [hR2 : MemRows a2 2 (Z0H ys) R] :
    FnV Tryz.prog 54 [.slice a xs.length c, .slice a2 ys.length c2] H R (.bool (decide (xs = ys))) := by
 refine Zy Tryz.func54 rfl Tryz.ntmps54 rfl ?_
 refine sqt 1 rfl (pur 1 rfl (sqt 4 rfl (pur 2 rfl ?_)))
 refine clV rfl Zfp rfl rfl (Zbf xs ys a a2 c c2 hl hl2 _ _) ?_
 refine pur 1 rfl (Z4 ?_)
 exact rtA rfl rfl rfl ⟨rfl, rfl, rfl⟩ drp
theorem ZbV (xs ys : List HBin) (a a2 : Option Addr) (c c2 : Nat) (hl : xs.length ≤ 9223372036854775807) (hl2 : ys.length ≤ 9223372036854775807) (H : Zg) (R : Z6) [hR : MemRows a 4 (Z7 xs) R] [hR2 : MemRows a2 4 (Z7 ys) R] :
    FnV Tryz.prog 89 [.slice a xs.length c, .slice a2 ys.length c2] H R (.bool (decide (xs = ys))) := by
 refine Zy Tryz.func89 rfl Tryz.ntmps89 rfl ?_
 refine sqt 1 rfl (pur 1 rfl (sqt 4 rfl (pur 2 rfl ?_)))
 refine clV rfl Zgl rfl rfl (Z8M xs ys a a2 c c2 hl hl2 _ _) ?_
 refine pur 1 rfl (Z4 ?_)
 exact rtA rfl rfl rfl ⟨rfl, rfl, rfl⟩ drp
theorem Z0c (n : Nat) (hn : n ≤ 3) (H : Zg) (R : Z6) :
    Fn Tryz.prog 4 [.int .i64 n] H R (fun v H' R' => ∃ ba, v = (thr n).v ((thr n).sl (some ⟨ba, 0, none⟩) 3) ∧ H' = H ∧ R' = Z5 (some ⟨ba, 0, none⟩) 4 (Z7 (thr n).bins) :: R) := by
 refine Zy Tryz.func4 rfl Tryz.ntmps4 rfl ?_
 refine sqt 1 rfl (alc rfl Z0w rfl (fun b2 => sqt 8 rfl (sp rfl (PE.build (out := [_, _]) Z4r Z2C rfl rfl) rfl (sp rfl (PE.build (out := [_, _, _, _]) Zdk Z4M rfl rfl) rfl (sp rfl (PE.build (out := [_, _]) Z4r Z2C rfl rfl) rfl (sp rfl (PE.build (out := [_, _, _, _]) Zdk Z4M rfl rfl) rfl (sp rfl (PE.build (out := [_, _]) Z4r Z2C rfl rfl) rfl (sp rfl (PE.build (out := [_, _, _, _]) Zdk Z4M rfl rfl) rfl ?_))))))))
 refine bsl (out := [_, _, _, _, _, _, _, _, _, _, _, _]) rfl Z9Q Z4M rfl rfl rfl rfl rfl rfl (fun b10 => ?_)
 refine pur 1 rfl (sqt 10 rfl (sp rfl (PE.buildArr (out := [_, _, _, _, _, _]) Z5a Zhq rfl rfl) rfl (pur 3 rfl (sp rfl (PE.lenSl Z0M rfl) rfl (sp rfl (PE.min rfl rfl) rfl (sp rfl (PE.max rfl rfl) rfl (sp rfl (PE.slHi (h := n) Z9Q rfl (by rw [show (max (0 : Int) (min (n : Int) ((3 : Nat) : Int))) = (n : Int) by omega]; rfl) (by omega)) rfl (sp rfl (PE.build (out := [_, _, _, _, _, _, _, _, _]) Z6p Z0w rfl rfl) rfl ?_))))))))
 refine sto rfl rfl rfl Z03 rfl rfl rfl rfl ?_
 refine Z4 ?_
 refine Sy.heap (fun w h => St.rows (sz := 4) (rows := Z7 (thr 3).bins) (rest := []) (h.pull b10) (Z38 _)) ?_
 refine Sy.heap (R' := Z5 (some ⟨b10, 0, none⟩) 4 (Z7 (thr n).bins) :: R) (fun w h => (h.rowsTake (a := some ⟨b10, 0, none⟩) (rows := Z7 (thr 3).bins) n).facts (fun f hf => by
   rcases List.mem_cons.1 hf with h1 | h1
   · rw [h1, show Z7 (thr n).bins = (Z7 (thr 3).bins).take n from by simp [Z7, thr, List.map_take]]; exact List.mem_cons_self
   · simp [h1])) ?_
 have hln := ZaR hn
 exact Zk (vs := [_]) rfl (.cons (RV.cell rfl (lhA [_, _, _, _, _, _, _, _, _] ZD rfl rfl rfl)) .nil) rfl ⟨b10, by unfold Barn.sl; rw [hln]; rfl, rfl, rfl⟩ (fun w h => h.del b2)
set_option maxHeartbeats 2000000 in
theorem Z02 (H : Zg) (R : Z6) :
    FnV Tryz.prog 11 [] H R (.bool true) := by
 refine Zy Tryz.func11 rfl Tryz.ntmps11 rfl ?_
 refine sqt 1 rfl (pur 1 rfl (sqt 8 rfl ?_))
 refine cl rfl Z4c rfl rfl (Z0c 2 (by decide) _ _) ?_
 rintro _ _ _ ⟨ba19, rfl, rfl, rfl⟩
 refine bsl (out := [_, _, _]) rfl Z6I Z1K rfl rfl rfl rfl rfl rfl (fun b20 => ?_)
 refine Sy.heap (fun w h => St.inn0 h) ?_
 refine Sy.heap (fun w h => St.innN (l := []) h) ?_
 refine Sy.heap (fun w h => St.innN (l := [⟨none, 0, []⟩]) h) ?_
 refine Sy.heap (fun w h => St.innN (l := [⟨none, 0, []⟩, ⟨none, 0, []⟩]) h) ?_
 refine Sy.heap (fun w h => St.rows (sz := 1) (rows := Z9 [⟨none, 0, []⟩, ⟨none, 0, []⟩, ⟨none, 0, []⟩]) (rest := []) (h.pull b20) (by simp [Z9, Z4L])) ?_
 refine cl rfl ZfK rfl rfl (Z8Q (thr 2) (some ⟨ba19, 0, none⟩) 3 (by decide) rfl [⟨none, 0, []⟩, ⟨none, 0, []⟩, ⟨none, 0, []⟩] (some ⟨b20, 0, none⟩) 3 (by simp) (fun x hx => by simp only [List.mem_cons, List.not_mem_nil, or_false] at hx; rcases hx with rfl | rfl | rfl <;> simp) 0 _ _) ?_
 rintro _ _ R1 ⟨hQ, hR1⟩
 obtain rfl := hR1.symm
 rcases hQ with ⟨hne, _, _⟩ | ⟨_, ow, rfl, rfl⟩
 exact absurd ex_w.1 hne
 obtain ⟨aw, cw, he, hf⟩ := (ow.cast (congrArg Z0H ex_w.2) : OSl 31 2 (Z0H [(28, 30), (36, 40), (44, 50)])).freeze
 rw [show ow.fs = _ from he]
 refine Sy.heap (fun w h => hf h) ?_
 clear he hf
 refine pur 5 rfl (sqt 11 rfl ?_)
 refine cl rfl Z4c rfl rfl (Z0c 2 (by decide) _ _) ?_
 rintro _ _ _ ⟨ba25, rfl, rfl, rfl⟩
 refine bsl (out := [_]) rfl Z1u zl3 rfl rfl rfl rfl rfl rfl (fun b26 => ?_)
 refine bsl (out := [_, _, _]) rfl Z6I Z1K rfl rfl rfl rfl rfl rfl (fun b27 => ?_)
 refine Sy.heap (fun w h => St.intRows (l := [0]) (h.pull b26)) ?_
 refine Sy.heap (fun w h => St.inn0 h) ?_
 refine Sy.heap (fun w h => St.innCons (a := some ⟨b26, 0, none⟩) (c := 1) (l0 := [0]) (l := []) h) ?_
 refine Sy.heap (fun w h => St.innN (l := [⟨some ⟨b26, 0, none⟩, 1, [0]⟩]) h) ?_
 refine Sy.heap (fun w h => St.innN (l := [⟨none, 0, []⟩, ⟨some ⟨b26, 0, none⟩, 1, [0]⟩]) h) ?_
 refine Sy.heap (fun w h => St.rows (sz := 1) (rows := Z9 [⟨none, 0, []⟩, ⟨none, 0, []⟩, ⟨some ⟨b26, 0, none⟩, 1, [0]⟩]) (rest := []) (h.pull b27) (by simp [Z9, Z4L])) ?_
 refine cl rfl Zft rfl rfl (ZbH (thr 2) (some ⟨ba25, 0, none⟩) 3 (by decide) rfl [⟨none, 0, []⟩, ⟨none, 0, []⟩, ⟨some ⟨b26, 0, none⟩, 1, [0]⟩] (some ⟨b27, 0, none⟩) 3 (by simp) (fun x hx => by simp only [List.mem_cons, List.not_mem_nil, or_false] at hx; rcases hx with rfl | rfl | rfl <;> simp) _ _) ?_
 rintro _ _ _ ⟨rfl, rfl, rfl⟩
 rw [show (thr 2).burnsV (lls [⟨none, 0, []⟩, ⟨none, 0, []⟩, ⟨some ⟨b26, 0, none⟩, 1, [0]⟩]) = .tuple #[.int .i64 2, .int .i64 1, .int .i64 0] from by unfold Barn.burnsV; rw [show lls [⟨none, 0, []⟩, ⟨none, 0, []⟩, ⟨some ⟨b26, 0, none⟩, 1, [0]⟩] = [[], [], [0]] from rfl, ex_b.1, ex_b.2]; rfl]
 refine pur 7 rfl (sqt 10 rfl ?_)
 refine cl rfl Z4c rfl rfl (Z0c 2 (by decide) _ _) ?_
 rintro _ _ _ ⟨ba33, rfl, rfl, rfl⟩
 refine bsl (out := [_]) rfl Z1u zl3 rfl rfl rfl rfl rfl rfl (fun b34 => ?_)
 refine bsl (out := [_]) rfl Z1u zl3 rfl rfl rfl rfl rfl rfl (fun b35 => ?_)
 refine bsl (out := [_, _, _]) rfl Z6I Z1K rfl rfl rfl rfl rfl rfl (fun b36 => ?_)
 refine Sy.heap (fun w h => St.intRows (l := [0]) (h.pull b34)) ?_
 refine Sy.heap (fun w h => St.intRows (l := [1]) (h.pull b35)) ?_
 refine Sy.heap (fun w h => St.inn0 h) ?_
 refine Sy.heap (fun w h => St.innCons (a := some ⟨b35, 0, none⟩) (c := 1) (l0 := [1]) (l := []) h) ?_
 refine Sy.heap (fun w h => St.innCons (a := some ⟨b34, 0, none⟩) (c := 1) (l0 := [0]) (l := [⟨some ⟨b35, 0, none⟩, 1, [1]⟩]) h) ?_
 refine Sy.heap (fun w h => St.innN (l := [⟨some ⟨b34, 0, none⟩, 1, [0]⟩, ⟨some ⟨b35, 0, none⟩, 1, [1]⟩]) h) ?_
 refine Sy.heap (fun w h => St.rows (sz := 1) (rows := Z9 [⟨none, 0, []⟩, ⟨some ⟨b34, 0, none⟩, 1, [0]⟩, ⟨some ⟨b35, 0, none⟩, 1, [1]⟩]) (rest := []) (h.pull b36) (by simp [Z9, Z4L])) ?_
 refine cl rfl Zfu rfl rfl (ZaC (thr 2) (some ⟨ba33, 0, none⟩) 3 (by decide) rfl [⟨none, 0, []⟩, ⟨some ⟨b34, 0, none⟩, 1, [0]⟩, ⟨some ⟨b35, 0, none⟩, 1, [1]⟩] (some ⟨b36, 0, none⟩) 3 (by simp) (fun x hx => by simp only [List.mem_cons, List.not_mem_nil, or_false] at hx; rcases hx with rfl | rfl | rfl <;> simp) _ _) ?_
 rintro _ _ _ ⟨rfl, rfl, rfl⟩
 rw [show (thr 2).keepsV (lls [⟨none, 0, []⟩, ⟨some ⟨b34, 0, none⟩, 1, [0]⟩, ⟨some ⟨b35, 0, none⟩, 1, [1]⟩]) = .tuple #[.bool true, .int .i64 0] from by unfold Barn.keepsV; rw [show lls [⟨none, 0, []⟩, ⟨some ⟨b34, 0, none⟩, 1, [0]⟩, ⟨some ⟨b35, 0, none⟩, 1, [1]⟩] = [[], [0], [1]] from rfl, ex_k.1, ex_k.2]; rfl]
 refine pur 5 rfl (sqt 7 rfl ?_)
 refine cl rfl Z4c rfl rfl (Z0c 2 (by decide) _ _) ?_
 rintro _ _ _ ⟨ba41, rfl, rfl, rfl⟩
 refine cl rfl ZbY rfl rfl (Z3h (thr 2) (some ⟨ba41, 0, none⟩) 3 (by decide) rfl _ _) ?_
 rintro _ _ R1 ⟨hQ, rfl, hR1⟩
 obtain rfl := hR1.symm
 rcases hQ with ⟨hne, _⟩ | ⟨_, w, hw, rfl⟩
 exact absurd ex_c.1 hne
 obtain rfl := Z08 hw (Z9v ex_l.1 ex_l.2)
 refine pur 5 rfl (sqt 7 rfl ?_)
 refine cl rfl Z4c rfl rfl (Z0c 2 (by decide) _ _) ?_
 rintro _ _ _ ⟨ba46, rfl, rfl, rfl⟩
 refine cl rfl Ze7 rfl rfl (Z3M (thr 2) (some ⟨ba46, 0, none⟩) 3 (by decide) rfl 3 _ _) ?_
 rintro _ _ _ ⟨rfl, rfl, rfl⟩
 rw [ex_t.1, ex_t.2]
 refine pur 5 rfl (sqt 7 rfl ?_)
 refine cl rfl Z4c rfl rfl (Z0c 3 (by decide) _ _) ?_
 rintro _ _ _ ⟨ba51, rfl, rfl, rfl⟩
 refine cl rfl Zet rfl rfl (Z8a (thr 3) (some ⟨ba51, 0, none⟩) 3 (by decide) rfl _ _) ?_
 rintro _ _ R1 ⟨hQ, rfl, hR1⟩
 obtain rfl := hR1.symm
 rcases hQ with ⟨hne, _⟩ | ⟨_, w, hw, rfl⟩
 exact absurd ex_c.2 hne
 obtain rfl := Z08 hw (.inr ⟨3, by decide, rfl, ex_f.1, ex_f.2⟩)
 refine pur 5 rfl (sqt 7 rfl ?_)
 refine cl rfl Z4c rfl rfl (Z0c 3 (by decide) _ _) ?_
 rintro _ _ _ ⟨ba56, rfl, rfl, rfl⟩
 refine cl rfl ZdS rfl rfl (Z7H (thr 3) (some ⟨ba56, 0, none⟩) 3 (by decide) rfl _ _) ?_
 rintro v _ R1 ⟨hQ, rfl, hR1⟩
 obtain rfl := hR1.symm
 have e0 : (thr 3).ends 0 := ⟨1, by decide, .inr ⟨1, by decide, rfl, ex_s0.1, ex_s0.2⟩⟩
 have e1 : (thr 3).ends 1 := ⟨3, by decide, .inr ⟨3, by decide, rfl, ex_f.1, ex_f.2⟩⟩
 have k2 : Kpt ((thr 3).withG 2).dsk (thr 3).state 1000000 := Z9v ex_s2.1 ex_s2.2
 have k20 : ∀ g : Nat, g = 2 → Kpt ((thr 3).withG g).dsk (thr 3).state 1000000 := fun g hg => by subst hg; exact k2
 replace hQ : ∃ g : Nat, g = 2 ∧ v = .tuple #[.int .i64 g, .int .i64 0] := by
   rcases hQ with ⟨hne, _⟩ | ⟨_, ⟨g, hg, hge, hgk, rfl⟩ | ⟨hall, _⟩⟩
   · exact absurd ex_c.2 hne
   · refine ⟨g, ?_, rfl⟩
     have hg3 : g ≤ 3 := hg
     rcases Nat.lt_or_ge 2 g with h1 | h1
     · obtain ⟨w, hw, hk⟩ := hge 2 h1; exact absurd (Z08 hk k2) hw
     · rcases Nat.lt_or_ge g 2 with h2 | h2
       · exfalso
         rcases (by omega : g = 0 ∨ g = 1) with rfl | rfl
         · obtain ⟨w, hw, hk⟩ := e0; exact hw (Z08 hk hgk)
         · obtain ⟨w, hw, hk⟩ := e1; exact hw (Z08 hk hgk)
       · omega
   · obtain ⟨w, hw, hk⟩ := hall 2 (by decide); exact absurd (Z08 hk k2) hw
 obtain ⟨g, rfl, rfl⟩ := hQ
 refine pur 5 rfl (sqt 10 rfl ?_)
 refine cl rfl Z4c rfl rfl (Z0c 2 (by decide) _ _) ?_
 rintro _ _ _ ⟨ba61, rfl, rfl, rfl⟩
 refine bsl (out := [_]) rfl Z1u zl3 rfl rfl rfl rfl rfl rfl (fun b62 => ?_)
 refine bsl (out := [_]) rfl Z1u zl3 rfl rfl rfl rfl rfl rfl (fun b63 => ?_)
 refine bsl (out := [_, _]) rfl Z6I Z1K rfl rfl rfl rfl rfl rfl (fun b64 => ?_)
 refine Sy.heap (fun w h => h.also (f := Z5 none 1 (Z9 [])) (fun _ _ i row hi => by simp [Z9] at hi)) ?_
 refine Sy.heap (fun w h => St.intRows (l := [0]) (h.pull b62)) ?_
 refine Sy.heap (fun w h => St.intRows (l := [1]) (h.pull b63)) ?_
 refine Sy.heap (fun w h => St.inn0 h) ?_
 refine Sy.heap (fun w h => St.innCons (a := some ⟨b63, 0, none⟩) (c := 1) (l0 := [1]) (l := []) h) ?_
 refine Sy.heap (fun w h => St.innCons (a := some ⟨b62, 0, none⟩) (c := 1) (l0 := [0]) (l := [⟨some ⟨b63, 0, none⟩, 1, [1]⟩]) h) ?_
 refine Sy.heap (fun w h => St.rows (sz := 1) (rows := Z9 [⟨some ⟨b62, 0, none⟩, 1, [0]⟩, ⟨some ⟨b63, 0, none⟩, 1, [1]⟩]) (rest := []) (h.pull b64) (by simp [Z9, Z4L])) ?_
 refine cl rfl ZbX rfl rfl (ZdD (thr 2) (some ⟨ba61, 0, none⟩) 3 (by decide) rfl [] none 0 (by decide) (fun x hx => by cases hx) [⟨some ⟨b62, 0, none⟩, 1, [0]⟩, ⟨some ⟨b63, 0, none⟩, 1, [1]⟩] (some ⟨b64, 0, none⟩) 2 (by simp) (fun x hx => by simp only [List.mem_cons, List.not_mem_nil, or_false] at hx; rcases hx with rfl | rfl <;> simp) _ _) ?_
 rintro _ _ R1 ⟨hQ, rfl, hR1⟩
 obtain rfl := hR1.symm
 rcases hQ with ⟨hne, _⟩ | ⟨_, is, his, rfl⟩
 exact absurd ex_g.1 hne
 obtain rfl : is = true := his.2 (Z6h (i := 1) ex_g.2.1 ex_g.2.2)
 refine pur 5 rfl (sqt 69 rfl (pur 3 rfl ?_))
 refine Zh 70 rfl ?_ ?_ <;> intro g70
 refine pur 4 rfl ?_
 refine Zh 74 rfl ?_ ?_ <;> intro g74
 refine pur 4 rfl ?_
 refine Zh 78 rfl ?_ ?_ <;> intro g78
 refine pur 4 rfl ?_
 refine Zh 82 rfl ?_ ?_ <;> intro g82
 refine pur 4 rfl ?_
 refine Zh 86 rfl ?_ ?_ <;> intro g86
 refine pur 4 rfl ?_
 refine Zh 90 rfl ?_ ?_ <;> intro g90
 refine pur 4 rfl ?_
 refine Zh 94 rfl ?_ ?_ <;> intro g94
 refine pur 4 rfl ?_
 refine Zh 98 rfl ?_ ?_ <;> intro g98
 refine pur 1 rfl ?_
 refine spG rfl rfl rfl rfl (PE.build (out := [_, _]) Z4r Z2C rfl rfl) rfl ?_
 refine spG rfl rfl rfl rfl (PE.build (out := [_, _]) Z4r Z2C rfl rfl) rfl ?_
 refine spG rfl rfl rfl rfl (PE.build (out := [_, _]) Z4r Z2C rfl rfl) rfl ?_
 refine Zha (out := [_, _, _, _, _, _]) rfl rfl rfl rfl Zep Z2C rfl rfl rfl rfl rfl rfl (fun b103 => ?_)
 refine Sy.heap (fun w h => St.rows (sz := 2) (rows := Z0H [(28, 30), (36, 40), (44, 50)]) (rest := []) (h.pull b103) (by simp [Z0H, Z9M])) ?_
 refine Z0K rfl rfl rfl rfl Zem rfl rfl (Z4E [(28, 30), (36, 40), (44, 50)] [(28, 30), (36, 40), (44, 50)] aw (some ⟨b103, 0, none⟩) cw 3 (by decide) (by decide) _ _) ?_
 refine pur 2 rfl ?_
 refine Zh 106 rfl ?_ ?_ <;> intro g106
 refine pur 4 rfl ?_
 refine Zh 110 rfl ?_ ?_ <;> intro g110
 refine pur 4 rfl ?_
 refine Zh 114 rfl ?_ ?_ <;> intro g114
 refine pur 3 rfl ?_
 refine Zh 117 rfl ?_ ?_ <;> intro g117
 refine pur 4 rfl ?_
 refine Zh 121 rfl ?_ ?_ <;> intro g121
 refine pur 4 rfl ?_
 refine Zh 125 rfl ?_ ?_ <;> intro g125
 refine pur 4 rfl ?_
 refine Zh 129 rfl ?_ ?_ <;> intro g129
 refine pur 4 rfl ?_
 refine Zh 133 rfl ?_ ?_ <;> intro g133
 refine pur 3 rfl (Z4 ?_)
 exact rtA rfl rfl rfl ⟨rfl, rfl, rfl⟩ (fun w h => St.sub h)
 exact absurd g133 (by simp)
 exact absurd g129 (by simp)
 exact absurd g125 (by simp)
 exact absurd g121 (by simp)
 exact absurd g117 (by simp)
 exact absurd g114 (by simp)
 exact absurd g110 (by simp)
 exact absurd g106 (by simp)
 exact absurd g98 (by simp)
 exact absurd g94 (by simp)
 exact absurd g90 (by simp)
 exact absurd g86 (by simp)
 exact absurd g82 (by simp)
 exact absurd g78 (by simp)
 exact absurd g74 (by simp)
 exact absurd g70 (by simp)
theorem ZgU : Z5G Tryz.prog 24 = some 6 := by kernel_rfl
theorem Z1n : Z5G Tryz.prog 84 = some 9 := by kernel_rfl
theorem ZhR : apT Tryz.prog 82 = some (135, 4, 32) := by kernel_rfl
theorem Zh4 : cal Tryz.prog 79 = true := by kernel_rfl
theorem Zhi : cal Tryz.prog 89 = true := by kernel_rfl
theorem Zi3 : Z1h Tryz.prog 82 = some 1 := by kernel_rfl
theorem Zd1 : Z1h Tryz.prog 84 = some 9 := by kernel_rfl
theorem ZgG : eqB Tryz.prog 10000 24 = some (true, 6) := by kernel_rfl
theorem ZgZ : Tryz.prog.eqGuardType Tryz.prog.depth 24 = false := by kernel_rfl
theorem Z0J : Z2R Tryz.prog 84 3 = some 8 := by kernel_rfl
theorem ZhW : Z2z Tryz.prog 84 = some [(0, 1), (1, 1), (2, 6), (8, 1)] := by kernel_rfl
theorem Z4C : Z45 Tryz.prog 82 = true := by kernel_rfl
theorem ZhV : slE Tryz.prog 82 = some (135, 4) := by kernel_rfl
theorem Zfd : Z0x Tryz.prog 135 = some ([.int .i64 0, .int .i64 0, .int .i64 0, .int .i64 0]) := by kernel_rfl
theorem ZbL : Z0x Tryz.prog 84 = some ([.int .i64 0, .int .i64 0, .int .i64 0, .int .i64 0, .int .i64 0, .int .i64 0, .int .i64 0, .int .i64 0, .slice none 0 0]) := by kernel_rfl
theorem Zec {l : List Int} {i : Nat} {x y : Int} (hx : l[i]? = some x) (hy : l[i + 1]? = some y) : Z9S l i = decide (y < x) := by unfold Z9S; rw [hx, hy]
def Z8l (a b : Barn) : Bool := decide (a.cool = b.cool) && decide (a.gangs = b.gangs) && decide (a.rise = b.rise) && decide (a.bins = b.bins)
theorem sameB_iff {a b : Barn} : Z8l a b = true ↔ a = b := by
  unfold Z8l
  simp only [Bool.and_eq_true, decide_eq_true_eq]
  constructor
  · rintro ⟨⟨⟨h1, h2⟩, h3⟩, h4⟩
    cases a; cases b; simp_all
  · rintro rfl; exact ⟨⟨⟨rfl, rfl⟩, rfl⟩, rfl⟩
theorem Z6G {a b : Barn} (ha : a.rise.length = 6) (hb : b.rise.length = 6) : decide (([na a.rise 0, na a.rise 1, na a.rise 2, na a.rise 3, na a.rise 4, na a.rise 5] : List Int) = [na b.rise 0, na b.rise 1, na b.rise 2, na b.rise 3, na b.rise 4, na b.rise 5]) = decide (a.rise = b.rise) := by
  rw [← Zfk ha, ← Zfk hb]
def nin (n lo hi : Int) : Bool := decide (n < lo) || decide (hi < n)
theorem Z1t (n lo hi : Int) : nin n lo hi = !(inB n lo hi) := by
  unfold nin inB
  rw [Bool.not_and]
  congr 1
  · rw [← decide_not]; exact decide_eq_decide.2 (by omega)
  · rw [← decide_not]; exact decide_eq_decide.2 (by omega)
theorem Z9J {r m w : Int} {n : Nat} (hr : 0 < r) (h : w + (n : Int) * r ≤ m) (h2 : m < w + ((n : Int) + 1) * r) (hw : w ≤ m) : Z0B r m w = n := by
  unfold Z0B
  rw [decide_eq_false (by omega), cond_false, decide_eq_false (by omega), cond_false]
  have e1 : m - w = (m - w - (n : Int) * r) + (n : Int) * r := by omega
  rw [e1, Int.add_mul_ediv_right _ _ (by omega), Int.ediv_eq_zero_of_lt (by omega) (by rw [Int.add_mul] at h2; omega)]
  omega
theorem Z89 (b : Barn) (ab : Option Addr) (cb : Nat) (hl : b.bins.length ≤ 9223372036854775807) (H : Zg) (R : Z6) :
    FnV Tryz.prog 61 [b.v (b.sl ab cb)] H R (.bool (decide (8 < b.bins.length))) := by
 refine Zy Tryz.func61 rfl Tryz.ntmps61 rfl ?_
 refine sqt 2 rfl (bx rfl rfl rfl (fun b1 => pur 1 rfl (sqt 5 rfl (sp rfl (PE.fA ZE rfl) rfl (spL rfl rfl (lh Z0C rfl rfl) rfl (sp rfl (PE.lenSl Z0M rfl) rfl (pur 2 rfl (Z4 ?_))))))))
 exact rtA rfl rfl rfl ⟨by simp only [Z0u]; congr 1; exact decide_eq_decide.2 (by omega), rfl, rfl⟩ drp
theorem ZaQ (xs : List HBin) (a : Option Addr) (c : Nat) (hl : xs.length ≤ 1000000) (H : Zg) (R : Z6) [hR : MemRows a 4 (Z7 xs) R] :
    Fn Tryz.prog 79 [.slice a xs.length c] H R (fun v H' R' => ∃ o : OSl 40 4 (Z7 xs), v = o.fs ∧ o.here ∧ H' = o.G ++ H ∧ R' = R) := by
 refine Zy Tryz.func79 rfl Tryz.ntmps79 rfl ?_
 refine sqt 1 rfl (pur 1 rfl (sqt 6 rfl (pur 1 rfl (sp rfl (PE.lenSl Z0M rfl) rfl ?_))))
 refine mkO rfl ZfV Z4M rfl rfl ⟨by omega, by omega⟩ rfl (fun o ho => ?_)
 refine pur 1 rfl ?_
 refine ZhF (news := Z7 xs) o rfl ZfV rfl rfl (Zao) (by simp [Z7]) (by simp [Z0X, Z7, Z34, Value.oneCell']) ⟨by simp [Z7]; omega, by simp [Z7]; omega⟩ rfl ho (fun o2 ho2 => ?_)
 refine pur 1 rfl (Z4 ?_)
 exact rtA rfl rfl rfl ⟨o2.cast (by simp), rfl, ho2, rfl, rfl⟩ idH
theorem ZdX (b : Barn) (ab : Option Addr) (cb : Nat) (hl : b.bins.length ≤ 1000000) (H : Zg) (R : Z6) [hB : MemRows ab 4 (Z7 b.bins) R] :
    Fn Tryz.prog 29 [b.v (b.sl ab cb)] H R (fun v H' R' => ∃ (bo cap : Nat) (junk : List Value), v = b.v (b.sl (some ⟨bo, 0, none⟩) cap) ∧ H' = (bo, cel 40 ((Z7 b.bins).flatten ++ junk)) :: H ∧ R' = R) := by
 refine Zy Tryz.func29 rfl Tryz.ntmps29 rfl ?_
 refine sqt 2 rfl (bx rfl rfl rfl (fun b1 => alc rfl Z0w rfl (fun b2 => sqt 5 rfl (sp rfl (PE.fA ZE rfl) rfl (spL rfl rfl (lh Z0C rfl rfl) rfl ?_)))))
 refine cl rfl Zh4 rfl rfl (ZaQ b.bins ab cb hl _ _) ?_
 rintro _ _ _ ⟨o, rfl, ho, rfl, rfl⟩
 obtain ⟨bo, cap, junk, hfs, hG⟩ := o.own ho
 rw [hfs, hG, Z1Y]
 refine Sy.heap (H' := (bo, cel 40 ((Z7 b.bins).flatten ++ junk)) :: (b2, cel 27 (btl zbarn (.slice none 0 0))) :: (b1, cel 27 (btl b (b.sl ab cb))) :: H) idH ?_
 refine sp rfl (PE.fA ZE rfl) rfl ?_
 refine sto rfl rfl rfl ZgA rfl rfl rfl rfl ?_
 refine sqt 2 rfl (spL rfl rfl (lhA (btl b (b.sl (some ⟨bo, 0, none⟩) cap)) ZD rfl rfl rfl) rfl ?_)
 refine sto rfl rfl rfl Z03 rfl rfl rfl rfl ?_
 refine Z4 ?_
 exact Zk (vs := [_]) rfl (.cons (RV.cell rfl (lhA (btl b (b.sl (some ⟨bo, 0, none⟩) cap)) ZD rfl rfl rfl)) .nil) rfl ⟨bo, cap, junk, rfl, rfl, rfl⟩ (fun w h => (h.del b2).del b1)
theorem Z2c (b : Barn) (ab : Option Addr) (cb : Nat) (hl : b.bins.length ≤ 4398046511104) (H : Zg) (R : Z6) [hB : MemRows ab 4 (Z7 b.bins) R] :
    Fn Tryz.prog 30 [b.v (b.sl ab cb)] H R (fun v H' R' => ∃ ax cx, v = b.v (b.sl ax cx) ∧ H' = H ∧ R' = Z5 ax 4 (Z7 b.bins) :: R) := by
 refine Zy Tryz.func30 rfl Tryz.ntmps30 rfl ?_
 refine sqt 2 rfl (bx rfl rfl rfl (fun b1 => alc rfl ZbL rfl (fun b2 => sqt 9 rfl (sp rfl (PE.fA Z47 rfl) rfl (spL rfl rfl (lh sc3 rfl rfl) rfl (sp rfl (PE.fA Z1S rfl) rfl (spL rfl rfl (lh sc3 rfl rfl) rfl (sp rfl (PE.fA Z20 rfl) rfl (spL rfl rfl (lhA [_, _, _, _, _, _] ZgU rfl rfl rfl) rfl (sp rfl (PE.build (out := btl b (.slice none 0 0)) ZhW ZbL rfl rfl) rfl (alc rfl ZbL rfl (fun b3 => ?_))))))))))))
 refine sto rfl rfl rfl Zd1 rfl rfl rfl rfl ?_
 refine Z0 (sqt 4 rfl (sp rfl (PE.fA ZE rfl) rfl (spL rfl rfl (lh Z0C rfl rfl) rfl (sp rfl (PE.lenSl Z0M rfl) rfl (pur 1 rfl (Z3 ?_))))))
 refine Zj (ι := (k : {k : Nat // k ≤ b.bins.length}) × OSl 135 4 (Z7 (b.bins.take k.1))) (fun x => ⟨[(1, .pointer (some ⟨b1, 0, none⟩)), (2, .pointer (some ⟨b2, 0, none⟩)), (3, .pointer (some ⟨b3, 0, none⟩)), (14, b.sl ab cb), (15, .int .i64 b.bins.length), (16, .int .i64 x.1.1)], x.2.G ++ (b3, cel 84 (btl b x.2.fs)) :: (b2, cel 84 (btl zbarn (.slice none 0 0))) :: (b1, cel 27 (btl b (b.sl ab cb))) :: H, R⟩) (fun x => b.bins.length - x.1.1) ⟨⟨0, by omega⟩, OSl.nil _ _⟩ ?_ (fun x => ?_)
 exact Zr idH
 obtain ⟨⟨k, hk⟩, o⟩ := x
 dsimp only at hk o ⊢
 refine sqt 1 rfl (pur 1 rfl (Z0 ?_))
 refine Z2 rfl ?_ ?_ <;> intro hc0 <;> try simp only [cS] at hc0
 obtain ⟨x, hx⟩ : ∃ x, b.bins[k]? = some x := ⟨_, List.getElem?_eq_getElem (by omega)⟩
 refine Zl (a := ab) (sz := 4) (rows := Z7 b.bins) (by intro h0; simp [Z7] at h0; simp [h0] at hx) (fun ba oa he => ?_)
 subst he
 refine Z1 (Z0 (Z3 (sqt 4 rfl (sp rfl (PE.indexAddr Z3s rfl rfl (by omega) (by omega)) rfl (spL rfl rfl (lfA Zas (row := Z34 x) (Z01 hx) rfl) rfl (alc rfl Z4M rfl (fun b5 => ?_)))))))
 refine sto rfl rfl rfl Zf8 rfl rfl rfl rfl ?_
 refine sqr 7 rfl (sp rfl (PE.fA Z0J rfl) rfl (spL rfl rfl (lh Z4C rfl rfl) rfl (spL rfl rfl (lhA (Z34 x) Zas rfl rfl rfl) rfl ?_)))
 refine bsl (out := [_, _, _, _]) rfl ZhV Zfd rfl rfl rfl rfl rfl rfl (fun b23 => ?_)
 refine apO (o) rfl ZhR rfl rfl (Z0W (row := Z34 x) rfl) rfl rfl ((by rw [Z1Y, List.length_take]; simp only [List.length_singleton]; omega)) rfl (fun o24 => ?_)
 refine sp rfl (PE.fA Z0J rfl) rfl ?_
 refine Z1b (l' := btl b o24.fs) rfl rfl rfl Zi3 rfl (by rw [o24.cells.1]; first | done | rfl) (by rw [o24.cells.1]; simp [o24.cells.2]) (by rw [o24.cells.1]; first | done | rfl) (by rw [o24.cells.1]; first | done | exact Nat.le_of_ble_eq_true rfl) ?_
 refine sqr 2 rfl (sp rfl (PE.add rfl rfl (by omega)) rfl (pur 1 rfl ?_))
 exact Zn ⟨⟨k + 1, by omega⟩, o24.cast (by rw [ZK hx, Z2D]; rfl)⟩ (fun w h => (h.del b23).del b5)
 obtain rfl : k = b.bins.length := by omega
 obtain ⟨p, hpf, hpg⟩ : ∃ p : OSl 135 4 (Z7 b.bins), p.fs = o.fs ∧ p.G = o.G := ⟨o.cast (by rw [List.take_length]), rfl, rfl⟩
 rw [← hpf]
 refine Sy.heap (fun w h => by rw [← hpg] at h; exact h) ?_
 obtain ⟨ax, cx, he, hf⟩ := p.freeze
 rw [he, Z1Y]
 refine Sy.heap (fun w h => hf h) ?_
 clear he hf hpf hpg
 refine Zb (Zf (Zf (ZB (sqt 2 rfl (spL rfl rfl (lhA (btl b (b.sl ax cx)) Z1n rfl rfl rfl) rfl ?_)))))
 refine sto rfl rfl rfl Zd1 rfl rfl rfl rfl ?_
 refine Z4 ?_
 exact Zk (vs := [_]) rfl (.cons (RV.cell rfl (lhA (btl b (b.sl ax cx)) Z1n rfl rfl rfl)) .nil) rfl ⟨ax, cx, rfl, rfl, rfl⟩ (fun w h => ((h.del b3).del b2).del b1)
theorem Z0S (a : Barn) (aa : Option Addr) (ca : Nat) (b : Barn) (ab : Option Addr) (cb : Nat) (hla : a.bins.length ≤ 9223372036854775807) (hlb : b.bins.length ≤ 9223372036854775807) (hra : a.rise.length = 6) (hrb : b.rise.length = 6) (H : Zg) (R : Z6) [hA : MemRows aa 4 (Z7 a.bins) R] [hB : MemRows ab 4 (Z7 b.bins) R] :
    FnV Tryz.prog 37 [a.v (a.sl aa ca), b.v (b.sl ab cb)] H R (.bool (Z8l a b)) := by
 refine Zy Tryz.func37 rfl Tryz.ntmps37 rfl ?_
 refine sqt 3 rfl (bx rfl rfl rfl (fun b2 => bx rfl rfl rfl (fun b3 => pur 1 rfl (sqt 27 rfl (sp rfl (PE.fA Z47 rfl) rfl (spL rfl rfl (lh sc3 rfl rfl) rfl (sp rfl (PE.fA Z47 rfl) rfl (spL rfl rfl (lh sc3 rfl rfl) rfl (pur 2 rfl ?_)))))))))
 refine Zh 10 rfl ?_ ?_ <;> intro g10
 refine spG rfl rfl rfl rfl (PE.fA Z1S rfl) rfl ?_
 refine Z0o rfl rfl rfl rfl rfl (lh sc3 rfl rfl) rfl ?_
 refine spG rfl rfl rfl rfl (PE.fA Z1S rfl) rfl ?_
 refine Z0o rfl rfl rfl rfl rfl (lh sc3 rfl rfl) rfl (pur 3 rfl ?_)
 refine Zh 17 rfl ?_ ?_ <;> intro g17
 refine spG rfl rfl rfl rfl (PE.fA Z20 rfl) rfl ?_
 refine Z0o rfl rfl rfl rfl rfl (lhA [_, _, _, _, _, _] ZgU rfl rfl rfl) rfl ?_
 refine spG rfl rfl rfl rfl (PE.fA Z20 rfl) rfl ?_
 refine Z0o rfl rfl rfl rfl rfl (lhA [_, _, _, _, _, _] ZgU rfl rfl rfl) rfl ?_
 refine spG rfl rfl rfl rfl (PE.eqlAgg [na a.rise 0, na a.rise 1, na a.rise 2, na a.rise 3, na a.rise 4, na a.rise 5] [na b.rise 0, na b.rise 1, na b.rise 2, na b.rise 3, na b.rise 4, na b.rise 5] (Z1X 10000 24 true 6 ZgG) ZgZ rfl rfl rfl rfl) rfl ?_
 refine pur 2 rfl ?_
 refine Zh 24 rfl ?_ ?_ <;> intro g24
 refine spG rfl rfl rfl rfl (PE.fA ZE rfl) rfl ?_
 refine Z0o rfl rfl rfl rfl rfl (lh Z0C rfl rfl) rfl ?_
 refine spG rfl rfl rfl rfl (PE.fA ZE rfl) rfl ?_
 refine Z0o rfl rfl rfl rfl rfl (lh Z0C rfl rfl) rfl ?_
 refine Z0K rfl rfl rfl rfl Zhi rfl rfl (ZbV a.bins b.bins aa ab ca cb hla hlb _ _) ?_
 refine pur 2 rfl (Z4 ?_)
 exact rtA rfl rfl rfl ⟨by simp only [Z0u, Z8l, ← Z6G hra hrb]; first | (rw [g10, g17, g24]; rfl) | (rw [g10, g17]; rfl) | (rw [g10]; rfl), rfl, rfl⟩ drp
 refine pur 7 rfl (Z4 ?_)
 exact rtA rfl rfl rfl ⟨by simp only [Z0u, Z8l, ← Z6G hra hrb]; first | (rw [g10, g17, g24]; rfl) | (rw [g10, g17]; rfl) | (rw [g10]; rfl), rfl, rfl⟩ drp
 refine pur 14 rfl (Z4 ?_)
 exact rtA rfl rfl rfl ⟨by simp only [Z0u, Z8l, ← Z6G hra hrb]; first | (rw [g10, g17, g24]; rfl) | (rw [g10, g17]; rfl) | (rw [g10]; rfl), rfl, rfl⟩ drp
 refine pur 21 rfl (Z4 ?_)
 exact rtA rfl rfl rfl ⟨by simp only [Z0u, Z8l, ← Z6G hra hrb]; first | (rw [g10, g17, g24]; rfl) | (rw [g10, g17]; rfl) | (rw [g10]; rfl), rfl, rfl⟩ drp
theorem Z49 (n lo hi : Int) (H : Zg) (R : Z6) :
    FnV Tryz.prog 80 [.int .i64 n, .int .i64 lo, .int .i64 hi] H R (.bool (nin n lo hi)) := by
 refine Zy Tryz.func80 rfl Tryz.ntmps80 rfl ?_
 refine sqt 1 rfl (pur 1 rfl (sqt 9 rfl (pur 4 rfl ?_)))
 refine Zh 10 rfl ?_ ?_ <;> intro g10
 refine pur 5 rfl (Z4 ?_)
 exact rtA rfl rfl rfl ⟨by simp only [Z0u, nin]; first | (rw [g10]; rfl) | rfl, rfl, rfl⟩ drp
 refine pur 5 rfl (Z4 ?_)
 exact rtA rfl rfl rfl ⟨by simp only [Z0u, nin]; first | (rw [g10]; rfl) | rfl, rfl, rfl⟩ drp
theorem Zhd : Z5G Tryz.prog 135 = some 4 := by kernel_rfl
theorem ZcD : cal Tryz.prog 62 = true := by kernel_rfl
theorem Z4g : cal Tryz.prog 80 = true := by kernel_rfl
theorem Zhl : Z1h Tryz.prog 135 = some 4 := by kernel_rfl
theorem Zac : elN Tryz.prog 82 = some 4 := by kernel_rfl
theorem Z6a : Z2R Tryz.prog 135 0 = some 0 := by kernel_rfl
theorem Z5X : Z2R Tryz.prog 135 1 = some 1 := by kernel_rfl
theorem Z2B : Z2R Tryz.prog 135 2 = some 2 := by kernel_rfl
theorem Z9l : Z2R Tryz.prog 84 0 = some 0 := by kernel_rfl
theorem Z2m : Z2R Tryz.prog 84 1 = some 1 := by kernel_rfl
theorem Z3u : Z2R Tryz.prog 84 2 = some 2 := by kernel_rfl
theorem Z5i : Z7W Tryz.prog 82 = true := by kernel_rfl
theorem Zaw {r m w v : Int} {n : Nat} (hr : 0 < r) (hv : v = w + (n : Int) * r) (h : n = 0 ∨ v ≤ m) (h2 : m < v + r) : Z0B r m w = n := by
  have hn : 0 ≤ (n : Int) * r := Int.mul_nonneg (by omega) (by omega)
  by_cases hw : w ≤ m
  · exact Z9J hr (by rcases h with rfl | h <;> simp_all) (by rw [Int.add_mul]; omega) hw
  · obtain rfl : n = 0 := by rcases h with h | h <;> omega
    unfold Z0B
    rw [decide_eq_false (by omega), cond_false, decide_eq_true (by omega), cond_true]; rfl
theorem ck2 {b : Barn} (h : nin (b.bins.length : Int) 1 4 = true) : b.check = 2 := by
  unfold Barn.check; rw [Z1t] at h; rw [h]; rfl
theorem ck3 {b : Barn} (h : nin (b.bins.length : Int) 1 4 = false) (h1 : nin b.cool 0 60 = true ∨ nin b.gangs 0 3 = true) : b.check = 3 := by
  unfold Barn.check; rw [Z1t] at h h1; rw [Z1t] at h1; rw [h]
  rcases h1 with h1 | h1 <;> rw [h1] <;> simp
theorem Zi5 {b : Barn} (h : nin (b.bins.length : Int) 1 4 = false) (h1 : nin b.cool 0 60 = false) (h2 : nin b.gangs 0 3 = false) {k : Nat} (hk : k < b.rise.length) (h3 : na b.rise k ≠ 0) (h4 : nin (na b.rise k) 6 20 = true) : b.check = 3 := by
  have e : b.rise.all Z19 = false := by
    rw [List.all_eq_false]
    refine ⟨_, Z9i hk, ?_⟩
    rw [Z1t] at h4
    unfold Z19
    rw [decide_eq_false h3, Bool.false_or]
    rw [Bool.not_eq_true'] at h4
    rw [h4]; decide
  unfold Barn.check; rw [Z1t] at h h1 h2; rw [h, h1, h2, e]; rfl
theorem Z70 {n : Int} (h : n = 0 ∨ nin n 6 20 = false) : Z19 n = true := by
  unfold Z19
  rcases h with h | h
  · rw [decide_eq_true h, Bool.true_or]
  · rw [Z1t, Bool.not_eq_false'] at h; rw [h, Bool.or_true]
theorem Z66 {x : HBin} (h : nin x.mark 0 60 = true ∨ nin x.warm 0 x.mark = true ∨ nin x.lo 0 5 = true ∨ nin x.hi 0 5 = true) : x.ok = false := by
  simp only [Z1t, Bool.not_eq_true'] at h
  unfold HBin.ok
  rcases h with h | h | h | h <;> rw [h] <;> simp
theorem Zcb {x : HBin} (h1 : nin x.mark 0 60 = false) (h2 : nin x.warm 0 x.mark = false) (h3 : nin x.lo 0 5 = false) (h4 : nin x.hi 0 5 = false) : x.ok = true := by
  simp only [Z1t, Bool.not_eq_false'] at h1 h2 h3 h4
  unfold HBin.ok; rw [h1, h2, h3, h4]; rfl
structure CkA (b : Barn) : Prop where
  many : nin (b.bins.length : Int) 1 4 = false
  cool : nin b.cool 0 60 = false
  gangs : nin b.gangs 0 3 = false
theorem CkA.at_bin {b : Barn} (h : CkA b) (hr : b.rise.all Z19 = true) {x : HBin} (hx : x ∈ b.bins) (hb : x.ok = false) : b.check = 3 := by
  have e : b.bins.all HBin.ok = false := by rw [List.all_eq_false]; exact ⟨x, hx, by rw [hb]; decide⟩
  have h1 := h.many; have h2 := h.cool; have h3 := h.gangs
  unfold Barn.check; rw [Z1t] at h1 h2 h3; rw [h1, h2, h3, hr, e]; rfl
theorem CkA.rest {b : Barn} (h : CkA b) (hr : b.rise.all Z19 = true) (hb : b.bins.all HBin.ok = true) : b.check = bif !(srt b.rise) || !(b.bins.all fun x => decide (x.lo ≤ x.hi)) then 4 else 0 := by
  have h1 := h.many; have h2 := h.cool; have h3 := h.gangs
  unfold Barn.check; rw [Z1t] at h1 h2 h3; rw [h1, h2, h3, hr, hb]; rfl
theorem ZeU {l : List Int} {k : Nat} {y : Int} (h : l[k]? = some y) : na l k = y := by unfold na; rw [List.getD_eq_getElem?_getD, h]; rfl
theorem Ze2 {l : List Int} {p : Int → Bool} (h : ∀ k, k < l.length → p (na l k) = true) : l.all p = true := by
  rw [List.all_eq_true]
  intro x hx
  obtain ⟨k, hk, rfl⟩ := List.mem_iff_getElem.1 hx
  have := h k hk
  rwa [ZeU (List.getElem?_eq_getElem hk)] at this
theorem Z9f {l : List HBin} {p : HBin → Bool} (h : ∀ (k : Nat) (x : HBin), l[k]? = some x → p x = true) : l.all p = true := by
  rw [List.all_eq_true]
  intro x hx
  obtain ⟨k, hk, rfl⟩ := List.mem_iff_getElem.1 hx
  exact h k _ (List.getElem?_eq_getElem hk)
theorem Z6n (b : Barn) (ab : Option Addr) (cb : Nat) (hok : b.ok) (k : Nat) (x : HBin) (hx : b.bins[k]? = some x) (w : Int) (hw : 0 ≤ w ∧ w ≤ 60) (H : Zg) (R : Z6) [hB : MemRows ab 4 (Z7 b.bins) R] :
    FnV Tryz.prog 62 [b.v (b.sl ab cb), .int .i64 k, .int .i64 w] H R (.int .i64 (b.days x w)) := by
 have hk := (List.getElem?_eq_some_iff.1 hx).1
 have hm := List.mem_of_getElem? hx
 have hh := (hok.bins x hm).2.2.2
 have hmk := (hok.bins x hm).1
 have hwr : na b.rise x.hi.toNat = 0 ∨ (6 ≤ na b.rise x.hi.toNat ∧ na b.rise x.hi.toNat ≤ 20) := b.worst_range hok hm
 refine Zy Tryz.func62 rfl Tryz.ntmps62 rfl ?_
 refine sqt 2 rfl (bx rfl rfl rfl (fun b3 => pur 1 rfl (sqt 12 rfl (sp rfl (PE.fA Z0J rfl) rfl (spL rfl rfl (lh Z4C rfl rfl) rfl (pur 1 rfl ?_))))))
 refine Zl (a := ab) (sz := 4) (rows := Z7 b.bins) (by intro h0; simp [Z7] at h0; simp [h0] at hx) (fun ba oa he => ?_)
 subst he
 refine sp rfl (PE.indexAddr Zac rfl rfl (by omega) (by omega)) rfl (sp rfl (PE.fA Z2B rfl) rfl (sp rfl (PE.fA Z0e rfl) rfl (spL rfl rfl (lf (j := 3) sc3 (Z01 hx) rfl) rfl (sp rfl (PE.fA Z3u rfl) rfl (sp rfl (PE.indexArr Z5a rfl rfl (by omega) (by omega)) rfl (spL rfl rfl (lh sc3 rfl (by rw [show 0 + 2 + x.hi.toNat * 1 = 2 + x.hi.toNat by omega]; exact Z0b (by omega))) rfl (pur 2 rfl (Z0 (sqt 2 rfl (pur 2 rfl ?_))))))))))
 refine Z2 rfl ?_ ?_ <;> intro hc0 <;> try simp only [cS] at hc0
 refine sqt 1 rfl (pur 1 rfl (Z4 ?_))
 exact rtA rfl rfl rfl ⟨by simp only [Z0u]; first | (unfold Barn.days Z0B Barn.worst; rw [dT hc0]; rfl) | rw [hde], rfl, rfl⟩ drp
 refine Z1 (Z0 (Z3 ?_))
 refine Zj (ι := {v : Int × Nat // v.1 = w + (v.2 : Int) * na b.rise x.hi.toNat ∧ (v.2 = 0 ∨ v.1 ≤ x.mark) ∧ (v.2 : Int) ≤ v.1 ∧ v.1 ≤ 60}) (fun v => ⟨[(1, .int .i64 k), (2, .int .i64 v.1.1), (3, .pointer (some ⟨b3, 0, none⟩)), (7, .int .i64 (na b.rise x.hi.toNat)), (8, .int .i64 v.1.2)], (b3, cel 84 (btl b (b.sl (some ⟨ba, oa, none⟩) cb))) :: H, R⟩) (fun v => (x.mark - v.1.1).toNat) ⟨(w, 0), by simp, .inl rfl, by omega, by omega⟩ ?_ (fun v => ?_)
 exact Zr idH
 obtain ⟨⟨v, n⟩, hv, hv2, hv3, hv4⟩ := v
 dsimp only at hv hv2 hv3 hv4 ⊢
 refine Z0 (sqt 10 rfl (pur 2 rfl (sp rfl (PE.add rfl rfl (by omega)) rfl (sp rfl (PE.fA Z0J rfl) rfl (spL rfl rfl (lh Z4C rfl rfl) rfl (pur 1 rfl (sp rfl (PE.indexAddr Zac rfl rfl (by omega) (by omega)) rfl (sp rfl (PE.fA Z5X rfl) rfl (spL rfl rfl (lf (j := 1) sc3 (Z01 hx) rfl) rfl (pur 1 rfl ?_))))))))))
 refine Z2 rfl ?_ ?_ <;> intro hc1 <;> try simp only [cS] at hc1
 refine Z1 (Z3 (sqt 4 rfl (pur 2 rfl (sp rfl (PE.add rfl rfl (by omega)) rfl (pur 1 rfl (sqr 3 rfl (pur 1 rfl (sp rfl (PE.add rfl rfl (by omega)) rfl (pur 1 rfl ?_)))))))))
 exact Zn ⟨(v + na b.rise x.hi.toNat, n + 1), by show v + _ = w + ((n : Int) + 1) * _; rw [Int.add_mul, Int.one_mul, hv]; omega, .inr (by dsimp only; omega), by dsimp only; omega, by dsimp only; omega⟩ idH
 have hde : b.days x w = n := (Zaw (r := na b.rise x.hi.toNat) (by omega) hv hv2 (by omega) : Z0B (na b.rise x.hi.toNat) x.mark w = n)
 refine Zb (Zf (Zf (ZB (sqt 2 rfl (pur 2 rfl (Z4 ?_))))))
 exact rtA rfl rfl rfl ⟨by simp only [Z0u]; first | (unfold Barn.days Z0B Barn.worst; rw [dT hc0]; rfl) | rw [hde], rfl, rfl⟩ drp
theorem Z6r (b : Barn) (ab : Option Addr) (cb : Nat) (hok : b.ok) (k : Nat) (x : HBin) (hx : b.bins[k]? = some x) (H : Zg) (R : Z6) [hB : MemRows ab 4 (Z7 b.bins) R] :
    FnV Tryz.prog 63 [b.v (b.sl ab cb), .int .i64 k] H R (.int .i64 (b.days x b.cool)) := by
 refine Zy Tryz.func63 rfl Tryz.ntmps63 rfl ?_
 refine sqt 2 rfl (bx rfl rfl rfl (fun b2 => pur 1 rfl (sqt 6 rfl (spL rfl rfl (lhA (btl b (b.sl ab cb)) Z1n rfl rfl rfl) rfl (pur 1 rfl (sp rfl (PE.fA Z9l rfl) rfl (spL rfl rfl (lh sc3 rfl rfl) rfl ?_)))))))
 refine clV rfl ZcD rfl rfl (Z6n b ab cb hok k x hx b.cool hok.cool _ _) ?_
 refine pur 1 rfl (Z4 ?_)
 exact rtA rfl rfl rfl ⟨rfl, rfl, rfl⟩ drp
theorem Z27 (b : Barn) (ab : Option Addr) (cb : Nat) (hl : b.bins.length ≤ 9223372036854775807) (hr : b.rise.length = 6) (H : Zg) (R : Z6) [hB : MemRows ab 4 (Z7 b.bins) R] :
    FnV Tryz.prog 32 [b.v (b.sl ab cb)] H R (.int .i64 b.check) := by
 refine Zy Tryz.func32 rfl Tryz.ntmps32 rfl ?_
 refine sqt 2 rfl (bx rfl rfl rfl (fun b1 => pur 1 rfl (Z0 (sqt 4 rfl (sp rfl (PE.fA Z0J rfl) rfl (spL rfl rfl (lh Z4C rfl rfl) rfl (sp rfl (PE.lenSl Z5i rfl) rfl ?_)))))))
 refine clV rfl Z4g rfl rfl (Z49 _ _ _ _ _) ?_
 refine Z2 rfl ?_ ?_ <;> intro hc0
 refine sqt 1 rfl (pur 1 rfl (Z4 ?_))
 exact rtA rfl rfl rfl ⟨by simp only [Z0u]; rw [ck2 hc0], rfl, rfl⟩ drp
 refine Z1 (Z0 (sqt 8 rfl (sp rfl (PE.fA Z9l rfl) rfl (spL rfl rfl (lh sc3 rfl rfl) rfl ?_))))
 refine clV rfl Z4g rfl rfl (Z49 _ _ _ _ _) ?_
 refine pur 1 rfl ?_
 refine Zh 15 rfl ?_ ?_ <;> intro g15
 refine pur 4 rfl ?_
 refine Zq rfl ?_
 refine sqt 1 rfl (pur 1 rfl (Z4 ?_))
 exact rtA rfl rfl rfl ⟨by simp only [Z0u]; rw [ck3 hc0 (.inl g15)], rfl, rfl⟩ drp
 refine spG rfl rfl rfl rfl (PE.fA Z2m rfl) rfl ?_
 refine Z0o rfl rfl rfl rfl rfl (lh sc3 rfl rfl) rfl ?_
 refine Z0K rfl rfl rfl rfl Z4g rfl rfl (Z49 _ _ _ _ _) ?_
 refine pur 1 rfl ?_
 refine Z2 rfl ?_ ?_ <;> intro hc1
 refine sqt 1 rfl (pur 1 rfl (Z4 ?_))
 exact rtA rfl rfl rfl ⟨by simp only [Z0u]; rw [ck3 hc0 (.inr hc1)], rfl, rfl⟩ drp
 have hA : CkA b := ⟨hc0, g15, hc1⟩
 refine Z1 (Z0 (sqt 1 rfl (pur 1 rfl (Z3 ?_))))
 refine Zj (ι := {k : Nat // k ≤ 6 ∧ ∀ i, i < k → Z19 (na b.rise i) = true}) (fun k => ⟨[(1, .pointer (some ⟨b1, 0, none⟩)), (3, .int .i64 k.1)], (b1, cel 84 (btl b (b.sl ab cb))) :: H, R⟩) (fun k => 6 - k.1) ⟨0, by omega, fun i hi => by omega⟩ ?_ (fun k => ?_)
 exact Zr idH
 obtain ⟨k, hk, hin⟩ := k
 dsimp only at hk hin ⊢
 refine Z0 (sqt 2 rfl (pur 2 rfl ?_))
 refine Z2 rfl ?_ ?_ <;> intro hc2 <;> try simp only [cS] at hc2
 refine Z1 (Z0 (Z3 (sqt 12 rfl (pur 1 rfl (sp rfl (PE.fA Z3u rfl) rfl (sp rfl (PE.indexArr Z5a rfl rfl (by omega) (by omega)) rfl (spL rfl rfl (lh sc3 rfl (by rw [show 0 + 2 + ((k : Nat) : Int).toNat * 1 = 2 + k by omega]; exact Z0b (by omega))) rfl (pur 2 rfl ?_))))))))
 refine Zh 29 rfl ?_ ?_ <;> intro g29
 try simp only [cS] at g29
 refine pur 1 rfl ?_
 refine spG rfl rfl rfl rfl (PE.fA Z3u rfl) rfl ?_
 refine spG rfl rfl rfl rfl (PE.indexArr Z5a rfl rfl (by omega) (by omega)) rfl ?_
 refine Z0o rfl rfl rfl rfl rfl (lh sc3 rfl (by rw [show 0 + 2 + ((k : Nat) : Int).toNat * 1 = 2 + k by omega]; exact Z0b (by omega))) rfl ?_
 refine Z0K rfl rfl rfl rfl Z4g rfl rfl (Z49 _ _ _ _ _) ?_
 refine pur 1 rfl ?_
 refine Z2 rfl ?_ ?_ <;> intro hc3
 refine sqt 1 rfl (pur 1 rfl (Z4 ?_))
 exact rtA rfl rfl rfl ⟨by simp only [Z0u]; rw [Zi5 hA.many hA.cool hA.gangs (k := k) (by omega) g29 hc3], rfl, rfl⟩ drp
 have hro : Z19 (na b.rise k) = true := Z70 (.inr hc3)
 refine Z1 (sqr 3 rfl (pur 1 rfl (sp rfl (PE.add rfl rfl (by omega)) rfl (pur 1 rfl ?_))))
 refine Ze ⟨k + 1, by omega, fun i hi => ?_⟩ (by dsimp only; omega) idH
 rcases Nat.lt_or_ge i k with h3 | h3
 · exact hin i h3
 · obtain rfl : i = k := by omega
   exact hro
 try simp only [cS] at g29
 have hro : Z19 (na b.rise k) = true := Z70 (.inl (by omega))
 refine pur 6 rfl ?_
 refine ZG rfl ?_
 refine Z1 (sqr 3 rfl (pur 1 rfl (sp rfl (PE.add rfl rfl (by omega)) rfl (pur 1 rfl ?_))))
 refine Ze ⟨k + 1, by omega, fun i hi => ?_⟩ (by dsimp only; omega) idH
 rcases Nat.lt_or_ge i k with h3 | h3
 · exact hin i h3
 · obtain rfl : i = k := by omega
   exact hro
 obtain rfl : k = 6 := by omega
 have hra : b.rise.all Z19 = true := Ze2 (fun i hi => hin i (by omega))
 refine Zb (Zf (Zf (ZB (Z0 (sqt 1 rfl (pur 1 rfl (Z3 ?_)))))))
 refine Zj (ι := {k : Nat // k ≤ b.bins.length ∧ ∀ i, i < k → ∀ x, b.bins[i]? = some x → x.ok = true}) (fun k => ⟨[(1, .pointer (some ⟨b1, 0, none⟩)), (4, .int .i64 k.1)], (b1, cel 84 (btl b (b.sl ab cb))) :: H, R⟩) (fun k => b.bins.length - k.1) ⟨0, by omega, fun i hi => by omega⟩ ?_ (fun k => ?_)
 exact Zr idH
 obtain ⟨k, hk, hin⟩ := k
 dsimp only at hk hin ⊢
 refine Z0 (sqt 5 rfl (pur 1 rfl (sp rfl (PE.fA Z0J rfl) rfl (spL rfl rfl (lh Z4C rfl rfl) rfl (sp rfl (PE.lenSl Z5i rfl) rfl (pur 1 rfl ?_))))))
 refine Z2 rfl ?_ ?_ <;> intro hc4 <;> try simp only [cS] at hc4
 obtain ⟨x, hx⟩ : ∃ x, b.bins[k]? = some x := ⟨_, List.getElem?_eq_getElem (by omega)⟩
 have hxm := List.mem_of_getElem? hx
 refine Zl (a := ab) (sz := 4) (rows := Z7 b.bins) (by intro h0; simp [Z7] at h0; simp [h0] at hx) (fun ba oa he => ?_)
 subst he
 refine Z1 (Z0 (Z3 (sqt 7 rfl (sp rfl (PE.fA Z0J rfl) rfl (spL rfl rfl (lh Z4C rfl rfl) rfl (pur 1 rfl (sp rfl (PE.indexAddr Zac rfl rfl (by omega) (by omega)) rfl (spL rfl rfl (lfA Zhd (row := Z34 x) (Z01 hx) rfl) rfl (alc rfl Zfd rfl (fun b5 => ?_))))))))))
 refine sto rfl rfl rfl Zhl rfl rfl rfl rfl ?_
 refine sqt 22 rfl (sp rfl (PE.fA Z5X rfl) rfl (spL rfl rfl (lh sc3 rfl rfl) rfl ?_))
 refine clV rfl Z4g rfl rfl (Z49 _ _ _ _ _) ?_
 refine pur 1 rfl ?_
 refine Zh 51 rfl ?_ ?_ <;> intro g51
 refine pur 18 rfl ?_
 refine Zq rfl ?_
 refine sqt 1 rfl (pur 1 rfl (Z4 ?_))
 exact rtA rfl rfl rfl ⟨by simp only [Z0u]; rw [hA.at_bin hra hxm (Z66 (.inl g51))], rfl, rfl⟩ drp
 refine spG rfl rfl rfl rfl (PE.fA Z6a rfl) rfl ?_
 refine Z0o rfl rfl rfl rfl rfl (lh sc3 rfl rfl) rfl ?_
 refine spG rfl rfl rfl rfl (PE.fA Z5X rfl) rfl ?_
 refine Z0o rfl rfl rfl rfl rfl (lh sc3 rfl rfl) rfl ?_
 refine Z0K rfl rfl rfl rfl Z4g rfl rfl (Z49 _ _ _ _ _) ?_
 refine pur 2 rfl ?_
 refine Zh 58 rfl ?_ ?_ <;> intro g58
 refine pur 11 rfl ?_
 refine Zq rfl ?_
 refine sqt 1 rfl (pur 1 rfl (Z4 ?_))
 exact rtA rfl rfl rfl ⟨by simp only [Z0u]; rw [hA.at_bin hra hxm (Z66 (.inr (.inl g58)))], rfl, rfl⟩ drp
 refine spG rfl rfl rfl rfl (PE.fA Z2B rfl) rfl ?_
 refine spG rfl rfl rfl rfl (PE.fA Z0k rfl) rfl ?_
 refine Z0o rfl rfl rfl rfl rfl (lh sc3 rfl rfl) rfl ?_
 refine Z0K rfl rfl rfl rfl Z4g rfl rfl (Z49 _ _ _ _ _) ?_
 refine pur 2 rfl ?_
 refine Zh 64 rfl ?_ ?_ <;> intro g64
 refine pur 5 rfl ?_
 refine Zq rfl ?_
 refine sqt 1 rfl (pur 1 rfl (Z4 ?_))
 exact rtA rfl rfl rfl ⟨by simp only [Z0u]; rw [hA.at_bin hra hxm (Z66 (.inr (.inr (.inl g64))))], rfl, rfl⟩ drp
 refine spG rfl rfl rfl rfl (PE.fA Z2B rfl) rfl ?_
 refine spG rfl rfl rfl rfl (PE.fA Z0e rfl) rfl ?_
 refine Z0o rfl rfl rfl rfl rfl (lh sc3 rfl rfl) rfl ?_
 refine Z0K rfl rfl rfl rfl Z4g rfl rfl (Z49 _ _ _ _ _) ?_
 refine pur 1 rfl ?_
 refine Z2 rfl ?_ ?_ <;> intro hc5
 refine sqt 1 rfl (pur 1 rfl (Z4 ?_))
 exact rtA rfl rfl rfl ⟨by simp only [Z0u]; rw [hA.at_bin hra hxm (Z66 (.inr (.inr (.inr hc5))))], rfl, rfl⟩ drp
 have hxo := Zcb g51 g58 g64 hc5
 refine Z1 (sqr 3 rfl (pur 1 rfl (sp rfl (PE.add rfl rfl (by omega)) rfl (pur 1 rfl ?_))))
 refine Ze ⟨k + 1, by omega, fun i hi => ?_⟩ (by dsimp only; omega) (fun w h => h.del b5)
 rcases Nat.lt_or_ge i k with h3 | h3
 · exact hin i h3
 · obtain rfl : i = k := by omega
   exact fun y hy => by rw [hx] at hy; cases hy; exact hxo
 obtain rfl : k = b.bins.length := by omega
 have hba : b.bins.all HBin.ok = true := Z9f (fun i y hy => hin i (List.getElem?_eq_some_iff.1 hy).1 y hy)
 have hrest := hA.rest hra hba
 refine Zb (Zf (Zf (ZB (Z0 (sqt 1 rfl (pur 1 rfl (Z3 ?_)))))))
 refine Zj (ι := {k : Nat // k ≤ 5 ∧ ∀ i, i < k → Z9S b.rise i = false}) (fun k => ⟨[(1, .pointer (some ⟨b1, 0, none⟩)), (6, .int .i64 ((k.1 + 1 : Nat) : Int))], (b1, cel 84 (btl b (b.sl ab cb))) :: H, R⟩) (fun k => 5 - k.1) ⟨0, by omega, fun i hi => by omega⟩ ?_ (fun k => ?_)
 exact Zr idH
 obtain ⟨k, hk, hin⟩ := k
 dsimp only at hk hin ⊢
 refine Z0 (sqt 2 rfl (pur 2 rfl ?_))
 refine Z2 rfl ?_ ?_ <;> intro hc6 <;> try simp only [cS] at hc6
 refine Z1 (Z0 (Z3 (Z0 ?_)))
 refine Zi [0, 0, 3, 7, 0, 16, 0, 112, 240, 511] (tks 0 3 (.ld 3 (tks 4 4 (.ld 8 (.tk 9 .done))))) ZH (by kernel_rfl) ?_
 refine Zp 1 rfl (tk rfl (PE.fA Z3u rfl) rfl (tk rfl (PE.indexArr Z5a rfl rfl (by omega) (by omega)) rfl (ld rfl rfl (lh sc3 rfl (by rw [show 0 + 2 + (((k + 1 : Nat) : Int)).toNat * 1 = 2 + (k + 1) by omega]; exact Z0b (by omega))) rfl (Zp 1 rfl (tk rfl (PE.sub rfl rfl (by omega)) rfl (tk rfl (PE.fA Z3u rfl) rfl (tk rfl (PE.indexArr Z5a rfl rfl (by omega) (by omega)) rfl (ld rfl rfl (lh sc3 rfl (by rw [show 0 + 2 + (((k + 1 : Nat) : Int) - 1).toNat * 1 = 2 + k by omega]; exact Z0b (by omega))) rfl (Zp 1 rfl ?_)))))))))
 refine Z2 rfl ?_ ?_ <;> intro hc7 <;> try simp only [cS] at hc7
 have hbd := Z8q (Z0f (by omega)) (Z0f (by omega)) hc7
 rw [hbd] at hrest
 refine sqt 1 rfl (pur 1 rfl (Z4 ?_))
 exact rtA rfl rfl rfl ⟨by simp only [Z0u]; rw [hrest]; rfl, rfl, rfl⟩ drp
 have hnb : Z9S b.rise k = false := by rw [Zec (Z0f (by omega)) (Z0f (by omega))]; exact dF (by omega)
 refine Z1 (sqr 3 rfl (pur 1 rfl (sp rfl (PE.add rfl rfl (by omega)) rfl (pur 1 rfl ?_))))
 refine Ze ⟨k + 1, by omega, fun i hi => ?_⟩ (by dsimp only; omega) idH
 rcases Nat.lt_or_ge i k with h3 | h3
 · exact hin i h3
 · obtain rfl : i = k := by omega
   exact hnb
 obtain rfl : k = 5 := by omega
 have hsr : srt b.rise = true := Zdj (fun i hi => hin i (by omega))
 rw [hsr] at hrest
 refine Zb (Zf (Zf (ZB (Z0 (sqt 1 rfl (pur 1 rfl (Z3 ?_)))))))
 refine Zj (ι := {k : Nat // k ≤ b.bins.length ∧ ∀ i, i < k → ∀ x, b.bins[i]? = some x → x.lo ≤ x.hi}) (fun k => ⟨[(1, .pointer (some ⟨b1, 0, none⟩)), (7, .int .i64 k.1)], (b1, cel 84 (btl b (b.sl ab cb))) :: H, R⟩) (fun k => b.bins.length - k.1) ⟨0, by omega, fun i hi => by omega⟩ ?_ (fun k => ?_)
 exact Zr idH
 obtain ⟨k, hk, hin⟩ := k
 dsimp only at hk hin ⊢
 refine Z0 (sqt 5 rfl (pur 1 rfl (sp rfl (PE.fA Z0J rfl) rfl (spL rfl rfl (lh Z4C rfl rfl) rfl (sp rfl (PE.lenSl Z5i rfl) rfl (pur 1 rfl ?_))))))
 refine Z2 rfl ?_ ?_ <;> intro hc8 <;> try simp only [cS] at hc8
 obtain ⟨x, hx⟩ : ∃ x, b.bins[k]? = some x := ⟨_, List.getElem?_eq_getElem (by omega)⟩
 have hxm := List.mem_of_getElem? hx
 refine Zl (a := ab) (sz := 4) (rows := Z7 b.bins) (by intro h0; simp [Z7] at h0; simp [h0] at hx) (fun ba oa he => ?_)
 subst he
 refine Z1 (Z0 (Z3 (Z0 ?_)))
 refine Zi [0, 1, 0, 7, 15, 31, 63, 0, 128, 0, 896, 1920, 3968, 8064, 16383] (.tk 0 (.ld 1 (tks 2 4 (.ld 6 (.tk 7 (.ld 8 (tks 9 4 (.ld 13 (.tk 14 .done))))))))) ZH (by kernel_rfl) ?_
 refine tk rfl (PE.fA Z0J rfl) rfl (ld rfl rfl (lh Z4C rfl rfl) rfl (Zp 1 rfl (tk rfl (PE.indexAddr Zac rfl rfl (by omega) (by omega)) rfl (tk rfl (PE.fA Z2B rfl) rfl (tk rfl (PE.fA Z0k rfl) rfl (ld rfl rfl (lf (j := 2) sc3 (Z01 hx) rfl) rfl (tk rfl (PE.fA Z0J rfl) rfl (ld rfl rfl (lh Z4C rfl rfl) rfl (Zp 1 rfl (tk rfl (PE.indexAddr Zac rfl rfl (by omega) (by omega)) rfl (tk rfl (PE.fA Z2B rfl) rfl (tk rfl (PE.fA Z0e rfl) rfl (ld rfl rfl (lf (j := 3) sc3 (Z01 hx) rfl) rfl (Zp 1 rfl ?_))))))))))))))
 refine Z2 rfl ?_ ?_ <;> intro hc9 <;> try simp only [cS] at hc9
 have hbd : (b.bins.all fun x => decide (x.lo ≤ x.hi)) = false := by rw [List.all_eq_false]; exact ⟨x, hxm, by simp; omega⟩
 rw [hbd] at hrest
 refine sqt 1 rfl (pur 1 rfl (Z4 ?_))
 exact rtA rfl rfl rfl ⟨by simp only [Z0u]; rw [hrest]; rfl, rfl, rfl⟩ drp
 refine Z1 (sqr 3 rfl (pur 1 rfl (sp rfl (PE.add rfl rfl (by omega)) rfl (pur 1 rfl ?_))))
 refine Ze ⟨k + 1, by omega, fun i hi => ?_⟩ (by dsimp only; omega) idH
 rcases Nat.lt_or_ge i k with h3 | h3
 · exact hin i h3
 · obtain rfl : i = k := by omega
   exact fun y hy => by rw [hx] at hy; cases hy; omega
 obtain rfl : k = b.bins.length := by omega
 have hgd : (b.bins.all fun x => decide (x.lo ≤ x.hi)) = true := Z9f (fun i y hy => dT (hin i (List.getElem?_eq_some_iff.1 hy).1 y hy))
 rw [hgd] at hrest
 refine Zb (Zf (Zf (ZB (sqt 1 rfl (pur 1 rfl (Z4 ?_))))))
 exact rtA rfl rfl rfl ⟨by simp only [Z0u]; rw [hrest]; rfl, rfl, rfl⟩ drp
theorem Z1d : cal Tryz.prog 11 = true := by kernel_rfl
theorem Z6T : cal Tryz.prog 29 = true := by kernel_rfl
theorem Z8h : cal Tryz.prog 30 = true := by kernel_rfl
theorem Z80 : cal Tryz.prog 32 = true := by kernel_rfl
theorem Z1J : cal Tryz.prog 37 = true := by kernel_rfl
theorem ZdN : cal Tryz.prog 61 = true := by kernel_rfl
theorem ZeR : cal Tryz.prog 63 = true := by kernel_rfl
theorem Zht : cal Tryz.prog 64 = true := by kernel_rfl
theorem Zh2 : cal Tryz.prog 65 = true := by kernel_rfl
theorem Zhb : cal Tryz.prog 66 = true := by kernel_rfl
theorem Zh1 : cal Tryz.prog 67 = true := by kernel_rfl
theorem Z4u {l : List HBin} : ∀ r ∈ Z7 l, r.length = 4 := by
  intro r hr
  obtain ⟨x, _, rfl⟩ := List.mem_map.1 hr
  rfl
theorem St.binRows {l : List HBin} {bk e : Nat} {junk : List Value} {H : Zg} {R : Z6} {w : World} (hs : St ((bk, cel e ((Z7 l).flatten ++ junk)) :: H) R w) :
    St H (Z5 (some ⟨bk, 0, none⟩) 4 (Z7 l) :: R) w := by
  have h1 := (St.freeze hs).also (f := Z5 (some ⟨bk, 0, none⟩) 4 (Z7 l)) (fun w' hw => by
    have hb := hw (fun w => w.heap[bk]? = some (cel e ((Z7 l).flatten ++ junk))) (by simp)
    exact Z1W hb Z4u)
  exact h1.facts (fun g hg => by rcases List.mem_cons.1 hg with h3 | h3 <;> simp [h3])
theorem Z8H {A J v : List Value} {i : Nat} (h : i + v.length ≤ A.length) : spl (A ++ J) i v = spl A i v ++ J := by
  unfold spl; rw [List.take_append_of_le_length (by omega), List.drop_append_of_le_length h]; simp
theorem St.noRows {sz : Nat} {H : Zg} {R : Z6} {w : World} (hs : St H R w) : St H (Z5 none sz [] :: R) w :=
  hs.also (fun w' _ i row hi => by simp at hi)
theorem Z5H (b : Barn) (ab : Option Addr) (cb : Nat) (hl : b.bins.length ≤ 1000000) (H : Zg) (R : Z6) [hB : MemRows ab 4 (Z7 b.bins) R] : Fn Tryz.prog 29 [b.v (b.sl ab cb)] H R (fun v H' R' => ∃ ax cx, v = b.v (b.sl ax cx) ∧ H' = H ∧ R' = Z5 ax 4 (Z7 b.bins) :: R) := fun w hw => by
  refine CallsIn.mono (ZdX b ab cb hl H R w hw) ?_
  rintro e' w' ⟨u, H', R', ⟨bo, cap, junk, rfl, rfl, rfl⟩, he, hs'⟩
  exact ⟨_, H, _, ⟨_, _, rfl, rfl, rfl⟩, he, hs'.binRows⟩
theorem Z7r (b : Barn) (ab : Option Addr) (cb : Nat) (n lo hi : Int) (hn : -9223372036854775808 ≤ n ∧ n ≤ 9223372036854775807) (hlo : -9223372036854775808 ≤ lo ∧ lo ≤ 9223372036854775807) (hhi : -9223372036854775808 ≤ hi ∧ hi ≤ 9223372036854775807) (hl : b.bins.length ≤ 9223372036854775807) (hr : b.rise.length = 6) (H : Zg) (R : Z6) [hB : MemRows ab 4 (Z7 b.bins) R] :
    Fn Tryz.prog 19 [b.v (b.sl ab cb), .int .i64 n, spv lo hi] H R (fun v H' R' => v = .bool true ∧ H' = H ∧ R' = R) := by
 refine Zy Tryz.func19 rfl Tryz.ntmps19 rfl ?_
 refine sqt 3 rfl (bx rfl rfl rfl (fun b3 => bx rfl rfl rfl (fun b5 => pur 1 rfl (Z0 (sqt 2 rfl (spL rfl rfl (lhA (btl b (b.sl ab cb)) ZD rfl rfl rfl) rfl ?_))))))
 refine clV rfl ZdN rfl rfl (Z89 b ab cb hl _ _) ?_
 refine Z2 rfl ?_ ?_ <;> intro hc0
 refine sqt 2 rfl ?_
 refine clV rfl Z1d rfl rfl (Z02 _ _) ?_
 refine pur 1 rfl (Z4 ?_)
 exact rtA rfl rfl rfl ⟨rfl, rfl, rfl⟩ (fun w h => (h.del b5).del b3)
 have h8 : ¬ 8 < b.bins.length := by simpa using hc0
 refine Z1 (Z0 ?_)
 refine Z3F [0, 1, 0, 7, 0, 0, 63, 127] [0, 1, 2, 3, 4, 5, 6, 7] ZH (by kernel_rfl) rfl (fun s L H1 R1 => ∃ (a1 : Option Addr) (c1 : Nat) (a2 : Option Addr) (c2 : Nat) (b7 : Nat) (x7 : List Value) (b8 : Nat) (x8 : List Value), Sub [(1, .int .i64 n), (3, .pointer (some ⟨b3, 0, none⟩)), (5, .pointer (some ⟨b5, 0, none⟩))] L ∧ (∀ f ∈ (R : Z6), f ∈ R1) ∧ (s 0 = true → lk L 28 = some (b.v (b.sl ab cb))) ∧ (s 1 = true → lk L 29 = some (b.v (b.sl a1 c1)) ∧ (Z5 a1 4 (Z7 b.bins)) ∈ R1) ∧ (s 2 = true → lk L 30 = some (b.v (b.sl ab cb))) ∧ (s 3 = true → lk L 31 = some (b.v (b.sl a2 c2)) ∧ (Z5 a2 4 (Z7 b.bins)) ∈ R1) ∧ (s 4 = true → lk L 7 = some (.pointer (some ⟨b7, 0, none⟩)) ∧ (s 6 = false → x7 = [.int .i64 0, .int .i64 0, .int .i64 0, .int .i64 0, .int .i64 0, .int .i64 0, .int .i64 0, .int .i64 0, .slice none 0 0])) ∧ (s 5 = true → lk L 8 = some (.pointer (some ⟨b8, 0, none⟩)) ∧ (s 7 = false → x8 = [.int .i64 0, .int .i64 0, .int .i64 0, .int .i64 0, .int .i64 0, .int .i64 0, .int .i64 0, .int .i64 0, .slice none 0 0])) ∧ (s 6 = true → x7 = btl b (b.sl a1 c1)) ∧ (s 7 = true → x8 = btl b (b.sl a2 c2)) ∧ ∀ w, St H1 R1 w → St ((bif s 5 then [(b8, cel 84 x8)] else []) ++ ((bif s 4 then [(b7, cel 27 x7)] else []) ++ ((b5, cel 31 [.int .i64 lo, .int .i64 hi]) :: (b3, cel 27 (btl b (b.sl ab cb))) :: H))) R1 w) ?_ ?_ ?_
 exact ⟨none, 0, none, 0, 0, [], 0, [], (by repeat' first | exact Sub.nil | apply Sub.cons | rfl | (simp [lk]; omega)), fun _ hf => hf, ff, ff, ff, ff, ff, ff, ff, ff, fun w h => h⟩
 refine ⟨?_, ?_, ?_, ?_, ?_, ?_, ?_, ?_, trivial⟩
 intro s Lz Hz Rz hdn hs hpre hI K hK
 obtain ⟨a1, c1, a2, c2, b7, x7, b8, x8, hL0, hR0, q0, q1, q2, q3, q4, q5, q6, q7, hH⟩ := hI
 refine Sy.heap hH ?_
 refine spL rfl (Sub.lk hL0 _ _ rfl) ((lhA (btl b (b.sl ab cb)) ZD rfl rfl rfl)) rfl ?_
 exact hK _ _ _ ⟨a1, c1, a2, c2, b7, x7, b8, x8, Zw rfl hL0, hR0, fun _ => ZJ, lm2 q1, lm1 q2, lm2 q3, lm2 q4, lm2 q5, q6, q7, fun w h => h⟩
 intro s Lz Hz Rz hdn hs hpre hI K hK
 obtain ⟨a1, c1, a2, c2, b7, x7, b8, x8, hL0, hR0, q0, q1, q2, q3, q4, q5, q6, q7, hH⟩ := hI
 have h0 : s 0 = true := hpre 0 rfl
 refine Sy.heap hH ?_
 haveI m0 : MemRows ab 4 (Z7 b.bins) Rz := ⟨hR0 _ (inferInstance : MemRows ab 4 (Z7 b.bins) (R)).mem⟩
 refine cl rfl Z6T rfl (by simp only [evs, show ev Lz (.tmp 28) = _ from (q0 h0)]) (Z5H b ab cb (by omega) _ _) ?_
 rintro _ _ R1 ⟨a1, c1, rfl, rfl, hR1⟩
 obtain rfl := hR1.symm
 clear hR1
 exact hK _ _ _ ⟨a1, c1, a2, c2, b7, x7, b8, x8, Zw rfl hL0, Z0j (hR0), fun h => Zc rfl (q0 h), fun _ => ⟨ZJ, (by simp)⟩, fun h => Zc rfl (q2 h), fun h => ⟨Zc rfl (q3 h).1, List.mem_cons_of_mem _ ((q3 h).2)⟩, fun h => ⟨Zc rfl (q4 h).1, (q4 h).2⟩, fun h => ⟨Zc rfl (q5 h).1, (q5 h).2⟩, nof hdn hs 6, q7, fun w h => h⟩
 intro s Lz Hz Rz hdn hs hpre hI K hK
 obtain ⟨a1, c1, a2, c2, b7, x7, b8, x8, hL0, hR0, q0, q1, q2, q3, q4, q5, q6, q7, hH⟩ := hI
 refine Sy.heap hH ?_
 refine spL rfl (Sub.lk hL0 _ _ rfl) ((lhA (btl b (b.sl ab cb)) ZD rfl rfl rfl)) rfl ?_
 exact hK _ _ _ ⟨a1, c1, a2, c2, b7, x7, b8, x8, Zw rfl hL0, hR0, lm1 q0, lm2 q1, fun _ => ZJ, lm2 q3, lm2 q4, lm2 q5, q6, q7, fun w h => h⟩
 intro s Lz Hz Rz hdn hs hpre hI K hK
 obtain ⟨a1, c1, a2, c2, b7, x7, b8, x8, hL0, hR0, q0, q1, q2, q3, q4, q5, q6, q7, hH⟩ := hI
 obtain ⟨h0, h1, h2⟩ : s 0 = true ∧ s 1 = true ∧ s 2 = true := ⟨hpre 0 rfl, hpre 1 rfl, hpre 2 rfl⟩
 refine Sy.heap hH ?_
 haveI m0 : MemRows ab 4 (Z7 b.bins) Rz := ⟨hR0 _ (inferInstance : MemRows ab 4 (Z7 b.bins) (R)).mem⟩
 refine cl rfl Z8h rfl (by simp only [evs, show ev Lz (.tmp 30) = _ from (q2 h2)]) (Z2c b ab cb (by omega) _ _) ?_
 rintro _ _ R1 ⟨a2, c2, rfl, rfl, hR1⟩
 obtain rfl := hR1.symm
 clear hR1
 exact hK _ _ _ ⟨a1, c1, a2, c2, b7, x7, b8, x8, Zw rfl hL0, Z0j (hR0), fun h => Zc rfl (q0 h), fun h => ⟨Zc rfl (q1 h).1, List.mem_cons_of_mem _ ((q1 h).2)⟩, fun h => Zc rfl (q2 h), fun _ => ⟨ZJ, (by simp)⟩, fun h => ⟨Zc rfl (q4 h).1, (q4 h).2⟩, fun h => ⟨Zc rfl (q5 h).1, (q5 h).2⟩, q6, nof hdn hs 7, fun w h => h⟩
 intro s Lz Hz Rz hdn hs hpre hI K hK
 obtain ⟨a1, c1, a2, c2, b7, x7, b8, x8, hL0, hR0, q0, q1, q2, q3, q4, q5, q6, q7, hH⟩ := hI
 refine Sy.heap hH ?_
 refine alc rfl Z0w rfl (fun b7 => ?_)
 exact hK _ _ _ ⟨a1, c1, a2, c2, b7, [.int .i64 0, .int .i64 0, .int .i64 0, .int .i64 0, .int .i64 0, .int .i64 0, .int .i64 0, .int .i64 0, .slice none 0 0], b8, x8, Zw rfl hL0, hR0, lm1 q0, lm2 q1, lm1 q2, lm2 q3, fun _ => ⟨ZJ, fun _ => rfl⟩, lm2 q5, nof hdn hs 6, q7, fun w h => by rw [hs] at h; exact h.perm (List.perm_middle.symm.trans (List.Perm.append_left _ (.refl _)))⟩
 intro s Lz Hz Rz hdn hs hpre hI K hK
 obtain ⟨a1, c1, a2, c2, b7, x7, b8, x8, hL0, hR0, q0, q1, q2, q3, q4, q5, q6, q7, hH⟩ := hI
 refine Sy.heap hH ?_
 refine alc rfl ZbL rfl (fun b8 => ?_)
 exact hK _ _ _ ⟨a1, c1, a2, c2, b7, x7, b8, [.int .i64 0, .int .i64 0, .int .i64 0, .int .i64 0, .int .i64 0, .int .i64 0, .int .i64 0, .int .i64 0, .slice none 0 0], Zw rfl hL0, hR0, lm1 q0, lm2 q1, lm1 q2, lm2 q3, lm2 q4, fun _ => ⟨ZJ, fun _ => rfl⟩, q6, nof hdn hs 7, fun w h => by rw [hs] at h; exact h.perm (.refl _)⟩
 intro s Lz Hz Rz hdn hs hpre hI K hK
 obtain ⟨a1, c1, a2, c2, b7, x7, b8, x8, hL0, hR0, q0, q1, q2, q3, q4, q5, q6, q7, hH⟩ := hI
 obtain ⟨h0, h1, h2, h3, h4, h5⟩ : s 0 = true ∧ s 1 = true ∧ s 2 = true ∧ s 3 = true ∧ s 4 = true ∧ s 5 = true := ⟨hpre 0 rfl, hpre 1 rfl, hpre 2 rfl, hpre 3 rfl, hpre 4 rfl, hpre 5 rfl⟩
 refine Sy.heap hH ?_
 obtain rfl := (q4 h4).2 hs
 refine Sy.heap (H' := (bif s 5 then [(b8, cel 84 x8)] else []) ++ ((b7, cel 27 [.int .i64 0, .int .i64 0, .int .i64 0, .int .i64 0, .int .i64 0, .int .i64 0, .int .i64 0, .int .i64 0, .slice none 0 0]) :: ((b5, cel 31 [.int .i64 lo, .int .i64 hi]) :: (b3, cel 27 (btl b (b.sl ab cb))) :: H))) (fun w h => by rw [h4] at h; exact h) ?_
 refine Z1b (l' := btl b (b.sl a1 c1)) rfl (q4 h4).1 (q1 h1).1 Z03 rfl rfl rfl rfl (Nat.le_refl _) ?_
 exact hK _ _ _ ⟨a1, c1, a2, c2, b7, btl b (b.sl a1 c1), b8, x8, hL0, hR0, q0, q1, q2, q3, fun h => ⟨(q4 h).1, fun h => by cases (show true = false from h)⟩, q5, fun _ => rfl, q7, fun w h => by show St ((bif s 5 then [(b8, cel 84 x8)] else []) ++ ((bif s 4 then [(b7, cel 27 (btl b (b.sl a1 c1)))] else []) ++ ((b5, cel 31 [.int .i64 lo, .int .i64 hi]) :: (b3, cel 27 (btl b (b.sl ab cb))) :: H))) Rz w; rw [h4]; exact h⟩
 intro s Lz Hz Rz hdn hs hpre hI K hK
 obtain ⟨a1, c1, a2, c2, b7, x7, b8, x8, hL0, hR0, q0, q1, q2, q3, q4, q5, q6, q7, hH⟩ := hI
 obtain ⟨h0, h1, h2, h3, h4, h5, h6⟩ : s 0 = true ∧ s 1 = true ∧ s 2 = true ∧ s 3 = true ∧ s 4 = true ∧ s 5 = true ∧ s 6 = true := ⟨hpre 0 rfl, hpre 1 rfl, hpre 2 rfl, hpre 3 rfl, hpre 4 rfl, hpre 5 rfl, hpre 6 rfl⟩
 refine Sy.heap hH ?_
 obtain rfl := (q5 h5).2 hs
 refine Sy.heap (H' := (b8, cel 84 [.int .i64 0, .int .i64 0, .int .i64 0, .int .i64 0, .int .i64 0, .int .i64 0, .int .i64 0, .int .i64 0, .slice none 0 0]) :: ((bif s 4 then [(b7, cel 27 x7)] else []) ++ ((b5, cel 31 [.int .i64 lo, .int .i64 hi]) :: (b3, cel 27 (btl b (b.sl ab cb))) :: H))) (fun w h => by rw [h5] at h; exact h) ?_
 refine Z1b (l' := btl b (b.sl a2 c2)) rfl (q5 h5).1 (q3 h3).1 Zd1 rfl rfl rfl rfl (Nat.le_refl _) ?_
 exact hK _ _ _ ⟨a1, c1, a2, c2, b7, x7, b8, btl b (b.sl a2 c2), hL0, hR0, q0, q1, q2, q3, q4, fun h => ⟨(q5 h).1, fun h => by cases (show true = false from h)⟩, q6, fun _ => rfl, fun w h => by show St ((bif s 5 then [(b8, cel 84 (btl b (b.sl a2 c2)))] else []) ++ ((bif s 4 then [(b7, cel 27 x7)] else []) ++ ((b5, cel 31 [.int .i64 lo, .int .i64 hi]) :: (b3, cel 27 (btl b (b.sl ab cb))) :: H))) Rz w; rw [h5]; exact h⟩
 intro Lz Hz Rz hI
 obtain ⟨a1, c1, a2, c2, b7, x7, b8, x8, hL0, hR0, q0, q1, q2, q3, q4, q5, q6, q7, hH⟩ := hI
 obtain rfl := q7 rfl
 obtain rfl := q6 rfl
 refine Sy.weak (L' := [(8, .pointer (some ⟨b8, 0, none⟩)), (7, .pointer (some ⟨b7, 0, none⟩)), (1, .int .i64 n), (3, .pointer (some ⟨b3, 0, none⟩)), (5, .pointer (some ⟨b5, 0, none⟩))]) (H' := (b8, cel 84 (btl b (b.sl a2 c2))) :: (b7, cel 27 (btl b (b.sl a1 c1))) :: (b5, cel 31 [.int .i64 lo, .int .i64 hi]) :: (b3, cel 27 (btl b (b.sl ab cb))) :: H) (R' := Z5 a2 4 (Z7 b.bins) :: Z5 a1 4 (Z7 b.bins) :: R) ?_ (Sub.cons (q5 rfl).1 (Sub.cons (q4 rfl).1 hL0)).lk (fun w h => St.facts (hH w h) (Z0h (q3 rfl).2 (Z0h (q1 rfl).2 hR0)))
 refine sqt 3 rfl (spL rfl rfl (lhA (btl b (b.sl a2 c2)) Z1n rfl rfl rfl) rfl ?_)
 refine clV rfl Z80 rfl rfl (Z27 b a2 c2 hl hr _ _) ?_
 refine pur 1 rfl (Z0 (sqt 4 rfl (spL rfl rfl (lhA (btl b (b.sl a1 c1)) ZD rfl rfl rfl) rfl ?_)))
 refine clV rfl Z7h rfl rfl (Z2q b a1 c1 hl hr _ _) ?_
 refine pur 2 rfl ?_
 refine Z2 rfl ?_ ?_ <;> intro hc1
 exact absurd hc1 (by simp)
 refine Z1 (sqt 4 rfl (pur 4 rfl (sqt 1 rfl (alc rfl Z2C rfl (fun b12 => sqt 2 rfl (pur 2 rfl (sqt 1 rfl (alc rfl Z0w rfl (fun b15 => Z0 (sqt 2 rfl (pur 2 rfl ?_)))))))))))
 refine Z15 (ι := {q : Barn × Option Addr × Nat // (Zv b n lo hi ≠ 0 ∧ q.1 = zbarn ∧ q.2 = (none, 0)) ∨ (Zv b n lo hi = 0 ∧ q.1 = b.withB (Z0Q b n lo hi))}) (fun q => ⟨[(1, .int .i64 n), (3, .pointer (some ⟨b3, 0, none⟩)), (5, .pointer (some ⟨b5, 0, none⟩)), (7, .pointer (some ⟨b7, 0, none⟩)), (8, .pointer (some ⟨b8, 0, none⟩)), (10, .int .i64 (b.known n)), (11, .int .i64 (Zv b n lo hi)), (12, .pointer (some ⟨b12, 0, none⟩)), (13, .int .i64 (bif decide (b.known n = 0) then b.days (Z0V b n) (Z0V b n).warm else 0)), (14, .int .i64 (bif decide (b.known n = 0) then b.days (Z0V b n) b.cool else 0)), (15, .pointer (some ⟨b15, 0, none⟩))], (b15, cel 27 (btl q.1.1 (q.1.1.sl q.1.2.1 q.1.2.2))) :: (b12, cel 31 [.int .i64 (bif decide (b.known n = 0) then b.least (Z0V b n) else 0), .int .i64 (bif decide (b.known n = 0) then b.worst (Z0V b n) else 0)]) :: (b8, cel 84 (btl b (b.sl a2 c2))) :: (b7, cel 27 (btl b (b.sl a1 c1))) :: (b5, cel 31 [.int .i64 lo, .int .i64 hi]) :: (b3, cel 27 (btl b (b.sl ab cb))) :: H, Z5 q.1.2.1 4 (Z7 q.1.1.bins) :: Z5 a2 4 (Z7 b.bins) :: Z5 a1 4 (Z7 b.bins) :: R⟩) ?_ ?_
 refine Z2 rfl ?_ ?_ <;> intro hc2
 refine sqt 2 rfl (pur 2 rfl (sqt 9 rfl (pur 3 rfl ?_)))
 refine Zh 44 rfl ?_ ?_ <;> intro g44
 try simp only [cS] at g44
 refine pur 1 rfl ?_
 refine spG rfl rfl rfl rfl (PE.fA ZE rfl) rfl ?_
 refine Z0o rfl rfl rfl rfl rfl (lh Z0C rfl rfl) rfl ?_
 refine spG rfl rfl rfl rfl (PE.lenSl Z0M rfl) rfl ?_
 refine pur 2 rfl ?_
 refine Z2 rfl ?_ ?_ <;> intro hc3 <;> try simp only [cS] at hc3
 have hck : b.check = 0 := of_decide_eq_true hc2
 have hok := Barn.ok_of hr hck
 obtain ⟨k, rfl⟩ : ∃ k : Nat, n = k := ⟨n.toNat, by omega⟩
 obtain ⟨x, hx⟩ : ∃ x, b.bins[k]? = some x := ⟨_, List.getElem?_eq_getElem (by omega)⟩
 have hbx := Z21 hx
 have hkn := Barn.known_ok hck hx
 have hkz : decide (b.known k = 0) = true := dT hkn
 have hm := List.mem_of_getElem? hx
 have hmk := hok.bins x hm
 have hmn := hok.many
 refine Zl (a := ab) (sz := 4) (rows := Z7 b.bins) (by intro h0; simp [Z7] at h0; simp [h0] at hx) (fun ba oa he => ?_)
 subst he
 refine sqt 7 rfl (sp rfl (PE.fA ZE rfl) rfl (spL rfl rfl (lh Z0C rfl rfl) rfl (pur 1 rfl (sp rfl (PE.indexAddr Z3s rfl rfl (by omega) (by omega)) rfl (spL rfl rfl (lfA Zas (row := Z34 x) (Z01 hx) rfl) rfl (alc rfl Z4M rfl (fun b16 => ?_)))))))
 refine sto rfl rfl rfl Zf8 rfl rfl rfl rfl ?_
 refine Z0 ?_
 refine Zi [0, 1, 3, 0, 15, 31, 0, 64, 192, 0, 960, 1984, 4095, 0, 0, 0, 32768, 122880, 0, 0, 1040384, 2097151, 4194303, 8388607, 16777215] (.tk 0 (.tk 1 (.ld 2 (.tk 3 (.tk 4 (.ld 5 (.tk 6 (.tk 7 (.ld 8 (.tk 9 (.tk 10 (.ld 11 (.tk 12 (.ld 13 (.tk 14 (.tk 15 (.ld 16 (.ld 18 (.tk 19 (.big 17 (.big 20 (.big 21 (tks 22 3 .done))))))))))))))))))))))) ZH (by kernel_rfl) ?_
 refine tk rfl (PE.fA Z0I rfl) rfl (tk rfl (PE.fA Z0k rfl) rfl (ld rfl rfl (lh sc3 rfl rfl) rfl (tk rfl (PE.fA Z20 rfl) rfl (tk rfl (PE.indexArr Z5a rfl rfl (by omega) (by omega)) rfl (ld rfl rfl (lh sc3 rfl (by rw [show 0 + 2 + x.lo.toNat * 1 = 2 + x.lo.toNat by omega]; exact Z0b (by omega))) rfl (tk rfl (PE.fA Z0I rfl) rfl (tk rfl (PE.fA Z0e rfl) rfl (ld rfl rfl (lh sc3 rfl rfl) rfl (tk rfl (PE.fA Z20 rfl) rfl (tk rfl (PE.indexArr Z5a rfl rfl (by omega) (by omega)) rfl (ld rfl rfl (lh sc3 rfl (by rw [show 0 + 2 + x.hi.toNat * 1 = 2 + x.hi.toNat by omega]; exact Z0b (by omega))) rfl (tk rfl (PE.build (out := [_, _]) Z4r Z2C rfl rfl) rfl (ld rfl rfl (lhA (btl b (b.sl a2 c2)) Z1n rfl rfl rfl) rfl (Zp 1 rfl (tk rfl (PE.fA Z2O rfl) rfl ?_)))))))))))))))
 refine ld rfl rfl (lh sc3 rfl rfl) rfl (ld rfl rfl (lhA (btl b (b.sl a2 c2)) Z1n rfl rfl rfl) rfl (Zp 1 rfl ?_))
 refine clV rfl ZcD rfl rfl (Z6n b a2 c2 hok k x hx x.warm (by omega) _ _) ?_
 refine bg (fun w hs => ⟨(lhA (btl b (b.sl a2 c2)) Z1n rfl rfl rfl) w hs, trivial, trivial, (lh sc3 rfl (by rw [show 0 + 2 + x.hi.toNat * 1 = 2 + x.hi.toNat by omega]; exact Z0b (by omega))) w hs, (lh sc3 rfl rfl) w hs, (lh sc3 rfl (by rw [show 0 + 2 + x.lo.toNat * 1 = 2 + x.lo.toNat by omega]; exact Z0b (by omega))) w hs, (lh sc3 rfl rfl) w hs, trivial⟩) ?_
 refine clV rfl ZeR rfl rfl (Z6r b a2 c2 hok k x hx _ _) ?_
 refine bg (fun w hs => ⟨trivial, (lh sc3 rfl (by rw [show 0 + 2 + x.hi.toNat * 1 = 2 + x.hi.toNat by omega]; exact Z0b (by omega))) w hs, (lh sc3 rfl rfl) w hs, (lh sc3 rfl (by rw [show 0 + 2 + x.lo.toNat * 1 = 2 + x.lo.toNat by omega]; exact Z0b (by omega))) w hs, (lh sc3 rfl rfl) w hs, trivial⟩) ?_
 refine sto rfl rfl rfl Z9g rfl rfl rfl rfl ?_
 refine bgT (Zp 3 rfl (Z3 (sqt 19 rfl (sp rfl (PE.fA Z0k rfl) rfl (spL rfl rfl (lh sc3 rfl rfl) rfl (pur 2 rfl ?_))))))
 refine Zh 101 rfl ?_ ?_ <;> intro g101
 try simp only [cS] at g101
 have h3 : (!(inB lo 0 5) || !(inB hi 0 5)) = true := by simp [inB]; omega
 have ese : Zv b k lo hi = 3 := by unfold Zv; rw [hkn, h3]; rfl
 refine pur 15 rfl ?_
 refine Zq rfl ?_
 refine sqr 1 rfl (pur 1 rfl ?_)
 refine Z4b ?_
 exact ZR ⟨(zbarn, none, 0), .inl ⟨by rw [ese]; decide, rfl, rfl⟩⟩ (by dsimp only; rw [ese, hkn, hbx]; exact (by repeat' first | exact Sub.nil | apply Sub.cons | rfl | (simp [lk]; omega))) (fun w h => by dsimp only; rw [hkn, hbx]; exact St.noRows (h.del b16))
 try simp only [cS] at g101
 refine spG rfl rfl rfl rfl (PE.fA Z0e rfl) rfl ?_
 refine Z0o rfl rfl rfl rfl rfl (lh sc3 rfl rfl) rfl (pur 3 rfl ?_)
 refine Zh 106 rfl ?_ ?_ <;> intro g106
 try simp only [cS] at g106
 have h3 : (!(inB lo 0 5) || !(inB hi 0 5)) = true := by simp [inB]; omega
 have ese : Zv b k lo hi = 3 := by unfold Zv; rw [hkn, h3]; rfl
 refine pur 10 rfl ?_
 refine Zq rfl ?_
 refine sqr 1 rfl (pur 1 rfl ?_)
 refine Z4b ?_
 exact ZR ⟨(zbarn, none, 0), .inl ⟨by rw [ese]; decide, rfl, rfl⟩⟩ (by dsimp only; rw [ese, hkn, hbx]; exact (by repeat' first | exact Sub.nil | apply Sub.cons | rfl | (simp [lk]; omega))) (fun w h => by dsimp only; rw [hkn, hbx]; exact St.noRows (h.del b16))
 try simp only [cS] at g106
 refine spG rfl rfl rfl rfl (PE.fA Z0k rfl) rfl ?_
 refine Z0o rfl rfl rfl rfl rfl (lh sc3 rfl rfl) rfl (pur 3 rfl ?_)
 refine Zh 111 rfl ?_ ?_ <;> intro g111
 try simp only [cS] at g111
 have h3 : (!(inB lo 0 5) || !(inB hi 0 5)) = true := by simp [inB]; omega
 have ese : Zv b k lo hi = 3 := by unfold Zv; rw [hkn, h3]; rfl
 refine pur 5 rfl ?_
 refine Zq rfl ?_
 refine sqr 1 rfl (pur 1 rfl ?_)
 refine Z4b ?_
 exact ZR ⟨(zbarn, none, 0), .inl ⟨by rw [ese]; decide, rfl, rfl⟩⟩ (by dsimp only; rw [ese, hkn, hbx]; exact (by repeat' first | exact Sub.nil | apply Sub.cons | rfl | (simp [lk]; omega))) (fun w h => by dsimp only; rw [hkn, hbx]; exact St.noRows (h.del b16))
 try simp only [cS] at g111
 refine spG rfl rfl rfl rfl (PE.fA Z0e rfl) rfl ?_
 refine Z0o rfl rfl rfl rfl rfl (lh sc3 rfl rfl) rfl (pur 3 rfl ?_)
 refine Z2 rfl ?_ ?_ <;> intro hc4 <;> try simp only [cS] at hc4
 have h3 : (!(inB lo 0 5) || !(inB hi 0 5)) = true := by simp [inB]; omega
 have ese : Zv b k lo hi = 3 := by unfold Zv; rw [hkn, h3]; rfl
 refine sqr 1 rfl (pur 1 rfl ?_)
 refine Z4b ?_
 exact ZR ⟨(zbarn, none, 0), .inl ⟨by rw [ese]; decide, rfl, rfl⟩⟩ (by dsimp only; rw [ese, hkn, hbx]; exact (by repeat' first | exact Sub.nil | apply Sub.cons | rfl | (simp [lk]; omega))) (fun w h => by dsimp only; rw [hkn, hbx]; exact St.noRows (h.del b16))
 have h3 : (!(inB lo 0 5) || !(inB hi 0 5)) = false := by simp [inB]; omega
 refine sqt 6 rfl (sp rfl (PE.fA Z0k rfl) rfl (spL rfl rfl (lh sc3 rfl rfl) rfl (sp rfl (PE.fA Z0e rfl) rfl (spL rfl rfl (lh sc3 rfl rfl) rfl (pur 2 rfl ?_)))))
 refine Z2 rfl ?_ ?_ <;> intro hc5 <;> try simp only [cS] at hc5
 have ese : Zv b k lo hi = 4 := by unfold Zv; rw [hkn, h3, dT hc5]; rfl
 refine sqr 1 rfl (pur 1 rfl ?_)
 refine Z4b ?_
 exact ZR ⟨(zbarn, none, 0), .inl ⟨by rw [ese]; decide, rfl, rfl⟩⟩ (by dsimp only; rw [ese, hkn, hbx]; exact (by repeat' first | exact Sub.nil | apply Sub.cons | rfl | (simp [lk]; omega))) (fun w h => by dsimp only; rw [hkn, hbx]; exact St.noRows (h.del b16))
 have h4 : decide (hi < lo) = false := dF (by omega)
 refine sqt 14 rfl (sp rfl (PE.fA Z0k rfl) rfl (spL rfl rfl (lh sc3 rfl rfl) rfl (sp rfl (PE.fA Z0I rfl) rfl (sp rfl (PE.fA Z0k rfl) rfl (spL rfl rfl (lh sc3 rfl rfl) rfl (sp rfl (PE.max rfl rfl) rfl (sp rfl (PE.fA Z0e rfl) rfl (spL rfl rfl (lh sc3 rfl rfl) rfl (sp rfl (PE.fA Z0I rfl) rfl (sp rfl (PE.fA Z0e rfl) rfl (spL rfl rfl (lh sc3 rfl rfl) rfl (sp rfl (PE.min rfl rfl) rfl (pur 2 rfl ?_)))))))))))))
 refine Z2 rfl ?_ ?_ <;> intro hc6 <;> try simp only [cS] at hc6
 have ese : Zv b k lo hi = 7 := by unfold Zv; rw [hkn, h3, h4, hbx, dT (show min hi x.hi < max lo x.lo from hc6)]; rfl
 refine sqr 1 rfl (pur 1 rfl ?_)
 refine Z4b ?_
 exact ZR ⟨(zbarn, none, 0), .inl ⟨by rw [ese]; decide, rfl, rfl⟩⟩ (by dsimp only; rw [ese, hkn, hbx]; exact (by repeat' first | exact Sub.nil | apply Sub.cons | rfl | (simp [lk]; omega))) (fun w h => by dsimp only; rw [hkn, hbx]; exact St.noRows (h.del b16))
 have ese : Zv b k lo hi = 0 := by unfold Zv; rw [hkn, h3, h4, hbx, dF (show ¬ (min hi x.hi < max lo x.lo) from Int.not_lt.2 hc6)]; rfl
 refine sqt 4 rfl (spL rfl rfl (lhA (btl b (b.sl (some ⟨ba, oa, none⟩) cb)) ZD rfl rfl rfl) rfl ?_)
 refine cl rfl Z6T rfl rfl (ZdX b (some ⟨ba, oa, none⟩) cb (by omega) _ _) ?_
 rintro _ _ _ ⟨bo, cap, junk, rfl, rfl, rfl⟩
 refine sto rfl rfl rfl Z03 rfl rfl rfl rfl ?_
 refine pur 1 rfl (sqr 19 rfl (sp rfl (PE.fA ZE rfl) rfl (spL rfl rfl (lh Z0C rfl rfl) rfl (pur 1 rfl (sp rfl (PE.fA Z0k rfl) rfl (spL rfl rfl (lh sc3 rfl rfl) rfl (sp rfl (PE.fA Z0I rfl) rfl (sp rfl (PE.fA Z0k rfl) rfl (spL rfl rfl (lh sc3 rfl rfl) rfl (sp rfl (PE.max rfl rfl) rfl (sp rfl (PE.fA Z0e rfl) rfl (spL rfl rfl (lh sc3 rfl rfl) rfl (sp rfl (PE.fA Z0I rfl) rfl (sp rfl (PE.fA Z0e rfl) rfl (spL rfl rfl (lh sc3 rfl rfl) rfl ?_)))))))))))))))
 refine sp rfl (PE.min rfl rfl) rfl (sp rfl (PE.build (out := [_, _]) Z4r Z2C rfl rfl) rfl (sp rfl (PE.indexAddr Z3s rfl rfl (by omega) (by omega)) rfl (sp rfl (PE.fA Z0I rfl) rfl ?_)))
 refine Z1b (l' := (Z7 (Z0Q b k lo hi)).flatten ++ junk) rfl rfl rfl Z9g rfl rfl rfl ((Z8H (by rw [Z11]; show 0 + ((k : Nat) : Int).toNat * 4 + 2 + 2 ≤ _; omega)).trans (congrArg (· ++ junk) ((Z5S hx (max lo x.lo) (min hi x.hi) (by show 0 + ((k : Nat) : Int).toNat * 4 + 2 = _; omega)).trans (by unfold Z0Q; rw [hbx]; rfl)))) (by rw [List.length_append, Z11]; show 0 + ((k : Nat) : Int).toNat * 4 + 2 + 2 ≤ _; omega) ?_
 have hbl : (b.withB (Z0Q b k lo hi)).sl (some ⟨bo, 0, none⟩) cap = b.sl (some ⟨bo, 0, none⟩) cap := by unfold Barn.sl Barn.withB Z0Q; dsimp only; rw [List.length_set]
 refine Z4b ?_
 exact ZR ⟨(b.withB (Z0Q b k lo hi), some ⟨bo, 0, none⟩, cap), .inr ⟨ese, rfl⟩⟩ (by dsimp only; rw [ese, hkn, hbx]; exact (by repeat' first | exact Sub.nil | apply Sub.cons | rfl | (simp [lk]; omega))) (fun w h => by dsimp only; rw [hkn, hbx, hbl]; exact St.binRows (l := Z0Q b k lo hi) (junk := junk) ((h.del b16).pull bo))
 have hck : b.check = 0 := of_decide_eq_true hc2
 have hnb : inB n 0 ((b.bins.length : Int) - 1) = false := by simp [inB]; omega
 have hkn : b.known n = 1 := by unfold Barn.known; rw [dT hck, hnb]; rfl
 have hkz : decide ((1 : Int) = 0) = false := rfl
 have ese : Zv b n lo hi = 1 := by unfold Zv; rw [hkn]; rfl
 refine Z1 ?_
 exact ZR ⟨(zbarn, none, 0), .inl ⟨by rw [ese]; decide, rfl, rfl⟩⟩ (by dsimp only; rw [ese, hkn, hkz]; exact (by repeat' first | exact Sub.nil | apply Sub.cons | rfl | (simp [lk]; omega))) (fun w h => by dsimp only; rw [hkn, hkz]; exact St.noRows h)
 try simp only [cS] at g44
 have hck : b.check = 0 := of_decide_eq_true hc2
 have hnb : inB n 0 ((b.bins.length : Int) - 1) = false := by simp [inB]; omega
 have hkn : b.known n = 1 := by unfold Barn.known; rw [dT hck, hnb]; rfl
 have hkz : decide ((1 : Int) = 0) = false := rfl
 have ese : Zv b n lo hi = 1 := by unfold Zv; rw [hkn]; rfl
 refine pur 6 rfl ?_
 refine ZG rfl ?_
 refine Z1 ?_
 exact ZR ⟨(zbarn, none, 0), .inl ⟨by rw [ese]; decide, rfl, rfl⟩⟩ (by dsimp only; rw [ese, hkn, hkz]; exact (by repeat' first | exact Sub.nil | apply Sub.cons | rfl | (simp [lk]; omega))) (fun w h => by dsimp only; rw [hkn, hkz]; exact St.noRows h)
 try simp only [cS] at hc2
 have hkn : b.known n = b.check := by unfold Barn.known; rw [dF hc2]; rfl
 have hkz : decide (b.check = 0) = false := dF hc2
 have ese : Zv b n lo hi = b.check := by unfold Zv; rw [hkn, hkz]; rfl
 refine Z1 ?_
 exact ZR ⟨(zbarn, none, 0), .inl ⟨by rw [ese]; exact hc2, rfl, rfl⟩⟩ (by dsimp only; rw [ese, hkn, hkz]; exact (by repeat' first | exact Sub.nil | apply Sub.cons | rfl | (simp [lk]; omega))) (fun w h => by dsimp only; rw [hkn, hkz]; exact St.noRows h)
 rintro ⟨⟨wb, aw, cw⟩, hq⟩
 dsimp only at hq ⊢
 refine sqt 9 rfl (spL rfl rfl (lhA (btl b (b.sl a1 c1)) ZD rfl rfl rfl) rfl (pur 1 rfl ?_))
 refine cl rfl Zht rfl rfl (ZeB b a1 c1 hl hr n _ _) ?_
 rintro _ _ _ ⟨rfl, rfl, rfl⟩
 rw [show (bif decide (b.known n = 0) then spv (b.least (Z0V b n)) (b.worst (Z0V b n)) else spv 0 0) = spv (bif decide (b.known n = 0) then b.least (Z0V b n) else 0) (bif decide (b.known n = 0) then b.worst (Z0V b n) else 0) by cases decide (b.known n = 0) <;> rfl]
 refine pur 3 rfl (alc rfl Z2C rfl (fun b17 => ?_))
 refine sto rfl rfl rfl Z9g rfl rfl rfl rfl ?_
 refine pur 1 rfl (sqt 8 rfl (spL rfl rfl (lhA (btl b (b.sl a1 c1)) ZD rfl rfl rfl) rfl (pur 1 rfl ?_)))
 refine clV rfl Zh2 rfl rfl (ZfE b a1 c1 hl hr n _ _) ?_
 refine pur 5 rfl (sqt 8 rfl (spL rfl rfl (lhA (btl b (b.sl a1 c1)) ZD rfl rfl rfl) rfl (pur 1 rfl ?_)))
 refine clV rfl Zhb rfl rfl (ZdQ b a1 c1 hl hr n _ _) ?_
 refine pur 5 rfl (sqt 10 rfl (spL rfl rfl (lhA (btl b (b.sl a1 c1)) ZD rfl rfl rfl) rfl (pur 1 rfl (spL rfl rfl (lhA [_, _] Z7O rfl rfl rfl) rfl ?_))))
 refine cl rfl Zh1 rfl rfl (ZbQ b a1 c1 hl hr n lo hi _ _) ?_
 rintro _ _ _ ⟨rfl, ⟨hne, rfl, rfl⟩ | ⟨he0, bo, rfl, rfl⟩⟩
 refine pur 3 rfl (alc rfl Z0w rfl (fun b23 => ?_))
 refine sto rfl rfl rfl Z03 rfl rfl rfl rfl ?_
 refine pur 1 rfl (Z0 (sqt 39 rfl ?_))
 obtain ⟨rfl, rfl, rfl⟩ : wb = zbarn ∧ aw = none ∧ cw = 0 := by
   rcases hq with ⟨_, h1, h2⟩ | ⟨h0, _⟩
   · cases h2; exact ⟨h1, rfl, rfl⟩
   · exact absurd h0 hne
 refine pur 4 rfl ?_
 refine Zh 164 rfl ?_ ?_ <;> intro g164
 exact absurd g164 (by simp)
 refine pur 5 rfl ?_
 refine Zh 169 rfl ?_ ?_ <;> intro g169
 exact absurd g169 (by simp)
 refine pur 5 rfl ?_
 refine Zh 174 rfl ?_ ?_ <;> intro g174
 exact absurd g174 (by simp)
 refine pur 5 rfl ?_
 refine Zh 179 rfl ?_ ?_ <;> intro g179
 exact absurd g179 (by simp)
 refine Z0o rfl rfl rfl rfl rfl (lhA [_, _] Z7O rfl rfl rfl) rfl (Z0o rfl rfl rfl rfl rfl (lhA [_, _] Z7O rfl rfl rfl) rfl ?_)
 refine spG rfl rfl rfl rfl (PE.neqAgg [bif decide (b.known n = 0) then b.least (Z0V b n) else 0, bif decide (b.known n = 0) then b.worst (Z0V b n) else 0] [bif decide (b.known n = 0) then b.least (Z0V b n) else 0, bif decide (b.known n = 0) then b.worst (Z0V b n) else 0] (Z1X 10000 31 true 2 ZeV) ZeM rfl rfl rfl rfl) rfl ?_
 refine pur 2 rfl ?_
 refine Zh 184 rfl ?_ ?_ <;> intro g184
 exact absurd g184 (by simp)
 refine pur 5 rfl ?_
 refine Zh 189 rfl ?_ ?_ <;> intro g189
 exact absurd g189 (by simp)
 refine pur 5 rfl ?_
 refine Zh 194 rfl ?_ ?_ <;> intro g194
 exact absurd g194 (by simp)
 refine Z0o rfl rfl rfl rfl rfl (lhA (btl zbarn (.slice none 0 0)) ZD rfl rfl rfl) rfl (Z0o rfl rfl rfl rfl rfl (lhA (btl zbarn (.slice none 0 0)) ZD rfl rfl rfl) rfl ?_)
 refine Z0K rfl rfl rfl rfl Z1J rfl rfl (Z0S zbarn none 0 zbarn none 0 (by decide) (by decide) rfl rfl _ _) ?_
 refine pur 2 rfl ?_
 refine Z2 rfl ?_ ?_ <;> intro hc7
 rw [sameB_iff.2 rfl] at hc7; exact absurd hc7 (by decide)
 refine Z1 (sqt 3 rfl (sp rfl (PE.fA ZE rfl) rfl (spL rfl rfl (lh Z0C rfl rfl) rfl ?_)))
 refine Zhe rfl rfl Z9Q rfl ?_
 refine sqt 7 rfl (spL rfl rfl (lhA (btl b (b.sl a1 c1)) ZD rfl rfl rfl) rfl (spL rfl rfl (lhA (btl b (b.sl ab cb)) ZD rfl rfl rfl) rfl ?_))
 refine clV rfl Z1J rfl rfl (Z0S b a1 c1 b ab cb hl hl hr hr _ _) ?_
 refine pur 1 rfl ?_
 refine Zh 205 rfl ?_ ?_ <;> intro g205
 refine Z0K rfl rfl rfl rfl Z1d rfl rfl (Z02 _ _) ?_
 refine pur 2 rfl (Z4 ?_)
 exact rtA rfl rfl rfl ⟨rfl, rfl, rfl⟩ (fun w h => (((((((((h.del b23).del b17).del b15).del b12).del b8).del b7).del b5).del b3).ftail.ftail.ftail))
 rw [sameB_iff.2 rfl] at g205; exact absurd g205 (by decide)
 refine Sy.heap (H' := (bo, cel 40 ((Z7 (Z0Q b n lo hi)).flatten ++ [])) :: _) (fun w h => by rw [List.append_nil]; exact h) ?_
 refine pur 3 rfl (alc rfl Z0w rfl (fun b23 => ?_))
 refine sto rfl rfl rfl Z03 rfl rfl rfl rfl ?_
 refine pur 1 rfl (Z0 (sqt 39 rfl ?_))
 have hls : (b.withB (Z0Q b n lo hi)).bins.length ≤ 9223372036854775807 := by unfold Barn.withB Z0Q; dsimp only; rw [List.length_set]; exact hl
 obtain rfl : wb = b.withB (Z0Q b n lo hi) := by
   rcases hq with ⟨h1, _⟩ | ⟨_, h2⟩
   · exact absurd he0 h1
   · exact h2
 refine pur 4 rfl ?_
 refine Zh 164 rfl ?_ ?_ <;> intro g164
 exact absurd g164 (by simp)
 refine pur 5 rfl ?_
 refine Zh 169 rfl ?_ ?_ <;> intro g169
 exact absurd g169 (by simp)
 refine pur 5 rfl ?_
 refine Zh 174 rfl ?_ ?_ <;> intro g174
 exact absurd g174 (by simp)
 refine pur 5 rfl ?_
 refine Zh 179 rfl ?_ ?_ <;> intro g179
 exact absurd g179 (by rw [he0]; simp)
 refine Z0o rfl rfl rfl rfl rfl (lhA [_, _] Z7O rfl rfl rfl) rfl (Z0o rfl rfl rfl rfl rfl (lhA [_, _] Z7O rfl rfl rfl) rfl ?_)
 refine spG rfl rfl rfl rfl (PE.neqAgg [bif decide (b.known n = 0) then b.least (Z0V b n) else 0, bif decide (b.known n = 0) then b.worst (Z0V b n) else 0] [bif decide (b.known n = 0) then b.least (Z0V b n) else 0, bif decide (b.known n = 0) then b.worst (Z0V b n) else 0] (Z1X 10000 31 true 2 ZeV) ZeM rfl rfl rfl rfl) rfl ?_
 refine pur 2 rfl ?_
 refine Zh 184 rfl ?_ ?_ <;> intro g184
 exact absurd g184 (by simp)
 refine pur 5 rfl ?_
 refine Zh 189 rfl ?_ ?_ <;> intro g189
 exact absurd g189 (by simp)
 refine pur 5 rfl ?_
 refine Zh 194 rfl ?_ ?_ <;> intro g194
 exact absurd g194 (by simp)
 refine Z0o rfl rfl rfl rfl rfl (lhA (btl (b.withB (Z0Q b n lo hi)) ((b.withB (Z0Q b n lo hi)).sl (some ⟨bo, 0, none⟩) b.bins.length)) ZD rfl rfl rfl) rfl (Z0o rfl rfl rfl rfl rfl (lhA (btl (b.withB (Z0Q b n lo hi)) ((b.withB (Z0Q b n lo hi)).sl aw cw)) ZD rfl rfl rfl) rfl ?_)
 refine Z0K rfl rfl rfl rfl Z1J rfl rfl (FnV.lend (b := bo) (e := 40) (sz := 4) (rows := Z7 (Z0Q b n lo hi)) (junk := []) Z4u (fun B => Z0S (b.withB (Z0Q b n lo hi)) (some ⟨bo, 0, none⟩) b.bins.length (b.withB (Z0Q b n lo hi)) aw cw hls hls hr hr _ _)) ?_
 refine pur 2 rfl ?_
 refine Z2 rfl ?_ ?_ <;> intro hc7
 rw [sameB_iff.2 rfl] at hc7; exact absurd hc7 (by decide)
 refine Z1 (sqt 3 rfl (sp rfl (PE.fA ZE rfl) rfl (spL rfl rfl (lh Z0C rfl rfl) rfl ?_)))
 refine Zh5 rfl rfl Z9Q Z4M rfl rfl rfl (by rw [List.append_nil, Z11]; unfold Z0Q Barn.withB; dsimp only; rw [List.length_set]; exact Nat.le_refl _) ?_
 refine sqt 7 rfl (spL rfl rfl (lhA (btl b (b.sl a1 c1)) ZD rfl rfl rfl) rfl (spL rfl rfl (lhA (btl b (b.sl ab cb)) ZD rfl rfl rfl) rfl ?_))
 refine clV rfl Z1J rfl rfl (Z0S b a1 c1 b ab cb hl hl hr hr _ _) ?_
 refine pur 1 rfl ?_
 refine Zh 205 rfl ?_ ?_ <;> intro g205
 refine Z0K rfl rfl rfl rfl Z1d rfl rfl (Z02 _ _) ?_
 refine pur 2 rfl (Z4 ?_)
 exact rtA rfl rfl rfl ⟨rfl, rfl, rfl⟩ (fun w h => ((((((((((h.del bo).del b23).del b17).del b15).del b12).del b8).del b7).del b5).del b3).ftail.ftail.ftail))
 rw [sameB_iff.2 rfl] at g205; exact absurd g205 (by decide)
def Z4f (p : List (List Int)) : Bool := decide (24 < p.length) || p.any fun l => decide (8 < l.length)
theorem Z4q {p : List (List Int)} (h : Z4f p = false) : p.length ≤ 24 ∧ ∀ l ∈ p, l.length ≤ 8 := by
  unfold Z4f at h
  rw [Bool.or_eq_false_iff, decide_eq_false_iff_not, List.any_eq_false] at h
  exact ⟨by omega, fun l hl => by have := h.2 l hl; simp at this; omega⟩
theorem ZbI {pl : List PL} {k : Nat} {x : PL} (hx : pl[k]? = some x) (h : 8 < x.l.length) : Z4f (lls pl) = true := by
  unfold Z4f
  rw [Bool.or_eq_true, List.any_eq_true]
  exact .inr ⟨x.l, List.mem_map.2 ⟨x, List.mem_of_getElem? hx, rfl⟩, decide_eq_true h⟩
theorem Z9P {pl : List PL} (h1 : ¬ 24 < pl.length) (h : ∀ (i : Nat) (x : PL), pl[i]? = some x → ¬ 8 < x.l.length) : Z4f (lls pl) = false := by
  unfold Z4f
  rw [Zo, decide_eq_false h1, Bool.false_or, List.any_eq_false]
  intro l hl
  obtain ⟨x, hx, rfl⟩ := List.mem_map.1 hl
  obtain ⟨i, hi, rfl⟩ := List.mem_iff_getElem.1 hx
  simpa using h i _ (List.getElem?_eq_getElem hi)
theorem Z9t (pl : List PL) (ap : Option Addr) (cp : Nat) (hpl : pl.length ≤ 9223372036854775807) (hpi : ∀ x ∈ pl, x.l.length ≤ 9223372036854775807) (H : Zg) (R : Z6) [hP : MemRows ap 1 (Z9 pl) R] [hI : MemF (Inn pl) R] :
    FnV Tryz.prog 28 [.slice ap pl.length cp] H R (.bool (Z4f (lls pl))) := by
 refine Zy Tryz.func28 rfl Tryz.ntmps28 rfl ?_
 refine sqt 1 rfl (pur 1 rfl (Z0 (sqt 3 rfl (pur 1 rfl (sp rfl (PE.lenSl Z0E rfl) rfl (pur 1 rfl ?_))))))
 refine Z2 rfl ?_ ?_ <;> intro hc0 <;> try simp only [cS] at hc0
 have hlg : Z4f (lls pl) = true := by unfold Z4f; rw [Zo, dT (by omega)]; rfl
 refine sqt 1 rfl (pur 1 rfl (Z4 ?_))
 exact rtA rfl rfl rfl ⟨by rw [hlg]; rfl, rfl, rfl⟩ idH
 refine Z1 (Z0 (sqt 3 rfl (pur 1 rfl (sp rfl (PE.lenSl Z0E rfl) rfl (pur 1 rfl (Z3 ?_))))))
 refine Zj (ι := {k : Nat // k ≤ pl.length ∧ ∀ i x, i < k → pl[i]? = some x → ¬ 8 < x.l.length}) (fun k => ⟨[(8, .slice ap pl.length cp), (9, .int .i64 pl.length), (10, .int .i64 k.1)], H, R⟩) (fun k => pl.length - k.1) ⟨0, Nat.zero_le _, fun i x hi => by omega⟩ ?_ (fun k => ?_)
 exact Zr idH
 obtain ⟨k, hk, hin⟩ := k
 dsimp only at hk hin ⊢
 refine sqt 1 rfl (pur 1 rfl (Z0 ?_))
 refine Z2 rfl ?_ ?_ <;> intro hc1 <;> try simp only [cS] at hc1
 obtain ⟨x, hx⟩ : ∃ x, pl[k]? = some x := ⟨_, List.getElem?_eq_getElem (by omega)⟩
 refine Zl (a := ap) (sz := 1) (rows := Z9 pl) (ne0 (by rw [Zt]; omega)) (fun ba oa he => ?_)
 subst he
 refine Z1 (Z0 (Z3 (sqt 3 rfl (sp rfl (PE.indexAddr Z4l rfl rfl (by omega) (by omega)) rfl (spL rfl rfl (lf0 Z2g (Z14 hx) rfl) rfl (pur 1 rfl (sqt 3 rfl (pur 1 rfl (sp rfl (PE.lenSl Z0n rfl) rfl (pur 1 rfl ?_))))))))))
 refine Z2 rfl ?_ ?_ <;> intro hc2 <;> try simp only [cS] at hc2
 have hlg := ZbI hx (by omega)
 refine sqt 1 rfl (pur 1 rfl (Z4 ?_))
 exact rtA rfl rfl rfl ⟨by rw [hlg]; rfl, rfl, rfl⟩ idH
 refine Z1 (sqr 2 rfl (sp rfl (PE.add rfl rfl (by omega)) rfl (pur 1 rfl ?_)))
 exact ZW ⟨k + 1, by omega, fun i y hi hy => by
   rcases Nat.lt_or_ge i k with h3 | h3
   · exact hin i y h3 hy
   · obtain rfl : i = k := by omega
     rw [hx] at hy; cases hy; omega⟩ (by dsimp only; omega) (by repeat' first | exact Sub.nil | apply Sub.cons | rfl | (simp [lk]; omega)) idH
 obtain rfl : k = pl.length := by omega
 have hlg := Z9P (pl := pl) (by omega) (fun i y hy => hin i y (List.getElem?_eq_some_iff.1 hy).1 hy)
 refine Zb (Zf (Zf (ZB (sqt 1 rfl (pur 1 rfl (Z4 ?_))))))
 exact rtA rfl rfl rfl ⟨by rw [hlg]; rfl, rfl, rfl⟩ idH
theorem ZgE (xs : List Int) (a : Option Addr) (c : Nat) (v : Int) (hl : xs.length ≤ 9223372036854775807) (H : Zg) (R : Z6) [hR : MemRows a 1 (Zm xs) R] :
    FnV Tryz.prog 105 [.slice a xs.length c, .int .i64 v] H R (.bool (xs.any fun x => decide (x = v))) := by
 refine Zy Tryz.func105 rfl Tryz.ntmps105 rfl ?_
 refine sqt 1 rfl (pur 1 rfl (Z0 (sqt 1 rfl (pur 1 rfl (Z3 ?_)))))
 refine Zj (ι := {k : Nat // k ≤ xs.length ∧ ∀ i y, i < k → xs[i]? = some y → y ≠ v}) (fun k => ⟨[(0, .slice a xs.length c), (1, .int .i64 v), (5, .int .i64 k.1)], H, R⟩) (fun k => xs.length - k.1) ⟨0, Nat.zero_le _, fun i y hi => by omega⟩ ?_ (fun k => ?_)
 exact Zr idH
 obtain ⟨k, hk, hin⟩ := k
 dsimp only at hk hin ⊢
 refine Z0 (sqt 4 rfl (pur 2 rfl (sp rfl (PE.lenSl Z0n rfl) rfl (pur 1 rfl ?_))))
 refine Z2 rfl ?_ ?_ <;> intro hc0 <;> try simp only [cS] at hc0
 obtain ⟨x, hx⟩ : ∃ x, xs[k]? = some x := ⟨_, List.getElem?_eq_getElem (by omega)⟩
 refine Zl (a := a) (sz := 1) (rows := Zm xs) (ne0 (by rw [Zd]; omega)) (fun ba oa he => ?_)
 subst he
 refine Z1 (Z0 (Z3 (sqt 6 rfl (pur 2 rfl (sp rfl (PE.indexAddr Z28 rfl rfl (by omega) (by omega)) rfl (spL rfl rfl (lf0 sc3 (Z0v hx) rfl) rfl (pur 2 rfl ?_)))))))
 refine Z2 rfl ?_ ?_ <;> intro hc1 <;> try simp only [cS] at hc1
 have hbn : (xs.any fun x => decide (x = v)) = true := List.any_eq_true.2 ⟨x, List.mem_of_getElem? hx, dT hc1⟩
 refine sqt 1 rfl (pur 1 rfl (Z4 ?_))
 exact rtA rfl rfl rfl ⟨by rw [hbn]; rfl, rfl, rfl⟩ idH
 refine Z1 (sqr 3 rfl (pur 1 rfl (sp rfl (PE.add rfl rfl (by omega)) rfl (pur 1 rfl ?_))))
 exact ZW ⟨k + 1, by omega, fun i y hi hy => by
   rcases Nat.lt_or_ge i k with h3 | h3
   · exact hin i y h3 hy
   · obtain rfl : i = k := by omega
     rw [hx] at hy; cases hy; exact hc1⟩ (by dsimp only; omega) (by repeat' first | exact Sub.nil | apply Sub.cons | rfl | (simp [lk]; omega)) idH
 obtain rfl : k = xs.length := by omega
 have hbn : (xs.any fun x => decide (x = v)) = false := by
   rw [List.any_eq_false]; intro y hy
   obtain ⟨i, hi, rfl⟩ := List.mem_iff_getElem.1 hy
   simpa using hin i _ hi (List.getElem?_eq_getElem hi)
 refine Zb (Zf (Zf (ZB (sqt 1 rfl (pur 1 rfl (Z4 ?_))))))
 exact rtA rfl rfl rfl ⟨by rw [hbn]; rfl, rfl, rfl⟩ idH
theorem Z1z (b : Barn) (ab : Option Addr) (cb : Nat) (hl : b.bins.length ≤ 9223372036854775807) (pl : List PL) (ap : Option Addr) (cp : Nat) (hpl : pl.length ≤ 9223372036854775807) (hpi : ∀ x ∈ pl, x.l.length ≤ 9223372036854775807) (H : Zg) (R : Z6) [hP : MemRows ap 1 (Z9 pl) R] [hI : MemF (Inn pl) R] :
    FnV Tryz.prog 34 [b.v (b.sl ab cb), .slice ap pl.length cp] H R (.int .i64 (ZX ((b.bins.length : Int)) b.gangs (lls pl))) := by
 refine Zy Tryz.func34 rfl Tryz.ntmps34 rfl ?_
 refine sqt 2 rfl (bx rfl rfl rfl (fun b2 => pur 1 rfl (Z0 (sqt 3 rfl (pur 1 rfl (sp rfl (PE.lenSl Z0E rfl) rfl (pur 1 rfl ?_)))))))
 refine Z2 rfl ?_ ?_ <;> intro hc0 <;> try simp only [cS] at hc0
 have e : ZX ((b.bins.length : Int)) b.gangs (lls pl) = 2 := by unfold ZX; rw [Zo, dT (by omega)]; rfl
 refine sqt 1 rfl (pur 1 rfl (Z4 ?_))
 exact rtA rfl rfl rfl ⟨by first | (rw [e, e2]; rfl) | (rw [e]; rfl), rfl, rfl⟩ (fun w h => by first | exact St.sub (h.del b2) | skip)
 have e : ZX ((b.bins.length : Int)) b.gangs (lls pl) = Z0q ((b.bins.length : Int)) b.gangs (lls pl) := by unfold ZX; rw [Zo, dF (by omega)]; rfl
 refine Z1 (Z0 (sqt 1 rfl (pur 1 rfl (Z3 ?_))))
 refine Zj (ι := {k : Nat // k ≤ pl.length ∧ Z0q ((b.bins.length : Int)) b.gangs (lls pl) = Z0q ((b.bins.length : Int)) b.gangs ((lls pl).drop k)}) (fun k => ⟨[(1, .slice ap pl.length cp), (2, .pointer (some ⟨b2, 0, none⟩)), (5, .int .i64 k.1)], (b2, cel 84 (btl b (b.sl ab cb))) :: H, R⟩) (fun k => pl.length - k.1) ⟨0, Nat.zero_le _, rfl⟩ ?_ (fun k => ?_)
 exact Zr idH
 obtain ⟨k, hk, hke⟩ := k
 dsimp only at hk hke ⊢
 refine Z0 (sqt 4 rfl (pur 2 rfl (sp rfl (PE.lenSl Z0E rfl) rfl (pur 1 rfl ?_))))
 refine Z2 rfl ?_ ?_ <;> intro hc1 <;> try simp only [cS] at hc1
 obtain ⟨x, hx⟩ : ∃ x, pl[k]? = some x := ⟨_, List.getElem?_eq_getElem (by omega)⟩
 have hxm := List.mem_of_getElem? hx
 have hxl := hpi x hxm
 rw [Z41 (Z0a hx)] at hke
 refine Zl (a := ap) (sz := 1) (rows := Z9 pl) (ne0 (by rw [Zt]; omega)) (fun ba oa he => ?_)
 subst he
 refine Sy.heap (fun w h => St.inn (x := x) h hxm) ?_
 refine Z1 (Z0 (Z3 (Z0 (sqt 1 rfl (pur 1 rfl (Z3 ?_))))))
 refine Zj (ι := {i : Nat // i ≤ x.l.length ∧ ∀ j u, j < i → x.l[j]? = some u → inB u 0 (((b.bins.length : Int)) - 1) = true}) (fun i => ⟨[(1, .slice (some ⟨ba, oa, none⟩) pl.length cp), (2, .pointer (some ⟨b2, 0, none⟩)), (5, .int .i64 k), (6, .int .i64 i.1)], (b2, cel 84 (btl b (b.sl ab cb))) :: H, Z5 x.a 1 (Zm x.l) :: R⟩) (fun i => x.l.length - i.1) ⟨0, Nat.zero_le _, fun j u hj => by omega⟩ ?_ (fun i => ?_)
 exact Zr idH
 obtain ⟨i, hi, his⟩ := i
 dsimp only at hi his ⊢
 refine Z0 (sqt 7 rfl (pur 3 rfl (sp rfl (PE.indexAddr Z4l rfl rfl (by omega) (by omega)) rfl (spL rfl rfl (lf0 Z2g (Z14 hx) rfl) rfl (sp rfl (PE.lenSl Z0n rfl) rfl (pur 1 rfl ?_))))))
 refine Z2 rfl ?_ ?_ <;> intro hc2 <;> try simp only [cS] at hc2
 obtain ⟨u, hu⟩ : ∃ u, x.l[i]? = some u := ⟨_, List.getElem?_eq_getElem (by omega)⟩
 refine Zl (a := x.a) (sz := 1) (rows := Zm x.l) (ne0 (by rw [Zd]; omega)) (fun bx ox he => ?_)
 rw [he]
 refine Z1 (Z0 (Z3 (Z0 ?_)))
 refine Zi [0, 0, 3, 7, 0, 31, 63, 0, 128, 384, 896, 2047] (tks 0 3 (.ld 3 (.tk 4 (.tk 5 (.ld 6 (.tk 7 (.ld 8 (.tk 9 (.tk 10 (.big 11 .done)))))))))) ZH (by kernel_rfl) ?_
 refine Zp 2 rfl (tk rfl (PE.indexAddr Z4l rfl rfl (by omega) (by omega)) rfl ?_)
 refine ld rfl rfl (lf0 (row := [.slice (some ⟨bx, ox, none⟩) x.l.length x.c]) Z2g (by refine (Z14 hx).trans ?_; unfold Z4L; rw [he]) rfl) rfl ?_
 refine Zp 1 rfl (tk rfl (PE.indexAddr Z28 rfl rfl (by omega) (by omega)) rfl (ld rfl rfl (lf0 sc3 (Z0v hu) rfl) rfl (tk rfl (PE.fA Z0J rfl) rfl (ld rfl rfl (lh Z4C rfl rfl) rfl (tk rfl (PE.lenSl Z5i rfl) rfl (tk rfl (PE.sub rfl rfl (by omega)) rfl ?_))))))
 refine clV rfl Z4g rfl rfl (Z49 _ _ _ _ _) ?_
 refine bgT ?_
 refine Z2 rfl ?_ ?_ <;> intro hc3
 have hal : (x.l.all fun k => inB k 0 (((b.bins.length : Int)) - 1)) = false := by rw [List.all_eq_false]; rw [Z1t, Bool.not_eq_true'] at hc3; exact ⟨u, List.mem_of_getElem? hu, by rw [hc3]; decide⟩
 have ed : Z0R ((b.bins.length : Int)) b.gangs x.l = 1 := by unfold Z0R; rw [hal]; rfl
 rw [ed] at hke
 have e2 : Z0q ((b.bins.length : Int)) b.gangs (lls pl) = 1 := hke
 refine sqt 1 rfl (pur 1 rfl (Z4 ?_))
 exact rtA rfl rfl rfl ⟨by first | (rw [e, e2]; rfl) | (rw [e]; rfl), rfl, rfl⟩ (fun w h => by first | exact St.sub (h.del b2) | skip)
 rw [Z1t, Bool.not_eq_false'] at hc3
 refine Z1 (sqr 3 rfl (pur 1 rfl (sp rfl (PE.add rfl rfl (by omega)) rfl (pur 1 rfl ?_))))
 exact ZW ⟨i + 1, by omega, fun j w hj hw => by
   rcases Nat.lt_or_ge j i with h3 | h3
   · exact his j w h3 hw
   · obtain rfl : j = i := by omega
     rw [hu] at hw; cases hw; exact hc3⟩ (by dsimp only; omega) (by repeat' first | exact Sub.nil | apply Sub.cons | rfl | (simp [lk]; omega)) idH
 obtain rfl : i = x.l.length := by omega
 have hal : (x.l.all fun k => inB k 0 (((b.bins.length : Int)) - 1)) = true := by
   rw [List.all_eq_true]; intro y hy
   obtain ⟨j, hj, rfl⟩ := List.mem_iff_getElem.1 hy
   exact his j _ hj (List.getElem?_eq_getElem hj)
 refine Zb (Zf (Zf (ZB (Z0 (sqt 1 rfl (pur 1 rfl (Z3 ?_)))))))
 refine Zj (ι := {i : Nat // 1 ≤ i ∧ i ≤ x.l.length + 1 ∧ ∀ j u v, j + 1 < i → x.l[j]? = some u → x.l[j + 1]? = some v → u < v}) (fun i => ⟨[(1, .slice (some ⟨ba, oa, none⟩) pl.length cp), (2, .pointer (some ⟨b2, 0, none⟩)), (5, .int .i64 k), (7, .int .i64 i.1)], (b2, cel 84 (btl b (b.sl ab cb))) :: H, Z5 x.a 1 (Zm x.l) :: R⟩) (fun i => x.l.length + 1 - i.1) ⟨1, Nat.le_refl _, by omega, fun j u v hj => by omega⟩ ?_ (fun i => ?_)
 exact Zr idH
 obtain ⟨i, hi1, hi2, his2⟩ := i
 dsimp only at hi1 hi2 his2 ⊢
 refine Z0 (sqt 7 rfl (pur 3 rfl (sp rfl (PE.indexAddr Z4l rfl rfl (by omega) (by omega)) rfl (spL rfl rfl (lf0 Z2g (Z14 hx) rfl) rfl (sp rfl (PE.lenSl Z0n rfl) rfl (pur 1 rfl ?_))))))
 refine Z2 rfl ?_ ?_ <;> intro hc4 <;> try simp only [cS] at hc4
 obtain ⟨u, hu⟩ : ∃ u, x.l[i - 1]? = some u := ⟨_, List.getElem?_eq_getElem (by omega)⟩
 obtain ⟨v, hv⟩ : ∃ v, x.l[i]? = some v := ⟨_, List.getElem?_eq_getElem (by omega)⟩
 have hv' : x.l[i - 1 + 1]? = some v := by rw [Nat.sub_add_cancel hi1]; exact hv
 refine Zl (a := x.a) (sz := 1) (rows := Zm x.l) (ne0 (by rw [Zd]; omega)) (fun bx ox he => ?_)
 rw [he]
 refine Z1 (Z0 (Z3 (Z0 ?_)))
 refine Zi [0, 0, 3, 7, 0, 31, 63, 0, 0, 384, 896, 0, 2048, 8064, 16256, 32767] (tks 0 3 (.ld 3 (.tk 4 (.tk 5 (.ld 6 (tks 7 3 (.ld 10 (tks 11 3 (.ld 14 (.tk 15 .done)))))))))) ZH (by kernel_rfl) ?_
 refine Zp 2 rfl (tk rfl (PE.indexAddr Z4l rfl rfl (by omega) (by omega)) rfl ?_)
 refine ld rfl rfl (lf0 (row := [.slice (some ⟨bx, ox, none⟩) x.l.length x.c]) Z2g (by refine (Z14 hx).trans ?_; unfold Z4L; rw [he]) rfl) rfl ?_
 refine Zp 1 rfl (tk rfl (PE.indexAddr Z28 rfl rfl (by omega) (by omega)) rfl (ld rfl rfl (lf0 sc3 (Z0v hv) rfl) rfl (Zp 2 rfl (tk rfl (PE.indexAddr Z4l rfl rfl (by omega) (by omega)) rfl ?_))))
 refine ld rfl rfl (lf0 (row := [.slice (some ⟨bx, ox, none⟩) x.l.length x.c]) Z2g (by refine (Z14 hx).trans ?_; unfold Z4L; rw [he]) rfl) rfl ?_
 refine Zp 1 rfl (tk rfl (PE.sub rfl rfl (by omega)) rfl (tk rfl (PE.indexAddr Z28 rfl rfl (by omega) (by omega)) rfl (ld rfl rfl (lf0 (row := [.int .i64 u]) sc3 (by rw [show ((i : Int) - 1).toNat = i - 1 by omega]; exact Z0v hu) rfl) rfl (Zp 1 rfl ?_))))
 refine Z2 rfl ?_ ?_ <;> intro hc5 <;> try simp only [cS] at hc5
 have ed : Z0R ((b.bins.length : Int)) b.gangs x.l = 4 := by unfold Z0R; rw [hal, Z7Q hu hv' hc5]; rfl
 rw [ed] at hke
 have e2 : Z0q ((b.bins.length : Int)) b.gangs (lls pl) = 4 := hke
 refine sqt 1 rfl (pur 1 rfl (Z4 ?_))
 exact rtA rfl rfl rfl ⟨by first | (rw [e, e2]; rfl) | (rw [e]; rfl), rfl, rfl⟩ (fun w h => by first | exact St.sub (h.del b2) | skip)
 refine Z1 (sqr 3 rfl (pur 1 rfl (sp rfl (PE.add rfl rfl (by omega)) rfl (pur 1 rfl ?_))))
 exact ZW ⟨i + 1, by omega, by omega, fun j u' v' hj hu' hv2 => by
   rcases Nat.lt_or_ge (j + 1) i with h1 | h1
   · exact his2 j u' v' h1 hu' hv2
   · obtain rfl : j = i - 1 := by omega
     rw [hu] at hu'; rw [hv'] at hv2; cases hu'; cases hv2; omega⟩ (by dsimp only; omega) (by repeat' first | exact Sub.nil | apply Sub.cons | rfl | (simp [lk]; omega)) idH
 have hsi : ZbM x.l = true := Z4t fun j u v hu hv => his2 j u v (by have := (List.getElem?_eq_some_iff.1 hv).1; omega) hu hv
 refine Zb (Zf (Zf (ZB (Z0 ?_))))
 refine Zi [0, 0, 3, 7, 15, 0, 32, 127] (tks 0 3 (.ld 3 (.tk 4 (.tk 5 (.ld 6 (.tk 7 .done)))))) ZH (by kernel_rfl) ?_
 refine Zp 2 rfl (tk rfl (PE.indexAddr Z4l rfl rfl (by omega) (by omega)) rfl (ld rfl rfl (lf0 Z2g (Z14 hx) rfl) rfl (tk rfl (PE.lenSl Z0n rfl) rfl (tk rfl (PE.fA Z2m rfl) rfl (ld rfl rfl (lh sc3 rfl rfl) rfl (Zp 1 rfl ?_))))))
 refine Z2 rfl ?_ ?_ <;> intro hc6 <;> try simp only [cS] at hc6
 have ed : Z0R ((b.bins.length : Int)) b.gangs x.l = 9 := by unfold Z0R; rw [hal, hsi, dT hc6]; rfl
 rw [ed] at hke
 have e2 : Z0q ((b.bins.length : Int)) b.gangs (lls pl) = 9 := hke
 refine sqt 1 rfl (pur 1 rfl (Z4 ?_))
 exact rtA rfl rfl rfl ⟨by first | (rw [e, e2]; rfl) | (rw [e]; rfl), rfl, rfl⟩ (fun w h => by first | exact St.sub (h.del b2) | skip)
 have ed : Z0R ((b.bins.length : Int)) b.gangs x.l = 0 := by unfold Z0R; rw [hal, hsi, dF (by omega)]; rfl
 rw [ed] at hke
 refine Z1 (sqr 3 rfl (pur 1 rfl (sp rfl (PE.add rfl rfl (by omega)) rfl (pur 1 rfl ?_))))
 exact Zn ⟨k + 1, by omega, hke⟩ (fun w h => h.ftail)
 obtain rfl : k = pl.length := by omega
 rw [show (lls pl).drop pl.length = [] by rw [List.drop_eq_nil_iff, Zo]; exact Nat.le_refl _] at hke
 have e2 : Z0q ((b.bins.length : Int)) b.gangs (lls pl) = 0 := hke
 refine Zb (Zf (Zf (ZB (sqt 1 rfl (pur 1 rfl (Z4 ?_))))))
 exact rtA rfl rfl rfl ⟨by first | (rw [e, e2]; rfl) | (rw [e]; rfl), rfl, rfl⟩ (fun w h => by first | exact St.sub (h.del b2) | skip)
end Go.Proofs.YtnifcjgnageniaaGreat
