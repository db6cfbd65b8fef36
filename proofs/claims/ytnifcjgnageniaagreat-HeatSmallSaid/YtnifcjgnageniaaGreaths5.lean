/- Walks of the functions of the program, and the laws that join them: what the last theorem of this claim needs, in order. -/
import Derived.Test.YtnifcjgnageniaaGreaths4
namespace Go.Proofs.YtnifcjgnageniaaGreat
set_option linter.unusedSimpArgs false
set_option linter.unusedVariables false
open Go
theorem ZfN : cal Tryz.prog 105 = true := by kernel_rfl
theorem ZcN : cal Tryz.prog 68 = true := by kernel_rfl
theorem ZfW : cal Tryz.prog 72 = true := by kernel_rfl
theorem ZfR : cal Tryz.prog 90 = true := by kernel_rfl
theorem Z8D {c r s k : Int} (hr : r ≤ s) : ∀ (p : List (List Int)) (w v : Int), w ≤ v → wst c r k w p ≤ wst c s k v p
  | [], _, _, h => h
  | l :: p, w, v, h => by
    unfold wst
    refine Z8D hr p _ _ ?_
    cases Z3J l k <;> simp only [cond_true, cond_false] <;> omega
theorem Zdt {l : List Int} (h : srt l = true) {i : Nat} : ∀ {j : Nat}, i ≤ j → j < l.length → na l i ≤ na l j
  | 0, hij, hj => by obtain rfl : i = 0 := by omega
                     exact Int.le_refl _
  | j + 1, hij, hj => by
    rcases Nat.lt_or_ge j i with h1 | h1
    · obtain rfl : i = j + 1 := by omega
      exact Int.le_refl _
    · have ih := Zdt h (j := j) h1 (by omega)
      have : ¬ (na l (j + 1) < na l j) := fun hlt => by
        have := Z8q (Z0f (by omega)) (Z0f hj) hlt
        rw [h] at this; cases this
      omega
def wL (c r k w : Int) (p : List (List Int)) (n : Nat) : List Int := (List.range n).map fun d => wst c r k w (p.take (d + 1))
theorem Z3Z (c r k w : Int) (p : List (List Int)) (n : Nat) : (wL c r k w p n).length = n := by simp [wL]
theorem Z94 {c r k w : Int} {p : List (List Int)} {n d : Nat} (h : d < n) : (wL c r k w p n)[d]? = some (wst c r k w (p.take (d + 1))) := by
  unfold wL; rw [List.getElem?_map, List.getElem?_range h]; rfl
theorem Z88 (c r k w : Int) (p : List (List Int)) (n : Nat) : wL c r k w p (n + 1) = wL c r k w p n ++ [wst c r k w (p.take (n + 1))] := by
  unfold wL; rw [List.range_succ, List.map_append]; rfl
theorem Zg2 (l : List Int) (k : Int) : (l.any fun x => decide (x = k)) = Z3J l k := by
  unfold Z3J; congr 1; funext x; exact decide_eq_decide.2 eq_comm
def Barn.binD (b : Barn) (k : Nat) : HBin := b.bins.getD k hb0
def Za7 (b : Barn) (p : List (List Int)) (k : Nat) (c : Int) (d : Nat) : Prop := (b.binD k).mark < wst b.cool (na b.rise c.toNat) k (b.binD k).warm (p.take (d + 1))
structure Bst (S : Nat → Nat → Prop) (q : Nat × Nat × Bool) : Prop where
  no : q.2.2 = false → q.1 = 0 ∧ q.2.1 = 0 ∧ ∀ k d, ¬ S k d
  yes : q.2.2 = true → S q.2.1 q.1 ∧ ∀ k d, S k d → q.1 < d ∨ (q.1 = d ∧ q.2.1 ≤ k)
theorem Bst.iff {S S' : Nat → Nat → Prop} {q : Nat × Nat × Bool} (h : Bst S q) (e : ∀ k d, S' k d ↔ S k d) : Bst S' q := by
  have : S' = S := by funext k d; exact propext (e k d)
  exact this ▸ h
theorem Bst.add {S S' : Nat → Nat → Prop} {q : Nat × Nat × Bool} {k e : Nat} (h : Bst S q) (hS : ∀ j d, S' j d ↔ S j d ∨ (j = k ∧ d = e)) (hq : q.2.2 = false ∨ e < q.1) : Bst S' (e, k, true) where
  no h := by cases h
  yes _ := ⟨(hS _ _).2 (.inr ⟨rfl, rfl⟩), fun j d hj => by
    rcases (hS j d).1 hj with h1 | ⟨rfl, rfl⟩
    · cases hb : q.2.2 with
      | false => exact absurd h1 ((h.no hb).2.2 j d)
      | true =>
        have := (h.yes hb).2 j d h1
        rcases hq with hq | hq
        · rw [hb] at hq; cases hq
        · exact .inl (by show e < d; omega)
    · exact .inr ⟨rfl, Nat.le_refl _⟩⟩
theorem Bst.keep {S S' : Nat → Nat → Prop} {q : Nat × Nat × Bool} {k e : Nat} (h : Bst S q) (hle : ∀ j d, S j d → j ≤ k) (hS : ∀ j d, S' j d ↔ S j d ∨ (j = k ∧ d = e)) (hq : q.2.2 = true) (hq2 : ¬ e < q.1) : Bst S' q where
  no h := by rw [hq] at h; cases h
  yes _ := by
    obtain ⟨h1, h2⟩ := h.yes hq
    refine ⟨(hS _ _).2 (.inl h1), fun j d hj => ?_⟩
    rcases (hS j d).1 hj with h3 | ⟨rfl, rfl⟩
    · exact h2 j d h3
    · have := hle _ _ h1
      omega
def ZbA (b : Barn) (ws : List Int) (p : List (List Int)) (k d : Nat) : Prop := (b.binD k).mark < wst b.cool (b.worst (b.binD k)) k (na ws k) (p.take (d + 1))
theorem Barn.burns_spec {b : Barn} : ∀ (p : List (List Int)) (ws : List Int) (d0 : Nat), ((b.burnsF ws p d0).1 = none ∧ ∀ k < b.bins.length, ∀ d < p.length, ¬ ZbA b ws p k d) ∨
    ∃ k e : Nat, (b.burnsF ws p d0).1 = some (d0 + e, k) ∧ k < b.bins.length ∧ e < p.length ∧ ZbA b ws p k e ∧ ∀ j < b.bins.length, ∀ d < p.length, ZbA b ws p j d → e < d ∨ (e = d ∧ k ≤ j)
  | [], ws, d0 => .inl ⟨rfl, fun k _ d hd => absurd hd (Nat.not_lt_zero _)⟩
  | l :: p, ws, d0 => by
    have h0 : ∀ k, ZbA b ws (l :: p) k 0 ↔ b.hotAt ws l k = true := fun k => by
      unfold ZbA Barn.hotAt
      rw [decide_eq_true_eq]; exact Iff.rfl
    have h1 : ∀ k d, k < b.bins.length → (ZbA b ws (l :: p) k (d + 1) ↔ ZbA b (b.dayW ws l) p k d) := fun k d hk => by
      unfold ZbA
      rw [Z24 (b.dayW_at (ws := ws) (l := l) hk), List.take_succ_cons]
      exact Iff.rfl
    rw [b.burns_cons]
    cases hf : (List.range b.bins.length).find? (b.hotAt ws l) with
    | some k =>
      rw [List.find?_range_eq_some] at hf
      obtain ⟨f1, f2, f3⟩ := hf
      have f2 := List.mem_range.1 f2
      refine .inr ⟨k, 0, rfl, f2, by simp, (h0 k).2 f1, fun j hj d hd hh => ?_⟩
      cases d with
      | succ d => exact .inl (by omega)
      | zero =>
        refine .inr ⟨rfl, ?_⟩
        rcases Nat.lt_or_ge j k with h4 | h4
        · have := f3 j h4
          rw [(h0 j).1 hh] at this; cases this
        · exact h4
    | none =>
      dsimp only
      have hn : ∀ k < b.bins.length, ¬ ZbA b ws (l :: p) k 0 := fun k hk hh => by
        have := List.find?_eq_none.1 hf k (List.mem_range.2 hk)
        exact this ((h0 k).1 hh)
      rcases burns_spec p (b.dayW ws l) (d0 + 1) with ⟨i1, i2⟩ | ⟨k, e, i1, i2, i3, i4, i5⟩
      · refine .inl ⟨i1, fun k hk d hd hh => ?_⟩
        cases d with
        | zero => exact hn k hk hh
        | succ d => exact i2 k hk d (by simpa using hd) ((h1 k d hk).1 hh)
      · refine .inr ⟨k, e + 1, by rw [i1]; congr 2; omega, i2, by simpa using i3, (h1 k e i2).2 i4, fun j hj d hd hh => ?_⟩
        cases d with
        | zero => exact absurd hh (hn j hj)
        | succ d =>
          have := i5 j hj d (by simpa using hd) ((h1 j d hj).1 hh)
          omega
def Z5b (b : Barn) (p : List (List Int)) : Nat × Nat × Bool := match (b.burnsF b.warms p 0).1 with
  | none => (0, 0, false)
  | some (d, k) => (d, k, true)
theorem Bst.burns {b : Barn} (hb : b.ok) {p : List (List Int)} {q : Nat × Nat × Bool} (h : Bst (fun k d => k < b.bins.length ∧ d < p.length ∧ ∃ c, (b.binD k).lo ≤ c ∧ c ≤ (b.binD k).hi ∧ Za7 b p k c d) q) : q = Z5b b p := by
  have hS : ∀ k d, (k < b.bins.length ∧ d < p.length ∧ ZbA b b.warms p k d) ↔ (k < b.bins.length ∧ d < p.length ∧ ∃ c, (b.binD k).lo ≤ c ∧ c ≤ (b.binD k).hi ∧ Za7 b p k c d) := fun k d => by
    refine and_congr_right fun hk => and_congr_right fun _ => ?_
    obtain ⟨x, hx⟩ : ∃ x, b.bins[k]? = some x := ⟨_, List.getElem?_eq_getElem hk⟩
    have ex : b.binD k = x := Z07 hx
    have hm := List.mem_of_getElem? hx
    have hbx := hb.bins x hm
    have ho := hb.ord x hm
    have ew : na b.warms k = x.warm := by unfold na Barn.warms; rw [List.getD_eq_getElem?_getD, List.getElem?_map, hx]; rfl
    unfold ZbA Za7
    rw [ex, ew]
    constructor
    · intro h; exact ⟨x.hi, ho, Int.le_refl _, h⟩
    · rintro ⟨c, h1, h2, h3⟩
      have : wst b.cool (na b.rise c.toNat) k x.warm (p.take (d + 1)) ≤ wst b.cool (b.worst x) k x.warm (p.take (d + 1)) :=
        Z8D (Zdt hb.srt (by omega) (by rw [hb.len]; omega)) _ _ _ (Int.le_refl _)
      omega
  have h := h.iff hS
  obtain ⟨day, bin, is⟩ := q
  unfold Z5b
  rcases b.burns_spec p b.warms 0 with ⟨i1, i2⟩ | ⟨k, e, i1, i2, i3, i4, i5⟩
  · rw [i1]
    cases is with
    | true => obtain ⟨⟨h1, h2, h3⟩, _⟩ := h.yes rfl; exact absurd h3 (i2 _ h1 _ h2)
    | false => obtain ⟨h1, h2, _⟩ := h.no rfl; dsimp only at h1 h2; rw [h1, h2]
  · rw [i1]
    cases is with
    | false => exact absurd ⟨i2, i3, i4⟩ ((h.no rfl).2.2 k e)
    | true =>
      obtain ⟨⟨h1, h2, h3⟩, h4⟩ := h.yes rfl
      have a1 := i5 _ h1 _ h2 h3
      have a2 := h4 _ _ ⟨i2, i3, i4⟩
      dsimp only at a1 a2 ⊢
      have : day = e ∧ bin = k := by omega
      rw [this.1, this.2, Nat.zero_add]
def SA (b : Barn) (p : List (List Int)) (k : Nat) : Nat → Nat → Prop := fun j d => j < k ∧ d < p.length ∧ ∃ c, (b.binD j).lo ≤ c ∧ c ≤ (b.binD j).hi ∧ Za7 b p j c d
def SB (b : Barn) (p : List (List Int)) (k : Nat) (c : Int) : Nat → Nat → Prop := fun j d => SA b p k j d ∨ (j = k ∧ d < p.length ∧ ∃ c', (b.binD k).lo ≤ c' ∧ c' < c ∧ Za7 b p k c' d)
def SC (b : Barn) (p : List (List Int)) (k : Nat) (c : Int) (e : Nat) : Nat → Nat → Prop := fun j d => SB b p k c j d ∨ (j = k ∧ d < e ∧ Za7 b p k c d)
theorem SA.start {b : Barn} {p : List (List Int)} : Bst (SA b p 0) (0, 0, false) := ⟨fun _ => ⟨rfl, rfl, fun k d h => by have := h.1; omega⟩, fun h => by cases h⟩
theorem SB.start {b : Barn} {p : List (List Int)} {k : Nat} {c : Int} (hc : c = (b.binD k).lo) {q : Nat × Nat × Bool} (h : Bst (SA b p k) q) : Bst (SB b p k c) q := h.iff fun j d => by
  constructor
  · rintro (h1 | ⟨_, _, c', h1, h2, _⟩)
    · exact h1
    · omega
  · exact .inl
theorem SC.start {b : Barn} {p : List (List Int)} {k : Nat} {c : Int} {q : Nat × Nat × Bool} (h : Bst (SB b p k c) q) : Bst (SC b p k c 0) q := h.iff fun j d => by
  constructor
  · rintro (h1 | ⟨_, h1, _⟩)
    · exact h1
    · omega
  · exact .inl
theorem SC.le {b : Barn} {p : List (List Int)} {k : Nat} {c : Int} {e j d : Nat} (h : SC b p k c e j d) : j ≤ k := by
  rcases h with (h | h) | h
  · exact Nat.le_of_lt h.1
  · exact Nat.le_of_eq h.1
  · exact Nat.le_of_eq h.1
theorem SC.cold {b : Barn} {p : List (List Int)} {k : Nat} {c : Int} {e : Nat} {q : Nat × Nat × Bool} (h : Bst (SC b p k c e) q) (hn : ¬ Za7 b p k c e) : Bst (SC b p k c (e + 1)) q := h.iff fun j d => by
  constructor
  · rintro (h1 | ⟨h1, h2, h3⟩)
    · exact .inl h1
    · refine .inr ⟨h1, ?_, h3⟩
      rcases Nat.lt_or_ge d e with h4 | h4
      · exact h4
      · obtain rfl : d = e := by omega
        exact absurd h3 hn
  · rintro (h1 | ⟨h1, h2, h3⟩)
    · exact .inl h1
    · exact .inr ⟨h1, by omega, h3⟩
theorem SC.hot {b : Barn} {p : List (List Int)} {k : Nat} {c : Int} {e : Nat} (hn : Za7 b p k c e) (j d : Nat) : SC b p k c (e + 1) j d ↔ SC b p k c e j d ∨ (j = k ∧ d = e) := by
  constructor
  · rintro (h1 | ⟨h1, h2, h3⟩)
    · exact .inl (.inl h1)
    · rcases Nat.lt_or_ge d e with h4 | h4
      · exact .inl (.inr ⟨h1, h4, h3⟩)
      · exact .inr ⟨h1, by omega⟩
  · rintro ((h1 | ⟨h1, h2, h3⟩) | ⟨rfl, rfl⟩)
    · exact .inl h1
    · exact .inr ⟨h1, by omega, h3⟩
    · exact .inr ⟨rfl, by omega, hn⟩
theorem SC.done {b : Barn} {p : List (List Int)} {k : Nat} {c : Int} (hc : (b.binD k).lo ≤ c) {q : Nat × Nat × Bool} (h : Bst (SC b p k c p.length) q) : Bst (SB b p k (c + 1)) q := h.iff fun j d => by
  constructor
  · rintro (h1 | ⟨h1, h2, c', h3, h4, h5⟩)
    · exact .inl (.inl h1)
    · rcases Int.lt_or_le c' c with h6 | h6
      · exact .inl (.inr ⟨h1, h2, c', h3, h6, h5⟩)
      · obtain rfl : c' = c := by omega
        exact .inr ⟨h1, h2, h5⟩
  · rintro ((h1 | ⟨h1, h2, c', h3, h4, h5⟩) | ⟨h1, h2, h3⟩)
    · exact .inl h1
    · exact .inr ⟨h1, h2, c', h3, by omega, h5⟩
    · exact .inr ⟨h1, h2, c, hc, by omega, h3⟩
theorem SB.done {b : Barn} {p : List (List Int)} {k : Nat} {c : Int} (hc : c = (b.binD k).hi + 1) {q : Nat × Nat × Bool} (h : Bst (SB b p k c) q) : Bst (SA b p (k + 1)) q := h.iff fun j d => by
  constructor
  · rintro ⟨h1, h2, c', h3, h4, h5⟩
    rcases Nat.lt_or_ge j k with h6 | h6
    · exact .inl ⟨h6, h2, c', h3, h4, h5⟩
    · obtain rfl : j = k := by omega
      exact .inr ⟨rfl, h2, c', h3, by omega, h5⟩
  · rintro (⟨h1, h2, h3⟩ | ⟨rfl, h2, c', h3, h4, h5⟩)
    · exact ⟨by omega, h2, h3⟩
    · exact ⟨by omega, h2, c', h3, by omega, h5⟩
theorem Bst.bd {b : Barn} {p : List (List Int)} {k : Nat} {c : Int} {e : Nat} {q : Nat × Nat × Bool} (h : Bst (SC b p k c e) q) (he : e ≤ p.length) : q.1 ≤ p.length ∧ q.2.1 ≤ k := by
  cases hb : q.2.2 with
  | false => obtain ⟨h1, h2, _⟩ := h.no hb; omega
  | true =>
    have h1 := (h.yes hb).1
    refine ⟨?_, SC.le h1⟩
    rcases h1 with (h1 | h1) | h1
    · exact Nat.le_of_lt h1.2.1
    · exact Nat.le_of_lt h1.2.1
    · omega
theorem St.blkRows {rows : List (List Value)} {sz bk e : Nat} {junk : List Value} {H : Zg} {R : Z6} {w : World} (hz : ∀ r ∈ rows, r.length = sz) (hs : St ((bk, cel e (rows.flatten ++ junk)) :: H) R w) :
    St H (Z5 (some ⟨bk, 0, none⟩) sz rows :: R) w := by
  have h1 := (St.freeze hs).also (f := Z5 (some ⟨bk, 0, none⟩) sz rows) (fun w' hw => by
    have hb := hw (fun w => w.heap[bk]? = some (cel e (rows.flatten ++ junk))) (by simp)
    exact Z1W hb hz)
  exact h1.facts (fun g hg => by rcases List.mem_cons.1 hg with h3 | h3 <;> simp [h3])
theorem Z0Z (l : List PL) : ∀ r ∈ Z9 l, r.length = 1 := fun r hr => by obtain ⟨x, _, rfl⟩ := List.mem_map.1 hr; rfl
theorem Z0t (A B : List PL) : Z9 (A ++ B) = Z9 A ++ Z9 B := by simp [Z9]
theorem Z9u (l : List PL) : (Z9 l).flatten.length = l.length := by rw [Z0i (Z0Z l), Zt]; omega
def ZdE (ql : List PL) (n : Nat) : List Value := (Z9 ql).flatten ++ (List.replicate n [Value.slice none 0 0]).flatten
theorem Zc4 (ql : List PL) (n : Nat) : (ZdE ql n).length = ql.length + n := by
  unfold ZdE
  rw [List.length_append, Z9u, Z0i (sz := 1) (fun q hq => by rw [(List.mem_replicate.1 hq).2]; rfl), List.length_replicate]; omega
theorem Zcj (ql : List PL) (n : Nat) (x : PL) {i : Nat} (e : i = ql.length) : spl (ZdE ql (n + 1)) i [.slice x.a x.l.length x.c] = ZdE (ql ++ [x]) n := by
  subst e
  unfold ZdE
  rw [List.replicate_succ, List.flatten_cons, Z0t, List.flatten_append, List.append_assoc]
  have := Z6N (p := (Z9 ql).flatten) (q := [Value.slice none 0 0]) (s := (List.replicate n [Value.slice none 0 0]).flatten) (vs := [.slice x.a x.l.length x.c]) rfl
  rw [Z9u] at this
  exact this
theorem St.innSnoc {a : Option Addr} {c : Nat} {l0 : List Int} {l : List PL} {H : Zg} {R : Z6} {w : World} [m1 : MemF (Inn l) R] [m2 : MemRows a 1 (Zm l0) R] (h : St H R w) : St H (Inn (l ++ [⟨a, c, l0⟩]) :: R) w :=
  h.also fun w' hw x hx => by
    rcases List.mem_append.1 hx with hx | hx
    · exact hw _ m1.mem x hx
    · obtain rfl : x = ⟨a, c, l0⟩ := by simpa using hx
      exact hw _ m2.mem
theorem Z8N (xs ys : List Int) (a a2 : Option Addr) (c c2 : Nat) (hl : xs.length ≤ 9223372036854775807) (hl2 : ys.length ≤ 9223372036854775807) (H : Zg) (R : Z6) [hR : MemRows a 1 (Zm xs) R] [hR2 : MemRows a2 1 (Zm ys) R] :
    FnV Tryz.prog 90 [.slice a xs.length c, .slice a2 ys.length c2] H R (.bool (decide (xs = ys))) := by
 refine Zy Tryz.func90 rfl Tryz.ntmps90 rfl ?_
 refine sqt 1 rfl (pur 1 rfl (Z0 (sqt 5 rfl (pur 1 rfl (sp rfl (PE.lenSl Z0n rfl) rfl (pur 1 rfl (sp rfl (PE.lenSl Z0n rfl) rfl (pur 1 rfl ?_))))))))
 refine Z2 rfl ?_ ?_ <;> intro hc0
 have hne : xs ≠ ys := fun e => by subst e; simp at hc0
 refine sqt 1 rfl (pur 1 rfl (Z4 ?_))
 exact rtA rfl rfl rfl ⟨by first | (simp only [Z0u]; rw [dT heq]; done) | (simp only [Z0u]; rw [dF hne]), rfl, rfl⟩ idH
 have hle : xs.length = ys.length := by simp only [cS] at hc0; omega
 refine Z1 (Z0 (sqt 3 rfl (pur 1 rfl (sp rfl (PE.lenSl Z0n rfl) rfl (pur 1 rfl (Z3 ?_))))))
 refine Zj (ι := {k : Nat // k ≤ xs.length ∧ xs.take k = ys.take k}) (fun k => ⟨[(0, .slice a xs.length c), (1, .slice a2 ys.length c2), (12, .int .i64 xs.length), (13, .int .i64 k.1)], H, R⟩) (fun k => xs.length - k.1) ⟨0, by simp⟩ ?_ (fun k => ?_)
 exact Zr idH
 obtain ⟨k, hk, hn⟩ := k
 dsimp only
 refine sqt 1 rfl (pur 1 rfl (Z0 ?_))
 refine Z2 rfl ?_ ?_ <;> intro hc1
 simp only [cS] at hc1
 obtain ⟨x, hx⟩ : ∃ x, xs[k]? = some x := ⟨_, List.getElem?_eq_getElem (by omega)⟩
 obtain ⟨z, hz⟩ : ∃ z, ys[k]? = some z := ⟨_, List.getElem?_eq_getElem (by omega)⟩
 refine Zl (a := a) (sz := 1) (rows := Zm xs) (by intro h0; simp [Zm] at h0; simp [h0] at hx) (fun b off he => ?_)
 subst he
 refine Zl (a := a2) (sz := 1) (rows := Zm ys) (by intro h0; simp [Zm] at h0; simp [h0] at hz) (fun b2 off2 he => ?_)
 subst he
 refine Z1 (Z0 (Z3 (sqt 2 rfl (pur 2 rfl (Z0 ?_)))))
 refine Zi [0, 0, 3, 7, 0, 0, 48, 112, 255] (tks 0 3 (.ld 3 (tks 4 3 (.ld 7 (.tk 8 .done))))) ZH (by kernel_rfl) ?_
 refine Zp 2 rfl (tk rfl (PE.indexAddr Z28 rfl rfl (by omega) (by omega)) rfl (ld rfl rfl (lf0 sc3 (by simp [Zm, hx]; rfl) rfl) rfl (Zp 2 rfl (tk rfl (PE.indexAddr Z28 rfl rfl (by omega) (by omega)) rfl (ld rfl rfl (lf0 sc3 (by simp [Zm, hz]; rfl) rfl) rfl (Zp 1 rfl ?_))))))
 refine Z2 rfl ?_ ?_ <;> intro hc2
 have hne : xs ≠ ys := fun e => by subst e; rw [hx] at hz; cases hz; simp at hc2
 refine sqt 1 rfl (pur 1 rfl (Z4 ?_))
 exact rtA rfl rfl rfl ⟨by first | (simp only [Z0u]; rw [dT heq]; done) | (simp only [Z0u]; rw [dF hne]), rfl, rfl⟩ idH
 have hxz : x = z := by simpa using hc2
 refine Z1 (sqr 2 rfl (sp rfl (PE.add rfl rfl (by omega)) rfl (pur 1 rfl ?_)))
 exact Zn ⟨k + 1, by omega, by rw [List.take_add_one, List.take_add_one, hn, hx, hz, hxz]⟩ idH
 simp only [cS] at hc1
 obtain rfl : k = xs.length := by omega
 have heq : xs = ys := by
   rw [List.take_length] at hn
   exact hn.trans (by rw [hle]; exact List.take_length)
 refine Zb (Zf (Zf (ZB (sqt 1 rfl (pur 1 rfl (Z4 ?_))))))
 exact rtA rfl rfl rfl ⟨by first | (simp only [Z0u]; rw [dT heq]; done) | (simp only [Z0u]; rw [dF hne]), rfl, rfl⟩ idH
theorem Z7m (xs : List Int) (a : Option Addr) (c : Nat) (hl : xs.length ≤ 1000000) (H : Zg) (R : Z6) [hR : MemRows a 1 (Zm xs) R] :
    Fn Tryz.prog 72 [.slice a xs.length c] H R (fun v H' R' => ∃ o : OSl 3 1 (Zm xs), v = o.fs ∧ o.here ∧ H' = o.G ++ H ∧ R' = R) := by
 refine Zy Tryz.func72 rfl Tryz.ntmps72 rfl ?_
 refine sqt 1 rfl (pur 1 rfl (sqt 6 rfl (pur 1 rfl (sp rfl (PE.lenSl Z0n rfl) rfl ?_))))
 refine mkO rfl Z7F zl3 rfl rfl ⟨by omega, by omega⟩ rfl (fun o ho => ?_)
 refine pur 1 rfl ?_
 refine ZhF (news := Zm xs) o rfl Z7F rfl rfl (Zao) (by simp [Zm]) (by simp [Z0X, Zm, Value.oneCell']) ⟨by simp [Zm]; omega, by simp [Zm]; omega⟩ rfl ho (fun o2 ho2 => ?_)
 refine pur 1 rfl (Z4 ?_)
 exact rtA rfl rfl rfl ⟨o2.cast (by simp), rfl, ho2, rfl, rfl⟩ idH
theorem Z4X (pl : List PL) (ap : Option Addr) (cp : Nat) (hpl : pl.length ≤ 1000000) (hpi : ∀ x ∈ pl, x.l.length ≤ 1000000) (H : Zg) (R : Z6) [hP : MemRows ap 1 (Z9 pl) R] [hI : MemF (Inn pl) R] :
    Fn Tryz.prog 31 [.slice ap pl.length cp] H R (fun v H' R' => ∃ (ql : List PL) (aq : Option Addr) (cq : Nat), lls ql = lls pl ∧ v = .slice aq ql.length cq ∧ H' = H ∧ R' = Z5 aq 1 (Z9 ql) :: Inn ql :: R) := by
 refine Zy Tryz.func31 rfl Tryz.ntmps31 rfl ?_
 refine sqt 1 rfl (pur 1 rfl (sqt 4 rfl (pur 1 rfl (sp rfl (PE.lenSl Z0E rfl) rfl ?_))))
 refine mkS rfl Z2A Z1K rfl rfl (Nat.le_refl _) ⟨by omega, by omega⟩ rfl (fun b8 => ?_)
 refine Sy.heap (H' := (b8, cel 22 (ZdE [] pl.length)) :: H) (R' := Inn [] :: R) (fun w h => St.inn0 (by rw [← Z1E] at h; exact h)) ?_
 refine pur 1 rfl (Z0 (sqt 3 rfl (pur 1 rfl (sp rfl (PE.lenSl Z0E rfl) rfl (pur 1 rfl (Z3 ?_))))))
 refine Zj (ι := {q : List PL // q.length ≤ pl.length ∧ lls q = (lls pl).take q.length}) (fun q => ⟨[(3, .slice (some ⟨b8, 0, none⟩) pl.length pl.length), (9, .slice ap pl.length cp), (10, .int .i64 pl.length), (11, .int .i64 q.1.length)], (b8, cel 22 (ZdE q.1 (pl.length - q.1.length))) :: H, Inn q.1 :: R⟩) (fun q => pl.length - q.1.length) ⟨[], Nat.zero_le _, rfl⟩ ?_ (fun q => ?_)
 exact Zr idH
 obtain ⟨q, hq, hqe⟩ := q
 dsimp only at hq hqe ⊢
 refine sqt 1 rfl (pur 1 rfl (Z0 ?_))
 refine Z2 rfl ?_ ?_ <;> intro hc0 <;> try simp only [cS] at hc0
 obtain ⟨x, hx⟩ : ∃ x, pl[q.length]? = some x := ⟨_, List.getElem?_eq_getElem (by omega)⟩
 have hxm := List.mem_of_getElem? hx
 have hxl := hpi x hxm
 refine Zl (a := ap) (sz := 1) (rows := Z9 pl) (ne0 (by rw [Zt]; omega)) (fun ba oa he => ?_)
 subst he
 refine Sy.heap (fun w h => St.inn (x := x) h hxm) ?_
 refine Z1 (Z0 (Z3 (sqt 5 rfl (pur 1 rfl (sp rfl (PE.indexAddr Z4l rfl rfl (by omega) (by omega)) rfl (spL rfl rfl (lf0 Z2g (Z14 hx) rfl) rfl (pur 2 rfl (sqr 6 rfl (pur 3 rfl ?_)))))))))
 refine cl rfl ZfW rfl rfl (Z7m x.l x.a x.c hxl _ _) ?_
 rintro _ _ _ ⟨o, rfl, ho, rfl, rfl⟩
 obtain ⟨ax, cx, he, hf⟩ := o.freeze
 rw [he, Zd]
 refine Sy.heap (fun w h => hf h) ?_
 clear he hf
 refine sp rfl (PE.indexAddr Z4l rfl rfl (by omega) (by omega)) rfl ?_
 refine Z1b (l' := ZdE (q ++ [⟨ax, cx, x.l⟩]) (pl.length - (q.length + 1))) rfl rfl rfl Zgu rfl rfl rfl (by rw [show pl.length - q.length = (pl.length - (q.length + 1)) + 1 by omega]; exact Zcj q _ ⟨ax, cx, x.l⟩ (by show 0 + ((q.length : Nat) : Int).toNat * 1 = _; omega)) (by rw [Zc4]; show 0 + ((q.length : Nat) : Int).toNat * 1 + 1 ≤ _; omega) ?_
 refine sqr 2 rfl (sp rfl (PE.add rfl rfl (by omega)) rfl (pur 1 rfl ?_))
 exact ZW ⟨q ++ [⟨ax, cx, x.l⟩], by rw [List.length_append, List.length_singleton]; omega, by rw [List.length_append, List.length_singleton, ZK (Z0a hx), ← hqe]; simp [lls]⟩ (by dsimp only; rw [List.length_append, List.length_singleton]; omega) (by dsimp only; rw [List.length_append, List.length_singleton]; exact (by repeat' first | exact Sub.nil | apply Sub.cons | rfl | (simp [lk]; omega))) (fun w h => by dsimp only; rw [List.length_append, List.length_singleton]; exact (St.innSnoc (a := ax) (c := cx) (l0 := x.l) (l := q) h).facts (fun g hg => by rcases List.mem_cons.1 hg with h3 | h3 <;> simp [h3]))
 have hql : q.length = pl.length := by omega
 rw [hql, List.take_of_length_le (by rw [Zo]; exact Nat.le_refl _)] at hqe
 refine Sy.heap (H' := (b8, cel 22 ((Z9 q).flatten ++ [])) :: H) (fun w h => by rw [hql, Nat.sub_self] at h; exact h) ?_
 refine Sy.heap (fun w h => St.blkRows (Z0Z q) h) ?_
 refine Zb (Zf (Zf (ZB (sqt 2 rfl (pur 2 rfl (Z4 ?_))))))
 exact rtA rfl rfl rfl ⟨q, _, _, hqe, by rw [hql]; rfl, rfl, rfl⟩ idH
theorem Z1m (pl : List PL) (ap : Option Addr) (cp : Nat) (hpl : pl.length ≤ 9223372036854775807) (hpi : ∀ x ∈ pl, x.l.length ≤ 9223372036854775807) (ql : List PL) (aq : Option Addr) (cq : Nat) (hql : ql.length ≤ 9223372036854775807) (hqi : ∀ x ∈ ql, x.l.length ≤ 9223372036854775807) (H : Zg) (R : Z6) [hP : MemRows ap 1 (Z9 pl) R] [hI : MemF (Inn pl) R] [hQ : MemRows aq 1 (Z9 ql) R] [hJ : MemF (Inn ql) R] :
    FnV Tryz.prog 38 [.slice ap pl.length cp, .slice aq ql.length cq] H R (.bool (decide (lls pl = lls ql))) := by
 refine Zy Tryz.func38 rfl Tryz.ntmps38 rfl ?_
 refine sqt 1 rfl (pur 1 rfl (Z0 (sqt 5 rfl (pur 1 rfl (sp rfl (PE.lenSl Z0E rfl) rfl (pur 1 rfl (sp rfl (PE.lenSl Z0E rfl) rfl (pur 1 rfl ?_))))))))
 refine Z2 rfl ?_ ?_ <;> intro hc0 <;> try simp only [cS] at hc0
 have hne : lls pl ≠ lls ql := fun e => by have := congrArg List.length e; rw [Zo, Zo] at this; omega
 refine sqt 1 rfl (pur 1 rfl (Z4 ?_))
 exact rtA rfl rfl rfl ⟨by first | (simp only [Z0u]; rw [dT heq]; done) | (simp only [Z0u]; rw [dF hne]), rfl, rfl⟩ drp
 have hle : pl.length = ql.length := by omega
 refine Z1 (Z0 (sqt 3 rfl (pur 1 rfl (sp rfl (PE.lenSl Z0E rfl) rfl (pur 1 rfl (Z3 ?_))))))
 refine Zj (ι := {k : Nat // k ≤ pl.length ∧ (lls pl).take k = (lls ql).take k}) (fun k => ⟨[(1, .slice aq ql.length cq), (12, .slice ap pl.length cp), (13, .int .i64 pl.length), (14, .int .i64 k.1)], H, R⟩) (fun k => pl.length - k.1) ⟨0, Nat.zero_le _, rfl⟩ ?_ (fun k => ?_)
 exact Zr idH
 obtain ⟨k, hk, hke⟩ := k
 dsimp only at hk hke ⊢
 refine sqt 1 rfl (pur 1 rfl (Z0 ?_))
 refine Z2 rfl ?_ ?_ <;> intro hc1 <;> try simp only [cS] at hc1
 obtain ⟨x, hx⟩ : ∃ x, pl[k]? = some x := ⟨_, List.getElem?_eq_getElem (by omega)⟩
 have hxm := List.mem_of_getElem? hx
 have hxl := hpi x hxm
 obtain ⟨z, hz⟩ : ∃ z, ql[k]? = some z := ⟨_, List.getElem?_eq_getElem (by omega)⟩
 have hzm := List.mem_of_getElem? hz
 have hzl := hqi z hzm
 refine Zl (a := ap) (sz := 1) (rows := Z9 pl) (ne0 (by rw [Zt]; omega)) (fun ba oa he => ?_)
 subst he
 refine Zl (a := aq) (sz := 1) (rows := Z9 ql) (ne0 (by rw [Zt]; omega)) (fun bq oq he => ?_)
 subst he
 refine Sy.heap (fun w h => St.inn (x := x) h hxm) ?_
 refine Sy.heap (fun w h => St.inn (x := z) h hzm) ?_
 refine Z1 (Z0 (Z3 (sqt 5 rfl (pur 1 rfl (sp rfl (PE.indexAddr Z4l rfl rfl (by omega) (by omega)) rfl (spL rfl rfl (lf0 Z2g (Z14 hx) rfl) rfl (pur 2 rfl (sqt 7 rfl (pur 3 rfl (sp rfl (PE.indexAddr Z4l rfl rfl (by omega) (by omega)) rfl (spL rfl rfl (lf0 Z2g (Z14 hz) rfl) rfl ?_)))))))))))
 refine clV rfl ZfR rfl rfl (Z8N x.l z.l x.a z.a x.c z.c hxl hzl _ _) ?_
 refine pur 1 rfl ?_
 refine Z2 rfl ?_ ?_ <;> intro hc2
 have hne : lls pl ≠ lls ql := fun e => by
   have h1 := Z0a hx; have h2 := Z0a hz
   rw [e, h2] at h1
   have e3 := Option.some.inj h1
   rw [e3] at hc2
   simp at hc2
 refine sqt 1 rfl (pur 1 rfl (Z4 ?_))
 exact rtA rfl rfl rfl ⟨by first | (simp only [Z0u]; rw [dT heq]; done) | (simp only [Z0u]; rw [dF hne]), rfl, rfl⟩ drp
 have hxz : x.l = z.l := by simpa using hc2
 refine Z1 (sqr 2 rfl (sp rfl (PE.add rfl rfl (by omega)) rfl (pur 1 rfl ?_)))
 exact Zn ⟨k + 1, by omega, by rw [ZK (Z0a hx), ZK (Z0a hz), hke, hxz]⟩ (fun w h => h.ftail.ftail)
 obtain rfl : k = pl.length := by omega
 have heq : lls pl = lls ql := by
   rw [List.take_of_length_le (by rw [Zo]; exact Nat.le_refl _), List.take_of_length_le (by rw [Zo]; omega)] at hke; exact hke
 refine Zb (Zf (Zf (ZB (sqt 1 rfl (pur 1 rfl (Z4 ?_))))))
 exact rtA rfl rfl rfl ⟨by first | (simp only [Z0u]; rw [dT heq]; done) | (simp only [Z0u]; rw [dF hne]), rfl, rfl⟩ drp
theorem Z3n (b : Barn) (ab : Option Addr) (cb : Nat) (hok : b.ok) (pl : List PL) (ap : Option Addr) (cp : Nat) (hpl : pl.length ≤ 9223372036854775807) (hpi : ∀ x ∈ pl, x.l.length ≤ 9223372036854775807) (hp9 : pl.length ≤ 1000000) (k : Nat) (x : HBin) (hx : b.bins[k]? = some x) (c : Int) (hc5 : 0 ≤ c ∧ c ≤ 5) (H : Zg) (R : Z6) [hB : MemRows ab 4 (Z7 b.bins) R] [hP : MemRows ap 1 (Z9 pl) R] [hI : MemF (Inn pl) R] :
    Fn Tryz.prog 68 [b.v (b.sl ab cb), .slice ap pl.length cp, .int .i64 k, .int .i64 c] H R (fun v H' R' => ∃ (aw : Option Addr) (cw : Nat), v = .slice aw pl.length cw ∧ H' = H ∧ R' = Z5 aw 1 (Zm (wL b.cool (na b.rise c.toNat) k x.warm (lls pl) pl.length)) :: R) := by
 have hk := (List.getElem?_eq_some_iff.1 hx).1
 have hm := List.mem_of_getElem? hx
 have hh := hok.bins x hm
 have hwr := hok.rise _ (Z9i (l := b.rise) (k := c.toNat) (by rw [hok.len]; omega))
 have hwb : ∀ d, 0 ≤ (wst b.cool (na b.rise c.toNat) k x.warm ((lls pl).take d)) ∧ (wst b.cool (na b.rise c.toNat) k x.warm ((lls pl).take d)) ≤ 100000000 := fun d => by
   have h1 := Z8W (k := k) hok.cool (show 0 ≤ na b.rise c.toNat ∧ na b.rise c.toNat ≤ 20 by omega) ((lls pl).take d) x.warm hh.2.1.1
   have h2 : ((lls pl).take d).length ≤ pl.length := by rw [List.length_take, Zo]; omega
   omega
 have hcl := hok.cool
 refine Zy Tryz.func68 rfl Tryz.ntmps68 rfl ?_
 refine sqt 2 rfl (bx rfl rfl rfl (fun b4 => pur 1 rfl (sqt 1 rfl (pur 1 rfl (sqt 7 rfl (sp rfl (PE.fA Z0J rfl) rfl (spL rfl rfl (lh Z4C rfl rfl) rfl (pur 1 rfl ?_))))))))
 refine Zl (a := ab) (sz := 4) (rows := Z7 b.bins) (by intro h0; simp [Z7] at h0; simp [h0] at hx) (fun ba oa he => ?_)
 subst he
 refine sp rfl (PE.indexAddr Zac rfl rfl (by omega) (by omega)) rfl (sp rfl (PE.fA Z6a rfl) rfl (spL rfl rfl (lf (j := 0) sc3 (Z01 hx) rfl) rfl (pur 1 rfl (Z0 (sqt 1 rfl (pur 1 rfl (Z3 ?_)))))))
 refine Zj (ι := (d : {d : Nat // d ≤ pl.length}) × OSl 3 1 (Zm (wL b.cool (na b.rise c.toNat) k x.warm (lls pl) d.1))) (fun y => ⟨[(1, .slice ap pl.length cp), (2, .int .i64 k), (3, .int .i64 c), (4, .pointer (some ⟨b4, 0, none⟩)), (9, y.2.fs), (10, .int .i64 (wst b.cool (na b.rise c.toNat) k x.warm ((lls pl).take y.1.1))), (11, .int .i64 y.1.1)], y.2.G ++ (b4, cel 84 (btl b (b.sl (some ⟨ba, oa, none⟩) cb))) :: H, R⟩) (fun y => pl.length - y.1.1) ⟨⟨0, by omega⟩, OSl.nil _ _⟩ ?_ (fun y => ?_)
 exact Zr idH
 obtain ⟨⟨d, hd⟩, o⟩ := y
 dsimp only at hd o ⊢
 have hwd := hwb d
 refine Z0 (sqt 4 rfl (pur 2 rfl (sp rfl (PE.lenSl Z0E rfl) rfl (pur 1 rfl ?_))))
 refine Z2 rfl ?_ ?_ <;> intro hc0 <;> try simp only [cS] at hc0
 obtain ⟨z, hz⟩ : ∃ z, pl[d]? = some z := ⟨_, List.getElem?_eq_getElem (by omega)⟩
 have hxm := List.mem_of_getElem? hz
 have hzl := hpi z hxm
 refine Zl (a := ap) (sz := 1) (rows := Z9 pl) (ne0 (by rw [Zt]; omega)) (fun bp op he => ?_)
 subst he
 refine Sy.heap (fun w h => St.inn (x := z) h hxm) ?_
 refine Z1 (Z0 (Z3 (Z0 (sqt 12 rfl (pur 2 rfl (sp rfl (PE.indexAddr Z4l rfl rfl (by omega) (by omega)) rfl (spL rfl rfl (lf0 Z2g (Z14 hz) rfl) rfl (pur 1 rfl ?_))))))))
 refine clV rfl ZfN rfl rfl (ZgE z.l z.a z.c k hzl _ _) ?_
 refine pur 1 rfl ?_
 refine Zh 30 rfl ?_ ?_ <;> intro g30
 rw [Zg2] at g30
 refine pur 1 rfl ?_
 refine spG rfl rfl rfl rfl (PE.fA Z9l rfl) rfl ?_
 refine Z0o rfl rfl rfl rfl rfl (lh sc3 rfl rfl) rfl (pur 2 rfl ?_)
 refine Z2 rfl ?_ ?_ <;> intro hc1 <;> try simp only [cS] at hc1
 have e1 : (wst b.cool (na b.rise c.toNat) k x.warm ((lls pl).take (d + 1))) = b.cool + na b.rise c.toNat := by rw [ZK (Z0a hz), Z3x, g30]; simp only [cond_true, cond_false] <;> omega
 refine sqr 3 rfl (sp rfl (PE.fA Z9l rfl) rfl (spL rfl rfl (lh sc3 rfl rfl) rfl (pur 1 rfl (sqt 7 rfl (pur 2 rfl (sp rfl (PE.fA Z3u rfl) rfl (sp rfl (PE.indexArr Z5a rfl rfl (by omega) (by omega)) rfl (spL rfl rfl (lh sc3 rfl (by rw [show 0 + 2 + c.toNat * 1 = 2 + c.toNat by omega]; exact Z0b (by omega))) rfl (sp rfl (PE.add rfl rfl (by omega)) rfl (pur 1 rfl (sqr 5 rfl ?_)))))))))))
 rw [← e1]
 refine pur 2 rfl ?_
 refine bsl (out := [_]) rfl Z1u zl3 rfl rfl rfl rfl rfl rfl (fun b46 => ?_)
 refine apO (o) rfl Z7F rfl rfl (Z0W (row := [.int .i64 ((wst b.cool (na b.rise c.toNat) k x.warm ((lls pl).take (d + 1))))]) rfl) rfl rfl ((by rw [Zd, Z3Z]; simp only [List.length_singleton]; omega)) rfl (fun o47 => ?_)
 refine pur 1 rfl (sqr 3 rfl (pur 1 rfl (sp rfl (PE.add rfl rfl (by omega)) rfl (pur 1 rfl ?_))))
 exact Zn ⟨⟨d + 1, by omega⟩, o47.cast (by rw [Z88]; simp [Zm])⟩ (fun w h => (h.del b46).ftail)
 have e1 : (wst b.cool (na b.rise c.toNat) k x.warm ((lls pl).take (d + 1))) = (wst b.cool (na b.rise c.toNat) k x.warm ((lls pl).take d)) + na b.rise c.toNat := by rw [ZK (Z0a hz), Z3x, g30]; simp only [cond_true, cond_false] <;> omega
 refine Z1 (sqt 7 rfl (pur 2 rfl (sp rfl (PE.fA Z3u rfl) rfl (sp rfl (PE.indexArr Z5a rfl rfl (by omega) (by omega)) rfl (spL rfl rfl (lh sc3 rfl (by rw [show 0 + 2 + c.toNat * 1 = 2 + c.toNat by omega]; exact Z0b (by omega))) rfl (sp rfl (PE.add rfl rfl (by omega)) rfl (pur 1 rfl (sqr 5 rfl ?_))))))))
 rw [← e1]
 refine pur 2 rfl ?_
 refine bsl (out := [_]) rfl Z1u zl3 rfl rfl rfl rfl rfl rfl (fun b46 => ?_)
 refine apO (o) rfl Z7F rfl rfl (Z0W (row := [.int .i64 ((wst b.cool (na b.rise c.toNat) k x.warm ((lls pl).take (d + 1))))]) rfl) rfl rfl ((by rw [Zd, Z3Z]; simp only [List.length_singleton]; omega)) rfl (fun o47 => ?_)
 refine pur 1 rfl (sqr 3 rfl (pur 1 rfl (sp rfl (PE.add rfl rfl (by omega)) rfl (pur 1 rfl ?_))))
 exact Zn ⟨⟨d + 1, by omega⟩, o47.cast (by rw [Z88]; simp [Zm])⟩ (fun w h => (h.del b46).ftail)
 rw [Zg2] at g30
 have e1 : (wst b.cool (na b.rise c.toNat) k x.warm ((lls pl).take (d + 1))) = (wst b.cool (na b.rise c.toNat) k x.warm ((lls pl).take d)) + na b.rise c.toNat := by rw [ZK (Z0a hz), Z3x, g30]; simp only [cond_true, cond_false] <;> omega
 refine pur 5 rfl ?_
 refine ZG rfl ?_
 refine Z1 (sqt 7 rfl (pur 2 rfl (sp rfl (PE.fA Z3u rfl) rfl (sp rfl (PE.indexArr Z5a rfl rfl (by omega) (by omega)) rfl (spL rfl rfl (lh sc3 rfl (by rw [show 0 + 2 + c.toNat * 1 = 2 + c.toNat by omega]; exact Z0b (by omega))) rfl (sp rfl (PE.add rfl rfl (by omega)) rfl (pur 1 rfl (sqr 5 rfl ?_))))))))
 rw [← e1]
 refine pur 2 rfl ?_
 refine bsl (out := [_]) rfl Z1u zl3 rfl rfl rfl rfl rfl rfl (fun b46 => ?_)
 refine apO (o) rfl Z7F rfl rfl (Z0W (row := [.int .i64 ((wst b.cool (na b.rise c.toNat) k x.warm ((lls pl).take (d + 1))))]) rfl) rfl rfl ((by rw [Zd, Z3Z]; simp only [List.length_singleton]; omega)) rfl (fun o47 => ?_)
 refine pur 1 rfl (sqr 3 rfl (pur 1 rfl (sp rfl (PE.add rfl rfl (by omega)) rfl (pur 1 rfl ?_))))
 exact Zn ⟨⟨d + 1, by omega⟩, o47.cast (by rw [Z88]; simp [Zm])⟩ (fun w h => (h.del b46).ftail)
 obtain rfl : d = pl.length := by omega
 obtain ⟨aw, cw, he, hf⟩ := o.freeze
 rw [he, Zd, Z3Z]
 refine Sy.heap (fun w h => hf h) ?_
 clear he hf
 refine Zb (Zf (Zf (ZB (sqt 2 rfl (pur 2 rfl (Z4 ?_))))))
 exact rtA rfl rfl rfl ⟨aw, cw, rfl, rfl, rfl⟩ (fun w h => h.del b4)
theorem Z5Z (b : Barn) (ab : Option Addr) (cb : Nat) (hok : b.ok) (pl : List PL) (ap : Option Addr) (cp : Nat) (hpl : pl.length ≤ 9223372036854775807) (hpi : ∀ x ∈ pl, x.l.length ≤ 9223372036854775807) (hp9 : pl.length ≤ 1000000) (H : Zg) (R : Z6) [hB : MemRows ab 4 (Z7 b.bins) R] [hP : MemRows ap 1 (Z9 pl) R] [hI : MemF (Inn pl) R] :
    FnV Tryz.prog 69 [b.v (b.sl ab cb), .slice ap pl.length cp] H R (.tuple #[.int .i64 (Z5b b (lls pl)).1, .int .i64 (Z5b b (lls pl)).2.1, .bool (Z5b b (lls pl)).2.2]) := by
 have hmn := hok.many
 refine Zy Tryz.func69 rfl Tryz.ntmps69 rfl ?_
 refine sqt 4 rfl (bx rfl rfl rfl (fun b2 => pur 3 rfl (sqt 3 rfl (pur 3 rfl (Z0 (sqt 1 rfl (pur 1 rfl (Z3 ?_))))))))
 refine Zj (ι := {y : Nat × (Nat × Nat × Bool) // y.1 ≤ b.bins.length ∧ Bst (SA b (lls pl) y.1) y.2}) (fun y => ⟨[(1, .slice ap pl.length cp), (2, .pointer (some ⟨b2, 0, none⟩)), (7, .int .i64 y.1.2.1), (8, .int .i64 y.1.2.2.1), (9, .bool y.1.2.2.2), (10, .int .i64 y.1.1)], (b2, cel 84 (btl b (b.sl ab cb))) :: H, R⟩) (fun y => b.bins.length - y.1.1) ⟨(0, 0, 0, false), Nat.zero_le _, SA.start⟩ ?_ (fun y => ?_)
 exact Zr idH
 obtain ⟨⟨k, q⟩, hk, hbs⟩ := y
 dsimp only at hk hbs ⊢
 refine Z0 (sqt 5 rfl (pur 1 rfl (sp rfl (PE.fA Z0J rfl) rfl (spL rfl rfl (lh Z4C rfl rfl) rfl (sp rfl (PE.lenSl Z5i rfl) rfl (pur 1 rfl ?_))))))
 refine Z2 rfl ?_ ?_ <;> intro hc0 <;> try simp only [cS] at hc0
 obtain ⟨x, hx⟩ : ∃ x, b.bins[k]? = some x := ⟨_, List.getElem?_eq_getElem (by omega)⟩
 have hm := List.mem_of_getElem? hx
 have hh := hok.bins x hm
 have ho := hok.ord x hm
 have ex : b.binD k = x := Z07 hx
 refine Zl (a := ab) (sz := 4) (rows := Z7 b.bins) (by intro h0; simp [Z7] at h0; simp [h0] at hx) (fun ba oa he => ?_)
 subst he
 refine Z1 (Z0 (Z3 (sqt 8 rfl (sp rfl (PE.fA Z0J rfl) rfl (spL rfl rfl (lh Z4C rfl rfl) rfl (pur 1 rfl (sp rfl (PE.indexAddr Zac rfl rfl (by omega) (by omega)) rfl (sp rfl (PE.fA Z2B rfl) rfl (sp rfl (PE.fA Z0k rfl) rfl (spL rfl rfl (lf (j := 2) sc3 (Z01 hx) rfl) rfl (pur 1 rfl (Z3 ?_))))))))))))
 refine Zj (ι := {y : Int × (Nat × Nat × Bool) // x.lo ≤ y.1 ∧ y.1 ≤ x.hi + 1 ∧ Bst (SB b (lls pl) k y.1) y.2}) (fun y => ⟨[(1, .slice ap pl.length cp), (2, .pointer (some ⟨b2, 0, none⟩)), (7, .int .i64 y.1.2.1), (8, .int .i64 y.1.2.2.1), (9, .bool y.1.2.2.2), (10, .int .i64 k), (11, .int .i64 y.1.1)], (b2, cel 84 (btl b (b.sl (some ⟨ba, oa, none⟩) cb))) :: H, R⟩) (fun y => (x.hi + 1 - y.1.1).toNat) ⟨(x.lo, q), Int.le_refl _, by dsimp only; omega, SB.start (by rw [ex]) hbs⟩ ?_ (fun y => ?_)
 exact Zr idH
 obtain ⟨⟨c, q1⟩, hlo, hhi, hbs1⟩ := y
 dsimp only at hlo hhi hbs1 ⊢
 refine Z0 (sqt 9 rfl (pur 1 rfl (sp rfl (PE.fA Z0J rfl) rfl (spL rfl rfl (lh Z4C rfl rfl) rfl (pur 1 rfl (sp rfl (PE.indexAddr Zac rfl rfl (by omega) (by omega)) rfl (sp rfl (PE.fA Z2B rfl) rfl (sp rfl (PE.fA Z0e rfl) rfl (spL rfl rfl (lf (j := 3) sc3 (Z01 hx) rfl) rfl (pur 1 rfl ?_))))))))))
 refine Z2 rfl ?_ ?_ <;> intro hc1 <;> try simp only [cS] at hc1
 refine Z1 (Z0 (Z3 (sqt 6 rfl (spL rfl rfl (lhA (btl b (b.sl (some ⟨ba, oa, none⟩) cb)) Z1n rfl rfl rfl) rfl (pur 3 rfl ?_)))))
 refine cl rfl ZcN rfl rfl (Z3n b (some ⟨ba, oa, none⟩) cb hok pl ap cp hpl hpi hp9 k x hx c (by omega) _ _) ?_
 rintro _ _ _ ⟨aw, cw, rfl, rfl, rfl⟩
 refine pur 1 rfl (sqt 1 rfl (pur 1 rfl (Z3 ?_)))
 refine Zj (ι := {y : Nat × (Nat × Nat × Bool) // y.1 ≤ pl.length ∧ Bst (SC b (lls pl) k c y.1) y.2}) (fun y => ⟨[(1, .slice ap pl.length cp), (2, .pointer (some ⟨b2, 0, none⟩)), (7, .int .i64 y.1.2.1), (8, .int .i64 y.1.2.2.1), (9, .bool y.1.2.2.2), (10, .int .i64 k), (11, .int .i64 c), (12, .slice aw pl.length cw), (13, .int .i64 y.1.1)], (b2, cel 84 (btl b (b.sl (some ⟨ba, oa, none⟩) cb))) :: H, Z5 aw 1 (Zm (wL b.cool (na b.rise c.toNat) k x.warm (lls pl) pl.length)) :: R⟩) (fun y => pl.length - y.1.1) ⟨(0, q1), Nat.zero_le _, SC.start hbs1⟩ ?_ (fun y => ?_)
 exact Zr idH
 obtain ⟨⟨e, q2⟩, he2, hbs2⟩ := y
 dsimp only at he2 hbs2 ⊢
 have hqb := hbs2.bd (by rw [Zo]; exact he2)
 rw [Zo] at hqb
 refine Z0 (sqt 4 rfl (pur 2 rfl (sp rfl (PE.lenSl Z0n rfl) rfl (pur 1 rfl ?_))))
 refine Z2 rfl ?_ ?_ <;> intro hc2 <;> try simp only [cS] at hc2
 refine Zl (a := aw) (sz := 1) (rows := Zm (wL b.cool (na b.rise c.toNat) k x.warm (lls pl) pl.length)) (by intro h0; have := congrArg List.length h0; rw [Zd, Z3Z] at this; simp only [List.length_nil] at this; omega) (fun bw ow he => ?_)
 subst he
 refine Z1 (Z0 (Z3 (Z0 ?_)))
 refine Zi [0, 0, 3, 7, 0, 16, 0, 112, 240, 496, 1023, 2047, 4095, 8191, 16383, 32767, 32767, 131071, 262143, 524287] (tks 0 3 (.ld 3 (.tk 4 (.ld 5 (tks 6 3 (.ld 9 (tks 10 10 .done))))))) ZH (by kernel_rfl) ?_
 refine Zp 2 rfl (tk rfl (PE.indexAddr Z28 rfl rfl (by omega) (by omega)) rfl (ld rfl rfl (lf0 sc3 (Z0v (Z94 (d := e) (by omega))) rfl) rfl (tk rfl (PE.fA Z0J rfl) rfl (ld rfl rfl (lh Z4C rfl rfl) rfl (Zp 1 rfl (tk rfl (PE.indexAddr Zac rfl rfl (by omega) (by omega)) rfl (tk rfl (PE.fA Z5X rfl) rfl (ld rfl rfl (lf (j := 1) sc3 (Z01 hx) rfl) rfl (Zp 2 rfl ?_)))))))))
 refine Zh 61 rfl ?_ ?_ <;> intro g61
 try simp only [cS] at g61
 have hht : Za7 b (lls pl) k c e := by unfold Za7; rw [ex]; exact g61
 refine Zp 3 rfl ?_
 refine Zh 64 rfl ?_ ?_ <;> intro g64
 have hbn := hbs2.add (SC.hot hht) (.inl (by simpa using g64))
 refine Zp 5 rfl ?_
 refine Zq rfl ?_
 refine sqr 5 rfl (pur 5 rfl (sqr 3 rfl (pur 1 rfl (sp rfl (PE.add rfl rfl (by omega)) rfl (pur 1 rfl ?_)))))
 first | exact Ze ⟨(e + 1, e, k, true), by dsimp only; omega, hbn⟩ (by dsimp only; omega) idH | exact Ze ⟨(e + 1, q2), by dsimp only; omega, hbn⟩ (by dsimp only; omega) idH
 have hq2 : q2.2.2 = true := by simpa using g64
 refine Zp 5 rfl ?_
 refine Z2 rfl ?_ ?_ <;> intro hc3 <;> try simp only [cS] at hc3
 first | have hbn := hbs2.add (SC.hot hht) (.inr (by omega)) | skip
 refine sqr 5 rfl (pur 5 rfl (sqr 3 rfl (pur 1 rfl (sp rfl (PE.add rfl rfl (by omega)) rfl (pur 1 rfl ?_)))))
 first | exact Ze ⟨(e + 1, e, k, true), by dsimp only; omega, hbn⟩ (by dsimp only; omega) idH | exact Ze ⟨(e + 1, q2), by dsimp only; omega, hbn⟩ (by dsimp only; omega) idH
 first | have hbn := hbs2.keep (fun j d h => SC.le h) (SC.hot hht) hq2 (by omega) | skip
 refine Z1 (sqr 3 rfl (pur 1 rfl (sp rfl (PE.add rfl rfl (by omega)) rfl (pur 1 rfl ?_))))
 first | exact Ze ⟨(e + 1, e, k, true), by dsimp only; omega, hbn⟩ (by dsimp only; omega) idH | exact Ze ⟨(e + 1, q2), by dsimp only; omega, hbn⟩ (by dsimp only; omega) idH
 try simp only [cS] at g61
 have hht : ¬ Za7 b (lls pl) k c e := by unfold Za7; rw [ex]; omega
 have hbn := SC.cold hbs2 hht
 refine Zp 3 rfl ?_
 repeat refine tkU rfl rfl rfl rfl rfl rfl rfl ?_
 refine Zp 2 rfl ?_
 refine ZG rfl ?_
 refine Z1 (sqr 3 rfl (pur 1 rfl (sp rfl (PE.add rfl rfl (by omega)) rfl (pur 1 rfl ?_))))
 first | exact Ze ⟨(e + 1, e, k, true), by dsimp only; omega, hbn⟩ (by dsimp only; omega) idH | exact Ze ⟨(e + 1, q2), by dsimp only; omega, hbn⟩ (by dsimp only; omega) idH
 obtain rfl : e = pl.length := by omega
 have hbd := SC.done (by rw [ex]; exact hlo) (by rw [Zo]; exact hbs2)
 refine Zb (Zf (Zf (ZB (sqr 3 rfl (pur 1 rfl (sp rfl (PE.add rfl rfl (by omega)) rfl (pur 1 rfl ?_)))))))
 exact Zn ⟨(c + 1, q2), by dsimp only; omega, by dsimp only; omega, hbd⟩ (fun w h => h.ftail)
 refine Zb (Zf (Zf (ZB (sqr 3 rfl (pur 1 rfl (sp rfl (PE.add rfl rfl (by omega)) rfl (pur 1 rfl ?_)))))))
 exact Zn ⟨(k + 1, q1), by dsimp only; omega, SB.done (by rw [ex]; omega) hbs1⟩ idH
 obtain rfl : k = b.bins.length := by omega
 have hqe := Bst.burns hok hbs
 refine Zb (Zf (Zf (ZB (sqt 6 rfl (pur 6 rfl (Z4 ?_))))))
 exact rtC rfl rfl rfl rfl rfl ⟨by rw [← hqe]; rfl, rfl, rfl⟩ (fun w h => h.del b2)
theorem ZcX : cal Tryz.prog 28 = true := by kernel_rfl
theorem Zez : cal Tryz.prog 31 = true := by kernel_rfl
theorem Za4 : cal Tryz.prog 34 = true := by kernel_rfl
theorem Z5f : cal Tryz.prog 38 = true := by kernel_rfl
theorem Zeu : cal Tryz.prog 69 = true := by kernel_rfl
theorem ub4 : Tryz.prog.underlying 4 = some .bool := by kernel_rfl
def plU (b : Barn) (p : List (List Int)) : Int := bif decide (b.planned p = 0) then (bif (Z5b b p).2.2 then 0 else 6) else b.planned p
def plV (b : Barn) (p : List (List Int)) : Int := bif decide (b.planned p = 0) then (bif (Z5b b p).2.2 then 8 else 0) else b.planned p
def plW (b : Barn) (p : List (List Int)) (n : Int) : List (Int × Int) := bif decide (ZZ b p n = 0) then Z5e b p n else []
def plB (b : Barn) (p : List (List Int)) : Barn := bif decide (b.planned p = 0) && !(Z5b b p).2.2 then b.withB (Zz b.bins (b.burnsF b.warms p 0).2) else zbarn
def plQ (b : Barn) (p : List (List Int)) : Nat × Nat × Bool := bif decide (b.planned p = 0) then Z5b b p else (0, 0, false)
def plK (b : Barn) (p : List (List Int)) : Bool := bif decide (b.planned p = 0) then !(Z5b b p).2.2 else false
theorem Z64 {b : Barn} {p : List (List Int)} (h : (b.burnsF b.warms p 0).1 = none) : Z5b b p = (0, 0, false) := by unfold Z5b; rw [h]
theorem Z91 {b : Barn} {p : List (List Int)} {q : Nat × Nat} (h : (b.burnsF b.warms p 0).1 = some q) : Z5b b p = (q.1, q.2, true) := by unfold Z5b; rw [h]
theorem Z3A (b : Barn) (p : List (List Int)) : (∃ ws, b.burnsF b.warms p 0 = (none, ws) ∧ Z5b b p = (0, 0, false)) ∨ ∃ d k ws, b.burnsF b.warms p 0 = (some (d, k), ws) ∧ Z5b b p = (d, k, true) := by
  cases h : b.burnsF b.warms p 0 with
  | mk o ws => cases o with
    | none => exact .inl ⟨ws, rfl, Z64 (by rw [h])⟩
    | some q => exact .inr ⟨q.1, q.2, ws, rfl, Z91 (by rw [h])⟩
theorem Z8n {b : Barn} {p : List (List Int)} {n : Int} (h : b.planned p ≠ 0) : ZZ b p n = b.planned p := by unfold ZZ; rw [decide_eq_false h]; rfl
theorem ZfC {b : Barn} {p : List (List Int)} {n : Int} (h : b.planned p ≠ 0) : ZZ b p n = b.planned p ∧ plU b p = b.planned p ∧ plV b p = b.planned p ∧ plW b p n = [] ∧ plQ b p = (0, 0, false) ∧ plB b p = zbarn := by
  have e := Z8n (n := n) h
  refine ⟨e, ?_, ?_, ?_, ?_, ?_⟩
  · unfold plU; rw [decide_eq_false h]; rfl
  · unfold plV; rw [decide_eq_false h]; rfl
  · unfold plW; rw [e, decide_eq_false h]; rfl
  · unfold plQ; rw [decide_eq_false h]; rfl
  · unfold plB; rw [decide_eq_false h]; rfl
theorem ZfZ {b : Barn} {p : List (List Int)} (h : b.planned p = 0) (h2 : (Z5b b p).2.2 = true) : plU b p = 0 ∧ plV b p = 8 ∧ plQ b p = Z5b b p ∧ plB b p = zbarn := by
  refine ⟨?_, ?_, ?_, ?_⟩
  · unfold plU; rw [decide_eq_true h, h2]; rfl
  · unfold plV; rw [decide_eq_true h, h2]; rfl
  · unfold plQ; rw [decide_eq_true h]; rfl
  · unfold plB; rw [decide_eq_true h, h2]; rfl
theorem ZdC {b : Barn} {p : List (List Int)} (h : b.planned p = 0) (h2 : (Z5b b p).2.2 = false) : ∃ ws, b.burnsF b.warms p 0 = (none, ws) ∧ plU b p = 6 ∧ plV b p = 0 ∧ plQ b p = (0, 0, false) ∧ plB b p = b.withB (Zz b.bins ws) := by
  rcases Z3A b p with ⟨ws, h3, h4⟩ | ⟨d, k, ws, h3, h4⟩
  · refine ⟨ws, h3, ?_, ?_, ?_, ?_⟩
    · unfold plU; rw [decide_eq_true h, h2]; rfl
    · unfold plV; rw [decide_eq_true h, h2]; rfl
    · unfold plQ; rw [decide_eq_true h]; exact h4
    · unfold plB; rw [decide_eq_true h, h2, h3]; rfl
  · rw [h4] at h2; cases h2
theorem ZaW (b : Barn) (p : List (List Int)) : b.keepsV p = .tuple #[.bool (plK b p), .int .i64 (b.planned p)] := by
  unfold Barn.keepsV plK
  by_cases h : b.planned p = 0
  · rw [decide_eq_true h, cond_true, cond_true, h]
    rcases Z3A b p with ⟨ws, h3, h4⟩ | ⟨d, k, ws, h3, h4⟩ <;> rw [h3, h4] <;> rfl
  · rw [decide_eq_false h]; rfl
theorem ZaS (b : Barn) (p : List (List Int)) : b.burnsV p = .tuple #[.int .i64 (plQ b p).1, .int .i64 (plQ b p).2.1, .int .i64 (plU b p)] := by
  unfold Barn.burnsV plQ plU
  by_cases h : b.planned p = 0
  · rw [decide_eq_true h, cond_true, cond_true, cond_true]
    rcases Z3A b p with ⟨ws, h3, h4⟩ | ⟨d, k, ws, h3, h4⟩ <;> rw [h3, h4] <;> rfl
  · rw [decide_eq_false h]; rfl
theorem Z8Y {b : Barn} {p : List (List Int)} (h : b.planned p = 0) : plK b p = !(plQ b p).2.2 := by unfold plK plQ; rw [decide_eq_true h]; rfl
theorem Z5M {b : Barn} {p : List (List Int)} (h : b.planned p ≠ 0) : plK b p = false := by unfold plK; rw [decide_eq_false h]; rfl
theorem Z9Z {b : Barn} {p : List (List Int)} {ws : List Int} (h : b.burnsF b.warms p 0 = (none, ws)) {k : Nat} {x : HBin} (hx : b.bins[k]? = some x) : na ws k = wst b.cool (b.worst x) k x.warm p := by
  have hk := (List.getElem?_eq_some_iff.1 hx).1
  have h1 := b.burns_at p _ ws 0 h k hk (by simp [Barn.warms])
  have ew : na b.warms k = x.warm := by unfold na Barn.warms; rw [List.getD_eq_getElem?_getD, List.getElem?_map, hx]; rfl
  rw [Z07 hx, ew] at h1
  exact h1
theorem Zco {l : List HBin} {ws : List Int} (hl : ws.length = l.length) {k : Nat} {x : HBin} (hx : l[k]? = some x) (h : na ws k = x.warm) : (Zz l ws).take k ++ l.drop k = (Zz l ws).take (k + 1) ++ l.drop (k + 1) := by
  have hk := (List.getElem?_eq_some_iff.1 hx).1
  have hw : ws[k]? = some (na ws k) := Z0f (by omega)
  rw [List.take_add_one, Z0z hx hw, h, List.drop_eq_getElem_cons hk, (List.getElem?_eq_some_iff.1 hx).2, List.append_assoc]
  rfl
theorem Zax (b : Barn) (ab : Option Addr) (cb : Nat) (hl : b.bins.length ≤ 9223372036854775807) (hr : b.rise.length = 6) (pl : List PL) (ap : Option Addr) (cp : Nat) (hpl : pl.length ≤ 9223372036854775807) (hpi : ∀ x ∈ pl, x.l.length ≤ 9223372036854775807) (n : Int) (H : Zg) (R : Z6) [hB : MemRows ab 4 (Z7 b.bins) R] [hP : MemRows ap 1 (Z9 pl) R] [hI : MemF (Inn pl) R] : Fn Tryz.prog 47 [b.v (b.sl ab cb), .slice ap pl.length cp, .int .i64 n] H R (fun v H' R' => ∃ (ax : Option Addr) (cx : Nat), v = .tuple #[.slice ax (plW b (lls pl) n).length cx, .int .i64 (ZZ b (lls pl) n)] ∧ H' = H ∧ R' = Z5 ax 2 (Z0H (plW b (lls pl) n)) :: R) := fun w hw => by
  refine CallsIn.mono (Z8Q b ab cb hl hr pl ap cp hpl hpi n H R w hw) ?_
  rintro e' w' ⟨u, H', R', ⟨(⟨hne, rfl, rfl⟩ | ⟨he0, o, rfl, rfl⟩), rfl⟩, he, hs'⟩
  · have e0 : plW b (lls pl) n = [] := by unfold plW; rw [decide_eq_false hne]; rfl
    exact ⟨_, _, _, ⟨none, 0, by rw [e0]; rfl, rfl, rfl⟩, he, by rw [e0]; exact St.noRows hs'⟩
  · have e0 : plW b (lls pl) n = Z5e b (lls pl) n := by unfold plW; rw [decide_eq_true he0]; rfl
    obtain ⟨ax, cx, hfs, hf⟩ := o.freeze
    refine ⟨_, _, _, ⟨ax, cx, by rw [hfs, Z2M, e0, he0], rfl, rfl⟩, he, by rw [e0]; exact hf hs'⟩
theorem Zch (b : Barn) (ab : Option Addr) (cb : Nat) (hl : b.bins.length ≤ 9223372036854775807) (hr : b.rise.length = 6) (pl : List PL) (ap : Option Addr) (cp : Nat) (hpl : pl.length ≤ 9223372036854775807) (hpi : ∀ x ∈ pl, x.l.length ≤ 9223372036854775807) (H : Zg) (R : Z6) [hB : MemRows ab 4 (Z7 b.bins) R] [hP : MemRows ap 1 (Z9 pl) R] [hI : MemF (Inn pl) R] : FnV Tryz.prog 49 [b.v (b.sl ab cb), .slice ap pl.length cp] H R (.tuple #[.bool (plK b (lls pl)), .int .i64 (b.planned (lls pl))]) := ZaW b (lls pl) ▸ ZaC b ab cb hl hr pl ap cp hpl hpi H R
theorem ZcJ (b : Barn) (ab : Option Addr) (cb : Nat) (hl : b.bins.length ≤ 9223372036854775807) (hr : b.rise.length = 6) (pl : List PL) (ap : Option Addr) (cp : Nat) (hpl : pl.length ≤ 9223372036854775807) (hpi : ∀ x ∈ pl, x.l.length ≤ 9223372036854775807) (H : Zg) (R : Z6) [hB : MemRows ab 4 (Z7 b.bins) R] [hP : MemRows ap 1 (Z9 pl) R] [hI : MemF (Inn pl) R] : FnV Tryz.prog 48 [b.v (b.sl ab cb), .slice ap pl.length cp] H R (.tuple #[.int .i64 (plQ b (lls pl)).1, .int .i64 (plQ b (lls pl)).2.1, .int .i64 (plU b (lls pl))]) := ZaS b (lls pl) ▸ ZbH b ab cb hl hr pl ap cp hpl hpi H R
theorem Zcy (b : Barn) (ab : Option Addr) (cb : Nat) (hl : b.bins.length ≤ 9223372036854775807) (hr : b.rise.length = 6) (pl : List PL) (ap : Option Addr) (cp : Nat) (hpl : pl.length ≤ 9223372036854775807) (hpi : ∀ x ∈ pl, x.l.length ≤ 9223372036854775807) (H : Zg) (R : Z6) [hB : MemRows ab 4 (Z7 b.bins) R] [hP : MemRows ap 1 (Z9 pl) R] [hI : MemF (Inn pl) R] : Fn Tryz.prog 70 [b.v (b.sl ab cb), .slice ap pl.length cp] H R (fun v H' R' => R' = R ∧ ((plB b (lls pl) = zbarn ∧ v = .tuple #[zbv, .int .i64 (plV b (lls pl))] ∧ H' = H) ∨
    (∃ (ws : List Int) (bo : Nat), ws.length = b.bins.length ∧ plB b (lls pl) = b.withB (Zz b.bins ws) ∧ v = .tuple #[(b.withB (Zz b.bins ws)).v ((b.withB (Zz b.bins ws)).sl (some ⟨bo, 0, none⟩) b.bins.length), .int .i64 (plV b (lls pl))] ∧ H' = (bo, cel 40 (Z7 (Zz b.bins ws)).flatten) :: H))) := fun w hw => by
  refine CallsIn.mono (Z7L b ab cb hl hr pl ap cp hpl hpi H R w hw) ?_
  rintro e' w' ⟨u, H', R', ⟨hR, hq⟩, he, hs'⟩
  refine ⟨u, H', R', ⟨hR, ?_⟩, he, hs'⟩
  rcases hq with ⟨hne, rfl, rfl⟩ | ⟨h0, ⟨q, ws, hb⟩, rfl, rfl⟩ | ⟨h0, ws, bo, hb, hcw, rfl, rfl⟩
  · obtain ⟨_, _, e3, _, _, e6⟩ := ZfC (n := 0) hne
    exact .inl ⟨e6, by rw [e3], rfl⟩
  · have e := Z91 (b := b) (p := (lls pl)) (q := q) (by rw [hb])
    obtain ⟨_, e2, _, e4⟩ := ZfZ h0 (by rw [e])
    exact .inl ⟨e4, by rw [e2], rfl⟩
  · have e := Z64 (b := b) (p := (lls pl)) (by rw [hb])
    obtain ⟨ws', h1, _, e2, _, e4⟩ := ZdC h0 (by rw [e])
    rw [hb] at h1
    cases h1
    exact .inr ⟨ws, bo, hcw.len, e4, by rw [e2], rfl⟩
theorem Z8f (b : Barn) (ab : Option Addr) (cb : Nat) (pl : List PL) (ap : Option Addr) (cp : Nat) (hpl : pl.length ≤ 9223372036854775807) (hpi : ∀ x ∈ pl, x.l.length ≤ 9223372036854775807) (n : Int) (hn : -9223372036854775808 ≤ n ∧ n ≤ 9223372036854775807) (hl : b.bins.length ≤ 9223372036854775807) (hr : b.rise.length = 6) (H : Zg) (R : Z6) [hB : MemRows ab 4 (Z7 b.bins) R] [hP : MemRows ap 1 (Z9 pl) R] [hI : MemF (Inn pl) R] :
    Fn Tryz.prog 20 [b.v (b.sl ab cb), .slice ap pl.length cp, .int .i64 n] H R (fun v H' R' => v = .bool true ∧ H' = H ∧ R' = R) := by
 refine Zy Tryz.func20 rfl Tryz.ntmps20 rfl ?_
 refine sqt 2 rfl (bx rfl rfl rfl (fun b3 => pur 1 rfl (Z0 (sqt 6 rfl (spL rfl rfl (lhA (btl b (b.sl ab cb)) ZD rfl rfl rfl) rfl ?_)))))
 refine clV rfl ZdN rfl rfl (Z89 b ab cb hl _ _) ?_
 refine pur 1 rfl ?_
 refine Zh 35 rfl ?_ ?_ <;> intro g35
 refine pur 3 rfl ?_
 refine Zq rfl ?_
 refine sqt 2 rfl ?_
 refine clV rfl Z1d rfl rfl (Z02 _ _) ?_
 refine pur 1 rfl (Z4 ?_)
 exact rtA rfl rfl rfl ⟨rfl, rfl, rfl⟩ (fun w h => h.del b3)
 refine pur 1 rfl ?_
 refine Z0K rfl rfl rfl rfl ZcX rfl rfl (Z9t pl ap cp hpl hpi _ _) ?_
 refine pur 1 rfl ?_
 refine Z2 rfl ?_ ?_ <;> intro hc0
 refine sqt 2 rfl ?_
 refine clV rfl Z1d rfl rfl (Z02 _ _) ?_
 refine pur 1 rfl (Z4 ?_)
 exact rtA rfl rfl rfl ⟨rfl, rfl, rfl⟩ (fun w h => h.del b3)
 have h8 : ¬ 8 < b.bins.length := by simpa using g35
 obtain ⟨hp24, hpe8'⟩ := Z4q hc0
 rw [Zo] at hp24
 have hpe8 : ∀ x ∈ pl, x.l.length ≤ 8 := fun x hx => hpe8' x.l (List.mem_map.2 ⟨x, hx, rfl⟩)
 have hp9 : pl.length ≤ 1000000 := by omega
 refine Z1 (Z0 ?_)
 refine Z3F [0, 1, 0, 7, 0, 31, 0, 0, 255, 511, 1023] [0, 1, 2, 3, 4, 5, 6, 7, 8, 9, 10] ZH (by kernel_rfl) rfl (fun s L H1 R1 => ∃ (a1 : Option Addr) (c1 : Nat) (a2 : Option Addr) (c2 : Nat) (ql : List PL) (aq : Option Addr) (cq : Nat) (b7 : Nat) (x7 : List Value) (b8 : Nat) (x8 : List Value), Sub [(1, .slice ap pl.length cp), (2, .int .i64 n), (3, .pointer (some ⟨b3, 0, none⟩))] L ∧ (∀ f ∈ (R : Z6), f ∈ R1) ∧ (s 0 = true → lk L 40 = some (b.v (b.sl ab cb))) ∧ (s 1 = true → lk L 41 = some (b.v (b.sl a1 c1)) ∧ (Z5 a1 4 (Z7 b.bins)) ∈ R1) ∧ (s 2 = true → lk L 42 = some (b.v (b.sl ab cb))) ∧ (s 3 = true → lk L 43 = some (b.v (b.sl a2 c2)) ∧ (Z5 a2 4 (Z7 b.bins)) ∈ R1) ∧ (s 4 = true → lk L 44 = some (.slice ap pl.length cp)) ∧ (s 5 = true → lk L 45 = some (.slice aq ql.length cq) ∧ (Z5 aq 1 (Z9 ql)) ∈ R1 ∧ (Inn ql) ∈ R1 ∧ (lls ql = lls pl)) ∧ (s 6 = true → lk L 7 = some (.pointer (some ⟨b7, 0, none⟩)) ∧ (s 8 = false → x7 = [.int .i64 0, .int .i64 0, .int .i64 0, .int .i64 0, .int .i64 0, .int .i64 0, .int .i64 0, .int .i64 0, .slice none 0 0])) ∧ (s 7 = true → lk L 8 = some (.pointer (some ⟨b8, 0, none⟩)) ∧ (s 9 = false → x8 = [.int .i64 0, .int .i64 0, .int .i64 0, .int .i64 0, .int .i64 0, .int .i64 0, .int .i64 0, .int .i64 0, .slice none 0 0])) ∧ (s 8 = true → x7 = btl b (b.sl a1 c1)) ∧ (s 9 = true → x8 = btl b (b.sl a2 c2)) ∧ (s 10 = true → lk L 9 = some (.slice aq ql.length cq)) ∧ ∀ w, St H1 R1 w → St ((bif s 7 then [(b8, cel 84 x8)] else []) ++ ((bif s 6 then [(b7, cel 27 x7)] else []) ++ ((b3, cel 27 (btl b (b.sl ab cb))) :: H))) R1 w) ?_ ?_ ?_
 exact ⟨none, 0, none, 0, [], none, 0, 0, [], 0, [], (by repeat' first | exact Sub.nil | apply Sub.cons | rfl | (simp [lk]; omega)), fun _ hf => hf, ff, ff, ff, ff, ff, ff, ff, ff, ff, ff, ff, fun w h => h⟩
 refine ⟨?_, ?_, ?_, ?_, ?_, ?_, ?_, ?_, ?_, ?_, ?_, trivial⟩
 intro s Lz Hz Rz hdn hs hpre hI K hK
 obtain ⟨a1, c1, a2, c2, ql, aq, cq, b7, x7, b8, x8, hL0, hR0, q0, q1, q2, q3, q4, q5, q6, q7, q8, q9, q10, hH⟩ := hI
 refine Sy.heap hH ?_
 refine spL rfl (Sub.lk hL0 _ _ rfl) ((lhA (btl b (b.sl ab cb)) ZD rfl rfl rfl)) rfl ?_
 exact hK _ _ _ ⟨a1, c1, a2, c2, ql, aq, cq, b7, x7, b8, x8, Zw rfl hL0, hR0, fun _ => ZJ, lm2 q1, lm1 q2, lm2 q3, lm1 q4, lm2 q5, lm2 q6, lm2 q7, q8, q9, lm1 q10, fun w h => h⟩
 intro s Lz Hz Rz hdn hs hpre hI K hK
 obtain ⟨a1, c1, a2, c2, ql, aq, cq, b7, x7, b8, x8, hL0, hR0, q0, q1, q2, q3, q4, q5, q6, q7, q8, q9, q10, hH⟩ := hI
 have h0 : s 0 = true := hpre 0 rfl
 refine Sy.heap hH ?_
 haveI m0 : MemRows ab 4 (Z7 b.bins) Rz := ⟨hR0 _ (inferInstance : MemRows ab 4 (Z7 b.bins) (R)).mem⟩
 refine cl rfl Z6T rfl (by simp only [evs, show ev Lz (.tmp 40) = _ from (q0 h0)]) (Z5H b ab cb (by omega) _ _) ?_
 rintro _ _ R1 ⟨a1, c1, rfl, rfl, hR1⟩
 obtain rfl := hR1.symm
 clear hR1
 exact hK _ _ _ ⟨a1, c1, a2, c2, ql, aq, cq, b7, x7, b8, x8, Zw rfl hL0, Z0j (hR0), fun h => Zc rfl (q0 h), fun _ => ⟨ZJ, (by simp)⟩, fun h => Zc rfl (q2 h), fun h => ⟨Zc rfl (q3 h).1, List.mem_cons_of_mem _ ((q3 h).2)⟩, fun h => Zc rfl (q4 h), fun h => ⟨Zc rfl (q5 h).1, List.mem_cons_of_mem _ ((q5 h).2.1), List.mem_cons_of_mem _ ((q5 h).2.2.1), (q5 h).2.2.2⟩, fun h => ⟨Zc rfl (q6 h).1, (q6 h).2⟩, fun h => ⟨Zc rfl (q7 h).1, (q7 h).2⟩, nof hdn hs 8, q9, fun h => Zc rfl (q10 h), fun w h => h⟩
 intro s Lz Hz Rz hdn hs hpre hI K hK
 obtain ⟨a1, c1, a2, c2, ql, aq, cq, b7, x7, b8, x8, hL0, hR0, q0, q1, q2, q3, q4, q5, q6, q7, q8, q9, q10, hH⟩ := hI
 refine Sy.heap hH ?_
 refine spL rfl (Sub.lk hL0 _ _ rfl) ((lhA (btl b (b.sl ab cb)) ZD rfl rfl rfl)) rfl ?_
 exact hK _ _ _ ⟨a1, c1, a2, c2, ql, aq, cq, b7, x7, b8, x8, Zw rfl hL0, hR0, lm1 q0, lm2 q1, fun _ => ZJ, lm2 q3, lm1 q4, lm2 q5, lm2 q6, lm2 q7, q8, q9, lm1 q10, fun w h => h⟩
 intro s Lz Hz Rz hdn hs hpre hI K hK
 obtain ⟨a1, c1, a2, c2, ql, aq, cq, b7, x7, b8, x8, hL0, hR0, q0, q1, q2, q3, q4, q5, q6, q7, q8, q9, q10, hH⟩ := hI
 obtain ⟨h0, h1, h2⟩ : s 0 = true ∧ s 1 = true ∧ s 2 = true := ⟨hpre 0 rfl, hpre 1 rfl, hpre 2 rfl⟩
 refine Sy.heap hH ?_
 haveI m0 : MemRows ab 4 (Z7 b.bins) Rz := ⟨hR0 _ (inferInstance : MemRows ab 4 (Z7 b.bins) (R)).mem⟩
 refine cl rfl Z8h rfl (by simp only [evs, show ev Lz (.tmp 42) = _ from (q2 h2)]) (Z2c b ab cb (by omega) _ _) ?_
 rintro _ _ R1 ⟨a2, c2, rfl, rfl, hR1⟩
 obtain rfl := hR1.symm
 clear hR1
 exact hK _ _ _ ⟨a1, c1, a2, c2, ql, aq, cq, b7, x7, b8, x8, Zw rfl hL0, Z0j (hR0), fun h => Zc rfl (q0 h), fun h => ⟨Zc rfl (q1 h).1, List.mem_cons_of_mem _ ((q1 h).2)⟩, fun h => Zc rfl (q2 h), fun _ => ⟨ZJ, (by simp)⟩, fun h => Zc rfl (q4 h), fun h => ⟨Zc rfl (q5 h).1, List.mem_cons_of_mem _ ((q5 h).2.1), List.mem_cons_of_mem _ ((q5 h).2.2.1), (q5 h).2.2.2⟩, fun h => ⟨Zc rfl (q6 h).1, (q6 h).2⟩, fun h => ⟨Zc rfl (q7 h).1, (q7 h).2⟩, q8, nof hdn hs 9, fun h => Zc rfl (q10 h), fun w h => h⟩
 intro s Lz Hz Rz hdn hs hpre hI K hK
 obtain ⟨a1, c1, a2, c2, ql, aq, cq, b7, x7, b8, x8, hL0, hR0, q0, q1, q2, q3, q4, q5, q6, q7, q8, q9, q10, hH⟩ := hI
 refine Sy.heap hH ?_
 refine sp rfl (PE.move (Sub.lk hL0 _ _ rfl)) rfl ?_
 exact hK _ _ _ ⟨a1, c1, a2, c2, ql, aq, cq, b7, x7, b8, x8, Zw rfl hL0, hR0, lm1 q0, lm2 q1, lm1 q2, lm2 q3, fun _ => ZJ, lm2 q5, lm2 q6, lm2 q7, q8, q9, lm1 q10, fun w h => h⟩
 intro s Lz Hz Rz hdn hs hpre hI K hK
 obtain ⟨a1, c1, a2, c2, ql, aq, cq, b7, x7, b8, x8, hL0, hR0, q0, q1, q2, q3, q4, q5, q6, q7, q8, q9, q10, hH⟩ := hI
 obtain ⟨h0, h1, h2, h3, h4⟩ : s 0 = true ∧ s 1 = true ∧ s 2 = true ∧ s 3 = true ∧ s 4 = true := ⟨hpre 0 rfl, hpre 1 rfl, hpre 2 rfl, hpre 3 rfl, hpre 4 rfl⟩
 refine Sy.heap hH ?_
 haveI m0 : MemRows ap 1 (Z9 pl) Rz := ⟨hR0 _ (inferInstance : MemRows ap 1 (Z9 pl) (R)).mem⟩
 haveI m1 : MemF (Inn pl) Rz := ⟨hR0 _ (inferInstance : MemF (Inn pl) (R)).mem⟩
 refine cl rfl Zez rfl (by simp only [evs, show ev Lz (.tmp 44) = _ from (q4 h4)]) (Z4X pl ap cp (by omega) (fun x hx => by have := hpe8 x hx; omega) _ _) ?_
 rintro _ _ R1 ⟨ql, aq, cq, hqe, rfl, rfl, hR1⟩
 obtain rfl := hR1.symm
 clear hR1
 exact hK _ _ _ ⟨a1, c1, a2, c2, ql, aq, cq, b7, x7, b8, x8, Zw rfl hL0, Z0j (Z0j (hR0)), fun h => Zc rfl (q0 h), fun h => ⟨Zc rfl (q1 h).1, List.mem_cons_of_mem _ (List.mem_cons_of_mem _ ((q1 h).2))⟩, fun h => Zc rfl (q2 h), fun h => ⟨Zc rfl (q3 h).1, List.mem_cons_of_mem _ (List.mem_cons_of_mem _ ((q3 h).2))⟩, fun h => Zc rfl (q4 h), fun _ => ⟨ZJ, (by simp), (by simp), hqe⟩, fun h => ⟨Zc rfl (q6 h).1, (q6 h).2⟩, fun h => ⟨Zc rfl (q7 h).1, (q7 h).2⟩, q8, q9, nof hdn hs 10, fun w h => h⟩
 intro s Lz Hz Rz hdn hs hpre hI K hK
 obtain ⟨a1, c1, a2, c2, ql, aq, cq, b7, x7, b8, x8, hL0, hR0, q0, q1, q2, q3, q4, q5, q6, q7, q8, q9, q10, hH⟩ := hI
 refine Sy.heap hH ?_
 refine alc rfl Z0w rfl (fun b7 => ?_)
 exact hK _ _ _ ⟨a1, c1, a2, c2, ql, aq, cq, b7, [.int .i64 0, .int .i64 0, .int .i64 0, .int .i64 0, .int .i64 0, .int .i64 0, .int .i64 0, .int .i64 0, .slice none 0 0], b8, x8, Zw rfl hL0, hR0, lm1 q0, lm2 q1, lm1 q2, lm2 q3, lm1 q4, lm2 q5, fun _ => ⟨ZJ, fun _ => rfl⟩, lm2 q7, nof hdn hs 8, q9, lm1 q10, fun w h => by rw [hs] at h; exact h.perm (List.perm_middle.symm.trans (List.Perm.append_left _ (.refl _)))⟩
 intro s Lz Hz Rz hdn hs hpre hI K hK
 obtain ⟨a1, c1, a2, c2, ql, aq, cq, b7, x7, b8, x8, hL0, hR0, q0, q1, q2, q3, q4, q5, q6, q7, q8, q9, q10, hH⟩ := hI
 refine Sy.heap hH ?_
 refine alc rfl ZbL rfl (fun b8 => ?_)
 exact hK _ _ _ ⟨a1, c1, a2, c2, ql, aq, cq, b7, x7, b8, [.int .i64 0, .int .i64 0, .int .i64 0, .int .i64 0, .int .i64 0, .int .i64 0, .int .i64 0, .int .i64 0, .slice none 0 0], Zw rfl hL0, hR0, lm1 q0, lm2 q1, lm1 q2, lm2 q3, lm1 q4, lm2 q5, lm2 q6, fun _ => ⟨ZJ, fun _ => rfl⟩, q8, nof hdn hs 9, lm1 q10, fun w h => by rw [hs] at h; exact h.perm (.refl _)⟩
 intro s Lz Hz Rz hdn hs hpre hI K hK
 obtain ⟨a1, c1, a2, c2, ql, aq, cq, b7, x7, b8, x8, hL0, hR0, q0, q1, q2, q3, q4, q5, q6, q7, q8, q9, q10, hH⟩ := hI
 obtain ⟨h0, h1, h2, h3, h4, h5, h6, h7⟩ : s 0 = true ∧ s 1 = true ∧ s 2 = true ∧ s 3 = true ∧ s 4 = true ∧ s 5 = true ∧ s 6 = true ∧ s 7 = true := ⟨hpre 0 rfl, hpre 1 rfl, hpre 2 rfl, hpre 3 rfl, hpre 4 rfl, hpre 5 rfl, hpre 6 rfl, hpre 7 rfl⟩
 refine Sy.heap hH ?_
 obtain rfl := (q6 h6).2 hs
 refine Sy.heap (H' := (bif s 7 then [(b8, cel 84 x8)] else []) ++ ((b7, cel 27 [.int .i64 0, .int .i64 0, .int .i64 0, .int .i64 0, .int .i64 0, .int .i64 0, .int .i64 0, .int .i64 0, .slice none 0 0]) :: ((b3, cel 27 (btl b (b.sl ab cb))) :: H))) (fun w h => by rw [h6] at h; exact h) ?_
 refine Z1b (l' := btl b (b.sl a1 c1)) rfl (q6 h6).1 (q1 h1).1 Z03 rfl rfl rfl rfl (Nat.le_refl _) ?_
 exact hK _ _ _ ⟨a1, c1, a2, c2, ql, aq, cq, b7, btl b (b.sl a1 c1), b8, x8, hL0, hR0, q0, q1, q2, q3, q4, q5, fun h => ⟨(q6 h).1, fun h => by cases (show true = false from h)⟩, q7, fun _ => rfl, q9, q10, fun w h => by show St ((bif s 7 then [(b8, cel 84 x8)] else []) ++ ((bif s 6 then [(b7, cel 27 (btl b (b.sl a1 c1)))] else []) ++ ((b3, cel 27 (btl b (b.sl ab cb))) :: H))) Rz w; rw [h6]; exact h⟩
 intro s Lz Hz Rz hdn hs hpre hI K hK
 obtain ⟨a1, c1, a2, c2, ql, aq, cq, b7, x7, b8, x8, hL0, hR0, q0, q1, q2, q3, q4, q5, q6, q7, q8, q9, q10, hH⟩ := hI
 obtain ⟨h0, h1, h2, h3, h4, h5, h6, h7, h8⟩ : s 0 = true ∧ s 1 = true ∧ s 2 = true ∧ s 3 = true ∧ s 4 = true ∧ s 5 = true ∧ s 6 = true ∧ s 7 = true ∧ s 8 = true := ⟨hpre 0 rfl, hpre 1 rfl, hpre 2 rfl, hpre 3 rfl, hpre 4 rfl, hpre 5 rfl, hpre 6 rfl, hpre 7 rfl, hpre 8 rfl⟩
 refine Sy.heap hH ?_
 obtain rfl := (q7 h7).2 hs
 refine Sy.heap (H' := (b8, cel 84 [.int .i64 0, .int .i64 0, .int .i64 0, .int .i64 0, .int .i64 0, .int .i64 0, .int .i64 0, .int .i64 0, .slice none 0 0]) :: ((bif s 6 then [(b7, cel 27 x7)] else []) ++ ((b3, cel 27 (btl b (b.sl ab cb))) :: H))) (fun w h => by rw [h7] at h; exact h) ?_
 refine Z1b (l' := btl b (b.sl a2 c2)) rfl (q7 h7).1 (q3 h3).1 Zd1 rfl rfl rfl rfl (Nat.le_refl _) ?_
 exact hK _ _ _ ⟨a1, c1, a2, c2, ql, aq, cq, b7, x7, b8, btl b (b.sl a2 c2), hL0, hR0, q0, q1, q2, q3, q4, q5, q6, fun h => ⟨(q7 h).1, fun h => by cases (show true = false from h)⟩, q8, fun _ => rfl, q10, fun w h => by show St ((bif s 7 then [(b8, cel 84 (btl b (b.sl a2 c2)))] else []) ++ ((bif s 6 then [(b7, cel 27 x7)] else []) ++ ((b3, cel 27 (btl b (b.sl ab cb))) :: H))) Rz w; rw [h7]; exact h⟩
 intro s Lz Hz Rz hdn hs hpre hI K hK
 obtain ⟨a1, c1, a2, c2, ql, aq, cq, b7, x7, b8, x8, hL0, hR0, q0, q1, q2, q3, q4, q5, q6, q7, q8, q9, q10, hH⟩ := hI
 obtain ⟨h0, h1, h2, h3, h4, h5, h6, h7, h8, h9⟩ : s 0 = true ∧ s 1 = true ∧ s 2 = true ∧ s 3 = true ∧ s 4 = true ∧ s 5 = true ∧ s 6 = true ∧ s 7 = true ∧ s 8 = true ∧ s 9 = true := ⟨hpre 0 rfl, hpre 1 rfl, hpre 2 rfl, hpre 3 rfl, hpre 4 rfl, hpre 5 rfl, hpre 6 rfl, hpre 7 rfl, hpre 8 rfl, hpre 9 rfl⟩
 refine Sy.heap hH ?_
 refine sp rfl (PE.assign (q5 h5).1) rfl ?_
 exact hK _ _ _ ⟨a1, c1, a2, c2, ql, aq, cq, b7, x7, b8, x8, Zw rfl hL0, hR0, lm1 q0, lm2 q1, lm1 q2, lm2 q3, lm1 q4, lm2 q5, lm2 q6, lm2 q7, q8, q9, fun _ => ZJ, fun w h => h⟩
 intro Lz Hz Rz hI
 obtain ⟨a1, c1, a2, c2, ql, aq, cq, b7, x7, b8, x8, hL0, hR0, q0, q1, q2, q3, q4, q5, q6, q7, q8, q9, q10, hH⟩ := hI
 obtain rfl := q9 rfl
 obtain rfl := q8 rfl
 have hqe : lls ql = lls pl := (q5 rfl).2.2.2
 refine Sy.weak (L' := [(8, .pointer (some ⟨b8, 0, none⟩)), (7, .pointer (some ⟨b7, 0, none⟩)), (9, .slice aq ql.length cq), (1, .slice ap pl.length cp), (2, .int .i64 n), (3, .pointer (some ⟨b3, 0, none⟩))]) (H' := (b8, cel 84 (btl b (b.sl a2 c2))) :: (b7, cel 27 (btl b (b.sl a1 c1))) :: (b3, cel 27 (btl b (b.sl ab cb))) :: H) (R' := Z5 aq 1 (Z9 ql) :: Inn ql :: Z5 a2 4 (Z7 b.bins) :: Z5 a1 4 (Z7 b.bins) :: R) ?_ (Sub.cons (q7 rfl).1 (Sub.cons (q6 rfl).1 (Sub.cons (q10 rfl) hL0))).lk (fun w h => St.facts (hH w h) (Z0h (q5 rfl).2.1 (Z0h (q5 rfl).2.2.1 (Z0h (q3 rfl).2 (Z0h (q1 rfl).2 hR0)))))
 refine sqt 3 rfl ?_
 have hqi : ∀ x ∈ ql, x.l.length ≤ 9223372036854775807 := fun x hx => by
   have h1 : x.l ∈ lls pl := hqe ▸ List.mem_map.2 ⟨x, hx, rfl⟩
   obtain ⟨y, hy, e⟩ := List.mem_map.1 h1
   rw [← e]; exact hpi y hy
 have hql : ql.length = pl.length := by have := congrArg List.length hqe; rwa [Zo, Zo] at this
 have hqm : ql.length ≤ 9223372036854775807 := by omega
 refine spL rfl rfl (lhA (btl b (b.sl a2 c2)) Z1n rfl rfl rfl) rfl ?_
 refine clV rfl Z80 rfl rfl (Z27 b a2 c2 hl hr _ _) ?_
 refine pur 1 rfl (Z0 (sqt 2 rfl (pur 2 rfl ?_)))
 refine Z15 (ι := Unit) (fun _ => ⟨[(1, .slice ap pl.length cp), (2, .int .i64 n), (3, .pointer (some ⟨b3, 0, none⟩)), (7, .pointer (some ⟨b7, 0, none⟩)), (8, .pointer (some ⟨b8, 0, none⟩)), (9, .slice aq ql.length cq), (10, .int .i64 (b.planned (lls pl)))], (b8, cel 84 (btl b (b.sl a2 c2))) :: (b7, cel 27 (btl b (b.sl a1 c1))) :: (b3, cel 27 (btl b (b.sl ab cb))) :: H, Z5 aq 1 (Z9 ql) :: Inn ql :: Z5 a2 4 (Z7 b.bins) :: Z5 a1 4 (Z7 b.bins) :: R⟩) ?_ ?_
 refine Z2 rfl ?_ ?_ <;> intro hc1 <;> try simp only [cS] at hc1
 have hpe : ZX b.bins.length b.gangs (lls pl) = (b.planned (lls pl)) := by unfold Barn.planned; rw [dT (show b.check = 0 from hc1)]; rfl
 refine sqr 4 rfl (spL rfl rfl (lhA (btl b (b.sl a2 c2)) Z1n rfl rfl rfl) rfl (pur 1 rfl ?_))
 refine clV rfl Za4 rfl rfl (Z1z b a2 c2 hl pl ap cp hpl hpi _ _) ?_
 refine pur 1 rfl ?_
 exact ZR () (by dsimp only; rw [← hpe]; exact (by repeat' first | exact Sub.nil | apply Sub.cons | rfl | (simp [lk]; omega))) idH
 have hpe : b.check = (b.planned (lls pl)) := by unfold Barn.planned; rw [dF (show ¬ b.check = 0 from hc1)]; rfl
 refine Z1 ?_
 exact ZR () (by dsimp only; rw [← hpe]; exact (by repeat' first | exact Sub.nil | apply Sub.cons | rfl | (simp [lk]; omega))) idH
 rintro ⟨⟩
 refine sqt 6 rfl (pur 6 rfl (sqt 1 rfl (pur 1 rfl (sqt 3 rfl (pur 3 rfl (sqt 1 rfl (alc rfl Z0w rfl (fun b18 => Z0 (sqt 2 rfl (pur 2 rfl ?_))))))))))
 refine Z15 (ι := (Option Addr × Nat) × (Option Addr × Nat)) (fun q => ⟨[(1, .slice ap pl.length cp), (2, .int .i64 n), (3, .pointer (some ⟨b3, 0, none⟩)), (7, .pointer (some ⟨b7, 0, none⟩)), (8, .pointer (some ⟨b8, 0, none⟩)), (9, .slice aq ql.length cq), (10, .int .i64 (b.planned (lls pl))), (11, .int .i64 (ZZ b (lls pl) n)), (12, .int .i64 (plU b (lls pl))), (13, .int .i64 (plV b (lls pl))), (14, .slice q.1.1 (plW b (lls pl) n).length q.1.2), (15, .int .i64 (plQ b (lls pl)).1), (16, .int .i64 (plQ b (lls pl)).2.1), (17, .bool (plQ b (lls pl)).2.2), (18, .pointer (some ⟨b18, 0, none⟩))], (b18, cel 27 (btl (plB b (lls pl)) ((plB b (lls pl)).sl q.2.1 q.2.2))) :: (b8, cel 84 (btl b (b.sl a2 c2))) :: (b7, cel 27 (btl b (b.sl a1 c1))) :: (b3, cel 27 (btl b (b.sl ab cb))) :: H, Z5 q.2.1 4 (Z7 (plB b (lls pl)).bins) :: Z5 q.1.1 2 (Z0H (plW b (lls pl) n)) :: Z5 aq 1 (Z9 ql) :: Inn ql :: Z5 a2 4 (Z7 b.bins) :: Z5 a1 4 (Z7 b.bins) :: R⟩) ?_ ?_
 refine Z2 rfl ?_ ?_ <;> intro hc2 <;> try simp only [cS] at hc2
 have hpz : (b.planned (lls pl)) = 0 := hc2
 obtain ⟨hck, hok, hpe⟩ := Z1y hr hpz
 have hmn := hok.many
 refine Z0 (Z3 (sqt 4 rfl (pur 1 rfl (sp rfl (PE.lenSl Z0E rfl) rfl (pur 2 rfl ?_)))))
 refine Z15 (ι := Option Addr × Nat) (fun q => ⟨[(1, .slice ap pl.length cp), (2, .int .i64 n), (3, .pointer (some ⟨b3, 0, none⟩)), (7, .pointer (some ⟨b7, 0, none⟩)), (8, .pointer (some ⟨b8, 0, none⟩)), (9, .slice aq ql.length cq), (10, .int .i64 (b.planned (lls pl))), (11, .int .i64 (ZZ b (lls pl) n)), (12, .int .i64 (b.planned (lls pl))), (13, .int .i64 (b.planned (lls pl))), (14, .slice q.1 (plW b (lls pl) n).length q.2), (15, .int .i64 ((0, 0, false) : Nat × Nat × Bool).1), (16, .int .i64 ((0, 0, false) : Nat × Nat × Bool).2.1), (17, .bool ((0, 0, false) : Nat × Nat × Bool).2.2), (18, .pointer (some ⟨b18, 0, none⟩))], (b18, cel 27 (btl zbarn (.slice none 0 0))) :: (b8, cel 84 (btl b (b.sl a2 c2))) :: (b7, cel 27 (btl b (b.sl a1 c1))) :: (b3, cel 27 (btl b (b.sl ab cb))) :: H, Z5 q.1 2 (Z0H (plW b (lls pl) n)) :: Z5 aq 1 (Z9 ql) :: Inn ql :: Z5 a2 4 (Z7 b.bins) :: Z5 a1 4 (Z7 b.bins) :: R⟩) ?_ ?_
 refine Z2 rfl ?_ ?_ <;> intro hc3 <;> try simp only [cS] at hc3
 have ese : ZZ b (lls pl) n = 2 := by unfold ZZ; rw [dT hpz, Zo, dT (show 20 < pl.length by omega)]; rfl
 have hwl : plW b (lls pl) n = [] := by unfold plW; rw [ese]; rfl
 refine sqr 1 rfl (pur 1 rfl ?_)
 exact ZR (none, 0) (by dsimp only; rw [ese, hwl]; exact (by repeat' first | exact Sub.nil | apply Sub.cons | rfl | (simp [lk]; omega))) (fun w h => by dsimp only; rw [hwl]; exact St.noRows h)
 have h20 : decide (20 < pl.length) = false := dF (by omega)
 refine sqt 10 rfl (pur 3 rfl ?_)
 refine Zh 103 rfl ?_ ?_ <;> intro g103
 try simp only [cS] at g103
 have ese : ZZ b (lls pl) n = 1 := by unfold ZZ; rw [dT hpz, Zo, h20]; simp only [cond_true, cond_false]; rw [show inB n 0 ((b.bins.length : Int) - 1) = false by simp [inB]; omega]; rfl
 have hwl : plW b (lls pl) n = [] := by unfold plW; rw [ese]; rfl
 refine pur 7 rfl ?_
 refine Zq rfl ?_
 refine sqr 1 rfl (pur 1 rfl ?_)
 exact ZR (none, 0) (by dsimp only; rw [ese, hwl]; exact (by repeat' first | exact Sub.nil | apply Sub.cons | rfl | (simp [lk]; omega))) (fun w h => by dsimp only; rw [hwl]; exact St.noRows h)
 try simp only [cS] at g103
 refine pur 1 rfl ?_
 refine spG rfl rfl rfl rfl (PE.fA ZE rfl) rfl ?_
 refine Z0o rfl rfl rfl rfl rfl (lh Z0C rfl rfl) rfl ?_
 refine spG rfl rfl rfl rfl (PE.lenSl Z0M rfl) rfl ?_
 refine pur 3 rfl ?_
 refine Z2 rfl ?_ ?_ <;> intro hc4 <;> try simp only [cS] at hc4
 have ese : ZZ b (lls pl) n = 1 := by unfold ZZ; rw [dT hpz, Zo, h20]; simp only [cond_true, cond_false]; rw [show inB n 0 ((b.bins.length : Int) - 1) = false by simp [inB]; omega]; rfl
 have hwl : plW b (lls pl) n = [] := by unfold plW; rw [ese]; rfl
 refine sqr 1 rfl (pur 1 rfl ?_)
 exact ZR (none, 0) (by dsimp only; rw [ese, hwl]; exact (by repeat' first | exact Sub.nil | apply Sub.cons | rfl | (simp [lk]; omega))) (fun w h => by dsimp only; rw [hwl]; exact St.noRows h)
 obtain ⟨k, rfl⟩ : ∃ k : Nat, n = k := ⟨n.toNat, by omega⟩
 obtain ⟨x, hx⟩ : ∃ x, b.bins[k]? = some x := ⟨_, List.getElem?_eq_getElem (by omega)⟩
 have hbx := Z21 hx
 have hm := List.mem_of_getElem? hx
 have hh := (hok.bins x hm).2
 have ese : ZZ b (lls pl) k = 0 := by unfold ZZ; rw [dT hpz, Zo, h20, show inB (k : Int) 0 ((b.bins.length : Int) - 1) = true by simp [inB]; omega]; rfl
 have hwl : plW b (lls pl) k = (Z2k b.cool (b.least x) (b.worst x) k x.warm (lls pl) pl.length) := by unfold plW Z5e; rw [ese, hbx, Zo]; rfl
 refine Zl (a := ab) (sz := 4) (rows := Z7 b.bins) (by intro h0; simp [Z7] at h0; simp [h0] at hx) (fun ba oa he => ?_)
 subst he
 refine Z0 ?_
 refine Zi [0, 0, 0, 0, 8, 0, 56, 120, 248, 504, 1023, 2047] (.ld 0 (tks 1 3 (.ld 4 (tks 5 4 (.ld 9 (.big 10 (.tk 11 .done))))))) ZH (by kernel_rfl) ?_
 refine ld rfl rfl (lhA (btl b (b.sl a2 c2)) Z1n rfl rfl rfl) rfl (Zp 2 rfl (tk rfl (PE.fA ZE rfl) rfl (ld rfl rfl (lh Z0C rfl rfl) rfl (Zp 1 rfl (tk rfl (PE.indexAddr Z3s rfl rfl (by omega) (by omega)) rfl (tk rfl (PE.fA Z0I rfl) rfl (tk rfl (PE.fA Z0e rfl) rfl (ld rfl rfl (lf (j := 3) sc3 (Z01 hx) rfl) rfl ?_))))))))
 refine cl rfl ZcN rfl rfl (Z3n b a2 c2 hok pl ap cp hpl hpi hp9 k x hx x.hi (by omega) _ _) ?_
 rintro _ _ R1 ⟨ah, ch, rfl, rfl, hR1⟩
 obtain rfl := hR1.symm
 clear hR1
 refine bgT (Zp 1 rfl (Z0 ?_))
 refine Zi [0, 0, 0, 0, 8, 0, 56, 120, 248, 504, 1023, 2047, 0] (.ld 0 (tks 1 3 (.ld 4 (tks 5 4 (.ld 9 (.tk 12 (.big 10 (.tk 11 .done)))))))) ZH (by kernel_rfl) ?_
 refine ld rfl rfl (lhA (btl b (b.sl a2 c2)) Z1n rfl rfl rfl) rfl (Zp 2 rfl (tk rfl (PE.fA ZE rfl) rfl (ld rfl rfl (lh Z0C rfl rfl) rfl (Zp 1 rfl (tk rfl (PE.indexAddr Z3s rfl rfl (by omega) (by omega)) rfl (tk rfl (PE.fA Z0I rfl) rfl (tk rfl (PE.fA Z0k rfl) rfl (ld rfl rfl (lf (j := 2) sc3 (Z01 hx) rfl) rfl (Zp 1 rfl ?_)))))))))
 refine cl rfl ZcN rfl rfl (Z3n b a2 c2 hok pl ap cp hpl hpi hp9 k x hx x.lo (by omega) _ _) ?_
 rintro _ _ R1 ⟨al, cl, rfl, rfl, hR1⟩
 obtain rfl := hR1.symm
 clear hR1
 refine bgT (tk rfl (PE.lenSl Z0n rfl) rfl (Z3 ?_))
 refine Zj (ι := (d : {d : Nat // d ≤ pl.length}) × OSl 31 2 (Z0H (Z2k b.cool (b.least x) (b.worst x) k x.warm (lls pl) d.1))) (fun y => ⟨[(1, .slice ap pl.length cp), (2, .int .i64 k), (3, .pointer (some ⟨b3, 0, none⟩)), (7, .pointer (some ⟨b7, 0, none⟩)), (8, .pointer (some ⟨b8, 0, none⟩)), (9, .slice aq ql.length cq), (10, .int .i64 (b.planned (lls pl))), (11, .int .i64 (b.planned (lls pl))), (12, .int .i64 (b.planned (lls pl))), (13, .int .i64 (b.planned (lls pl))), (14, y.2.fs), (15, .int .i64 0), (16, .int .i64 0), (17, .bool false), (18, .pointer (some ⟨b18, 0, none⟩)), (19, .slice ah pl.length ch), (79, .slice al pl.length cl), (80, .int .i64 pl.length), (81, .int .i64 y.1.1)], y.2.G ++ (b18, cel 27 (btl zbarn (.slice none 0 0))) :: (b8, cel 84 (btl b (b.sl a2 c2))) :: (b7, cel 27 (btl b (b.sl a1 c1))) :: (b3, cel 27 (btl b (b.sl (some ⟨ba, oa, none⟩) cb))) :: H, Z5 al 1 (Zm (wL b.cool (na b.rise x.lo.toNat) k x.warm (lls pl) pl.length)) :: Z5 ah 1 (Zm (wL b.cool (na b.rise x.hi.toNat) k x.warm (lls pl) pl.length)) :: Z5 aq 1 (Z9 ql) :: Inn ql :: Z5 a2 4 (Z7 b.bins) :: Z5 a1 4 (Z7 b.bins) :: R⟩) (fun y => pl.length - y.1.1) ⟨⟨0, by omega⟩, OSl.nil _ _⟩ ?_ (fun y => ?_)
 exact Zr idH
 obtain ⟨⟨d, hd⟩, o⟩ := y
 dsimp only at hd o ⊢
 refine sqt 1 rfl (pur 1 rfl (Z0 ?_))
 refine Z2 rfl ?_ ?_ <;> intro hc5 <;> try simp only [cS] at hc5
 refine Zl (a := al) (sz := 1) (rows := Zm (wL b.cool (na b.rise x.lo.toNat) k x.warm (lls pl) pl.length)) (by intro h0; have := congrArg List.length h0; rw [Zd, Z3Z] at this; simp only [List.length_nil] at this; omega) (fun b5 o5 he => ?_)
 subst he
 refine Zl (a := ah) (sz := 1) (rows := Zm (wL b.cool (na b.rise x.hi.toNat) k x.warm (lls pl) pl.length)) (by intro h0; have := congrArg List.length h0; rw [Zd, Z3Z] at this; simp only [List.length_nil] at this; omega) (fun b6 o6 he => ?_)
 subst he
 refine Z1 (Z0 (Z3 (sqt 5 rfl (pur 1 rfl (sp rfl (PE.indexAddr Z28 rfl rfl (by omega) (by omega)) rfl (spL rfl rfl (lf0 sc3 (Z0v (Z94 (d := d) (by omega))) rfl) rfl (pur 2 rfl (sqr 10 rfl (pur 4 rfl (sp rfl (PE.indexAddr Z28 rfl rfl (by omega) (by omega)) rfl (spL rfl rfl (lf0 sc3 (Z0v (Z94 (d := d) (by omega))) rfl) rfl (sp rfl (PE.build (out := [_, _]) Z4r Z2C rfl rfl) rfl ?_))))))))))))
 refine bsl (out := [_, _]) rfl Zep Z2C rfl rfl rfl rfl rfl rfl (fun b93 => ?_)
 refine apO (o) rfl Zg3 rfl rfl (Z0W (row := Z9M (wst b.cool (b.least x) k x.warm ((lls pl).take (d + 1)), wst b.cool (b.worst x) k x.warm ((lls pl).take (d + 1)))) rfl) rfl rfl ((by rw [Z2M, Z2k, List.length_map, List.length_range]; simp only [List.length_singleton]; omega)) rfl (fun o94 => ?_)
 refine pur 1 rfl (sqr 2 rfl (sp rfl (PE.add rfl rfl (by omega)) rfl (pur 1 rfl ?_)))
 exact Zn ⟨⟨d + 1, by omega⟩, o94.cast (by unfold Z2k; rw [List.range_succ, List.map_append]; simp [Z0H])⟩ (fun w h => h.del b93)
 obtain rfl : d = pl.length := by omega
 obtain ⟨aw, cw, he, hf⟩ := o.freeze
 rw [he, Z2M]
 refine Sy.heap (fun w h => hf h) ?_
 clear he hf
 refine Zb (Zf (Zf (ZB ?_)))
 exact ZR (aw, cw) (by dsimp only; rw [ese, hwl]; rw [hpz]; exact (by repeat' first | exact Sub.nil | apply Sub.cons | rfl | (simp [lk]; omega))) (fun w h => by dsimp only; rw [hwl]; exact h.facts SubF.sub)
 rintro ⟨aw, cw⟩
 dsimp only
 refine sqt 10 rfl (spL rfl rfl (lhA (btl b (b.sl a2 c2)) Z1n rfl rfl rfl) rfl (pur 1 rfl ?_))
 refine clV rfl Zeu rfl rfl (Z5Z b a2 c2 hok pl ap cp hpl hpi hp9 _ _) ?_
 refine pur 7 rfl (sqt 1 rfl (pur 1 rfl ?_))
 refine Z2 rfl ?_ ?_ <;> intro hc6
 obtain ⟨e1, e2, e3, e4⟩ := ZfZ hpz hc6
 refine sqr 1 rfl (pur 1 rfl ?_)
 exact ZR ((aw, cw), (none, 0)) (by dsimp only; rw [e1, e2, e3]; rw [hpz]; exact (by repeat' first | exact Sub.nil | apply Sub.cons | rfl | (simp [lk]; omega))) (fun w h => by dsimp only; rw [e4]; exact St.noRows h)
 obtain ⟨ws, hbu, e1, e2, e3, e4⟩ := ZdC hpz hc6
 have hwl : ws.length = b.bins.length := b.burns_len (lls pl) _ ws 0 hbu (by simp [Barn.warms])
 refine sqt 6 rfl (spL rfl rfl (lhA (btl b (b.sl ab cb)) ZD rfl rfl rfl) rfl ?_)
 refine cl rfl Z6T rfl rfl (ZdX b ab cb (by omega) _ _) ?_
 rintro _ _ _ ⟨bo, cap, junk, rfl, rfl, rfl⟩
 refine pur 3 rfl ?_
 refine sto rfl rfl rfl Z03 rfl rfl rfl rfl ?_
 refine sqt 4 rfl (sp rfl (PE.fA ZE rfl) rfl (spL rfl rfl (lh Z0C rfl rfl) rfl (sp rfl (PE.lenSl Z0M rfl) rfl ?_)))
 refine Sy.heap (H' := (bo, cel 40 ((Z7 ((Zz b.bins ws).take 0 ++ b.bins.drop 0)).flatten ++ junk)) :: (b18, cel 27 (btl b (b.sl (some ⟨bo, 0, none⟩) cap))) :: (b8, cel 84 (btl b (b.sl a2 c2))) :: (b7, cel 27 (btl b (b.sl a1 c1))) :: (b3, cel 27 (btl b (b.sl ab cb))) :: H) (fun w h => h.pull bo) ?_
 refine pur 1 rfl (Z3 ?_)
 refine Zj (ι := {k : Nat // k ≤ b.bins.length}) (fun k => ⟨[(1, .slice ap pl.length cp), (2, .int .i64 n), (3, .pointer (some ⟨b3, 0, none⟩)), (7, .pointer (some ⟨b7, 0, none⟩)), (8, .pointer (some ⟨b8, 0, none⟩)), (9, .slice aq ql.length cq), (10, .int .i64 (b.planned (lls pl))), (11, .int .i64 (ZZ b (lls pl) n)), (12, .int .i64 6), (13, .int .i64 (b.planned (lls pl))), (14, .slice aw (plW b (lls pl) n).length cw), (15, .int .i64 ((0, 0, false) : Nat × Nat × Bool).1), (16, .int .i64 ((0, 0, false) : Nat × Nat × Bool).2.1), (17, .bool (Z5b b (lls pl)).2.2), (18, .pointer (some ⟨b18, 0, none⟩)), (122, .int .i64 b.bins.length), (123, .int .i64 k.1)], (bo, cel 40 ((Z7 ((Zz b.bins ws).take k.1 ++ b.bins.drop k.1)).flatten ++ junk)) :: (b18, cel 27 (btl b (b.sl (some ⟨bo, 0, none⟩) cap))) :: (b8, cel 84 (btl b (b.sl a2 c2))) :: (b7, cel 27 (btl b (b.sl a1 c1))) :: (b3, cel 27 (btl b (b.sl ab cb))) :: H, Z5 aw 2 (Z0H (plW b (lls pl) n)) :: Z5 aq 1 (Z9 ql) :: Inn ql :: Z5 a2 4 (Z7 b.bins) :: Z5 a1 4 (Z7 b.bins) :: R⟩) (fun k => b.bins.length - k.1) ⟨0, by omega⟩ ?_ (fun k => ?_)
 exact Zr idH
 obtain ⟨k, hk⟩ := k
 dsimp only at hk ⊢
 refine sqt 1 rfl (pur 1 rfl (Z0 ?_))
 refine Z2 rfl ?_ ?_ <;> intro hc7 <;> try simp only [cS] at hc7
 obtain ⟨x, hx⟩ : ∃ x, b.bins[k]? = some x := ⟨_, List.getElem?_eq_getElem (by omega)⟩
 have hm := List.mem_of_getElem? hx
 have hh := (hok.bins x hm).2
 have hbl := Z9Z hbu hx
 have hml : ((Zz b.bins ws).take k ++ b.bins.drop k).length = b.bins.length := by rw [List.length_append, List.length_take, List.length_drop, ZQ hwl]; omega
 have hmg : ((Zz b.bins ws).take k ++ b.bins.drop k)[k]? = some x := by
   rw [List.getElem?_append_right (by rw [List.length_take, ZQ hwl]; omega), List.length_take, ZQ hwl, show k - min k b.bins.length = 0 by omega, List.getElem?_drop]; simpa using hx
 have hms : ((Zz b.bins ws).take k ++ b.bins.drop k).set k { x with warm := na ws k } = ((Zz b.bins ws).take (k + 1) ++ b.bins.drop (k + 1)) := Z3f (by rw [ZQ hwl]) (Z0z hx (Z0f (by omega)))
 refine Zl (a := ab) (sz := 4) (rows := Z7 b.bins) (by intro h0; simp [Z7] at h0; simp [h0] at hx) (fun ba oa he => ?_)
 subst he
 refine Z1 (Z0 (Z3 (sqt 2 rfl (pur 2 rfl (Z0 ?_)))))
 refine Zi [0, 0, 0, 0, 8, 0, 56, 120, 248, 504, 1023, 2047] (.ld 0 (tks 1 3 (.ld 4 (tks 5 4 (.ld 9 (.big 10 (.tk 11 .done))))))) ZH (by kernel_rfl) ?_
 refine ld rfl rfl (lhA (btl b (b.sl a2 c2)) Z1n rfl rfl rfl) rfl (Zp 2 rfl (tk rfl (PE.fA ZE rfl) rfl (ld rfl rfl (lh Z0C rfl rfl) rfl (Zp 1 rfl (tk rfl (PE.indexAddr Z3s rfl rfl (by omega) (by omega)) rfl (tk rfl (PE.fA Z0I rfl) rfl (tk rfl (PE.fA Z0e rfl) rfl (ld rfl rfl (lf (j := 3) sc3 (Z01 hx) rfl) rfl ?_))))))))
 refine cl rfl ZcN rfl rfl (Z3n b a2 c2 hok pl ap cp hpl hpi hp9 k x hx x.hi (by omega) _ _) ?_
 rintro _ _ R1 ⟨ah, ch, rfl, rfl, hR1⟩
 obtain rfl := hR1.symm
 clear hR1
 refine bgT (Zp 1 rfl (sqt 3 rfl (pur 1 rfl (sp rfl (PE.lenSl Z0n rfl) rfl (pur 1 rfl ?_)))))
 refine Z2 rfl ?_ ?_ <;> intro hc8 <;> try simp only [cS] at hc8
 have hp0 : 0 < pl.length := by omega
 have hlast : (wL b.cool (na b.rise x.hi.toNat) k x.warm (lls pl) pl.length)[pl.length - 1]? = some (na ws k) := by
   rw [Z94 (by omega), show pl.length - 1 + 1 = pl.length by omega, List.take_of_length_le (by rw [Zo]; exact Nat.le_refl _), hbl]; rfl
 refine Zl (a := ah) (sz := 1) (rows := Zm (wL b.cool (na b.rise x.hi.toNat) k x.warm (lls pl) pl.length)) (by intro h0; have := congrArg List.length h0; rw [Zd, Z3Z] at this; simp only [List.length_nil] at this; omega) (fun b6 o6 he => ?_)
 subst he
 refine Zi [0, 1, 0, 0, 0, 16, 48, 120, 248, 511, 1023, 2047] (.tk 0 (.ld 1 (tks 2 6 (.ld 8 (.tk 9 (.tk 10 (.big 11 .done))))))) ZH (by kernel_rfl) ?_
 refine tk rfl (PE.fA ZE rfl) rfl (ld rfl rfl (lh Z0C rfl rfl) rfl (Zp 3 rfl (tk rfl (PE.lenSl Z0n rfl) rfl (tk rfl (PE.sub rfl rfl (by omega)) rfl (tk rfl (PE.indexAddr Z28 rfl rfl (by omega) (by omega)) rfl (ld rfl rfl (lf0 (row := [.int .i64 (na ws k)]) sc3 (by rw [show ((pl.length : Int) - 1).toNat = pl.length - 1 by omega]; exact Z0v hlast) rfl) rfl (tk rfl (PE.indexAddr Z3s rfl rfl (by omega) (by omega)) rfl (tk rfl (PE.fA Z2O rfl) rfl ?_))))))))
 refine Z1b (l' := (Z7 ((Zz b.bins ws).take (k + 1) ++ b.bins.drop (k + 1))).flatten ++ junk) rfl rfl rfl cn3 rfl rfl rfl ((Z8H (by rw [Z11, hml]; show 0 + ((k : Nat) : Int).toNat * 4 + 0 + 1 ≤ _; omega)).trans (congrArg (· ++ junk) ((Zb2 hmg (na ws k) (by show 0 + ((k : Nat) : Int).toNat * 4 + 0 = _; omega)).trans (by rw [hms])))) (by rw [List.length_append, Z11, hml]; show 0 + ((k : Nat) : Int).toNat * 4 + 0 + 1 ≤ _; omega) ?_
 refine bgT (sqr 2 rfl (sp rfl (PE.add rfl rfl (by omega)) rfl (pur 1 rfl ?_)))
 exact Zn ⟨k + 1, by omega⟩ (fun w h => h.ftail)
 have hp0 : (lls pl) = [] := List.length_eq_zero_iff.1 (by rw [Zo]; omega)
 have hsk := Zco hwl hx (by rw [hbl, hp0]; rfl)
 refine Sy.heap (H' := (bo, cel 40 ((Z7 ((Zz b.bins ws).take (k + 1) ++ b.bins.drop (k + 1))).flatten ++ junk)) :: _) (fun w h => by rw [← hsk]; exact h) ?_
 refine Z1 (sqr 2 rfl (sp rfl (PE.add rfl rfl (by omega)) rfl (pur 1 rfl ?_)))
 exact Zn ⟨k + 1, by omega⟩ (fun w h => h.ftail)
 obtain rfl : k = b.bins.length := by omega
 rw [show ((Zz b.bins ws).take b.bins.length ++ b.bins.drop b.bins.length) = Zz b.bins ws by rw [List.drop_length, List.append_nil, List.take_of_length_le (by rw [ZQ hwl]; exact Nat.le_refl _)]]
 have hsl : (b.withB (Zz b.bins ws)).sl (some ⟨bo, 0, none⟩) cap = b.sl (some ⟨bo, 0, none⟩) cap := by unfold Barn.sl Barn.withB; dsimp only; rw [ZQ hwl]
 refine Zb (Zf (Zf (ZB ?_)))
 exact ZR ((aw, cw), (some ⟨bo, 0, none⟩, cap)) (by dsimp only; rw [e1, e2, e3]; rw [hpz, hc6]; exact (by repeat' first | exact Sub.nil | apply Sub.cons | rfl | (simp [lk]; omega))) (fun w h => by dsimp only; rw [e4, hsl]; exact St.binRows (l := Zz b.bins ws) (junk := junk) h)
 obtain ⟨e1, e2, e3, e4, e5, e6⟩ := ZfC (n := n) (show (b.planned (lls pl)) ≠ 0 from hc2)
 refine Z1 ?_
 exact ZR ((none, 0), (none, 0)) (by dsimp only; rw [e1, e2, e3, e4, e5]; exact (by repeat' first | exact Sub.nil | apply Sub.cons | rfl | (simp [lk]; omega))) (fun w h => by dsimp only; rw [e4, e6]; exact St.noRows (St.noRows h))
 rintro ⟨⟨aw, cw⟩, ⟨aB, cB⟩⟩
 dsimp only
 refine sqt 9 rfl (spL rfl rfl (lhA (btl b (b.sl a1 c1)) ZD rfl rfl rfl) rfl (pur 2 rfl ?_))
 refine cl rfl ZfK rfl rfl (Zax b a1 c1 hl hr ql aq cq hqm hqi n _ _) ?_
 rintro _ _ R1 ⟨a5, c5, rfl, rfl, hR1⟩
 obtain rfl := hR1.symm
 clear hR1
 rw [hqe]
 refine pur 5 rfl (sqt 8 rfl (spL rfl rfl (lhA (btl b (b.sl a1 c1)) ZD rfl rfl rfl) rfl (pur 1 rfl ?_)))
 refine cl rfl Zfu rfl rfl (Zch b a1 c1 hl hr ql aq cq hqm hqi _ _) ?_
 rintro _ _ _ ⟨rfl, rfl, rfl⟩
 rw [hqe]
 refine pur 5 rfl (sqt 10 rfl (spL rfl rfl (lhA (btl b (b.sl a1 c1)) ZD rfl rfl rfl) rfl (pur 1 rfl ?_)))
 refine cl rfl Zft rfl rfl (ZcJ b a1 c1 hl hr ql aq cq hqm hqi _ _) ?_
 rintro _ _ _ ⟨rfl, rfl, rfl⟩
 rw [hqe]
 refine pur 7 rfl (sqt 9 rfl (spL rfl rfl (lhA (btl b (b.sl a1 c1)) ZD rfl rfl rfl) rfl (pur 1 rfl ?_)))
 refine cl rfl Zeq rfl rfl (Zcy b a1 c1 hl hr ql aq cq hqm hqi _ _) ?_
 rw [hqe]
 rintro _ _ R1 ⟨hR1, ⟨hPB, rfl, rfl⟩ | ⟨ws, bo, hwl, hPB, rfl, rfl⟩⟩ <;> obtain rfl := hR1.symm <;> clear hR1 <;> rw [hPB]
 refine pur 3 rfl (alc rfl Z0w rfl (fun b31 => ?_))
 refine sto rfl rfl rfl Z03 rfl rfl rfl rfl ?_
 refine pur 1 rfl (Z0 (sqt 50 rfl ?_))
 refine Sy.heap (fun w h => St.noRows (sz := 4) h) ?_
 refine pur 4 rfl ?_
 refine Zh 181 rfl ?_ ?_ <;> intro g181
 exact absurd g181 (by simp)
 refine pur 5 rfl ?_
 refine Zh 186 rfl ?_ ?_ <;> intro g186
 exact absurd g186 (by simp)
 refine pur 5 rfl ?_
 refine Zh 191 rfl ?_ ?_ <;> intro g191
 exact absurd g191 (by simp)
 refine pur 5 rfl ?_
 refine Zh 196 rfl ?_ ?_ <;> intro g196
 exact absurd g196 (by simp)
 refine pur 2 rfl ?_
 refine Z0K rfl rfl rfl rfl Zem rfl rfl (Z4E (plW b (lls pl) n) (plW b (lls pl) n) a5 aw c5 cw (by unfold plW Z5e Z2k; cases decide (ZZ b (lls pl) n = 0) <;> simp [Zo]; omega) (by unfold plW Z5e Z2k; cases decide (ZZ b (lls pl) n = 0) <;> simp [Zo]; omega) _ _) ?_
 refine pur 3 rfl ?_
 refine Zh 202 rfl ?_ ?_ <;> intro g202
 exact absurd g202 (by simp)
 refine pur 4 rfl ?_
 refine Zh 206 rfl ?_ ?_ <;> intro g206
 try simp only [cS] at g206
 refine pur 3 rfl ?_
 refine spG rfl rfl rfl rfl (PE.neqBool ub4 rfl rfl) rfl ?_
 refine pur 2 rfl ?_
 refine Zh 212 rfl ?_ ?_ <;> intro g212
 first | (rw [Z8Y g206] at g212; simp at g212) | (rw [Z5M g206] at g212; simp at g212)
 refine pur 5 rfl ?_
 refine Zh 217 rfl ?_ ?_ <;> intro g217
 exact absurd g217 (by simp)
 refine pur 5 rfl ?_
 refine Zh 222 rfl ?_ ?_ <;> intro g222
 exact absurd g222 (by simp)
 refine Z0o rfl rfl rfl rfl rfl (lhA (btl zbarn (.slice none 0 0)) ZD rfl rfl rfl) rfl (Z0o rfl rfl rfl rfl rfl (lhA (btl zbarn (zbarn.sl aB cB)) ZD rfl rfl rfl) rfl ?_)
 refine Z0K rfl rfl rfl rfl Z1J rfl rfl (Z0S zbarn none 0 zbarn aB cB (by decide) (by decide) rfl rfl _ _) ?_
 refine pur 2 rfl ?_
 refine Z2 rfl ?_ ?_ <;> intro hc9
 rw [sameB_iff.2 rfl] at hc9; exact absurd hc9 (by decide)
 refine Z1 (sqt 3 rfl (sp rfl (PE.fA ZE rfl) rfl (spL rfl rfl (lh Z0C rfl rfl) rfl ?_)))
 refine Zhe rfl rfl Z9Q rfl ?_
 refine sqt 12 rfl (spL rfl rfl (lhA (btl b (b.sl a1 c1)) ZD rfl rfl rfl) rfl (spL rfl rfl (lhA (btl b (b.sl ab cb)) ZD rfl rfl rfl) rfl ?_))
 refine clV rfl Z1J rfl rfl (Z0S b a1 c1 b ab cb hl hl hr hr _ _) ?_
 refine pur 1 rfl ?_
 refine Zh 233 rfl ?_ ?_ <;> intro g233
 refine pur 2 rfl ?_
 refine Z0K rfl rfl rfl rfl Z5f rfl rfl (Z1m ql aq cq hqm hqi pl ap cp hpl hpi _ _) ?_
 refine pur 2 rfl ?_
 refine Zh 238 rfl ?_ ?_ <;> intro g238
 refine Z0K rfl rfl rfl rfl Z1d rfl rfl (Z02 _ _) ?_
 refine pur 2 rfl (Z4 ?_)
 exact rtA rfl rfl rfl ⟨rfl, rfl, rfl⟩ (fun w h => (((((h.del b31).del b18).del b8).del b7).del b3).facts (fun g hg => by simp [hg]))
 rw [dT hqe] at g238; exact absurd g238 (by decide)
 rw [sameB_iff.2 rfl] at g233; exact absurd g233 (by decide)
 try simp only [cS] at g206
 refine pur 3 rfl ?_
 refine spG rfl rfl rfl rfl (PE.neqBool ub4 rfl rfl) rfl ?_
 refine pur 2 rfl ?_
 refine Zh 212 rfl ?_ ?_ <;> intro g212
 first | (rw [Z8Y g206] at g212; simp at g212) | (rw [Z5M g206] at g212; simp at g212)
 refine pur 5 rfl ?_
 refine Zh 217 rfl ?_ ?_ <;> intro g217
 exact absurd g217 (by simp)
 refine pur 5 rfl ?_
 refine Zh 222 rfl ?_ ?_ <;> intro g222
 exact absurd g222 (by simp)
 refine Z0o rfl rfl rfl rfl rfl (lhA (btl zbarn (.slice none 0 0)) ZD rfl rfl rfl) rfl (Z0o rfl rfl rfl rfl rfl (lhA (btl zbarn (zbarn.sl aB cB)) ZD rfl rfl rfl) rfl ?_)
 refine Z0K rfl rfl rfl rfl Z1J rfl rfl (Z0S zbarn none 0 zbarn aB cB (by decide) (by decide) rfl rfl _ _) ?_
 refine pur 2 rfl ?_
 refine Z2 rfl ?_ ?_ <;> intro hc9
 rw [sameB_iff.2 rfl] at hc9; exact absurd hc9 (by decide)
 refine Z1 (sqt 3 rfl (sp rfl (PE.fA ZE rfl) rfl (spL rfl rfl (lh Z0C rfl rfl) rfl ?_)))
 refine Zhe rfl rfl Z9Q rfl ?_
 refine sqt 12 rfl (spL rfl rfl (lhA (btl b (b.sl a1 c1)) ZD rfl rfl rfl) rfl (spL rfl rfl (lhA (btl b (b.sl ab cb)) ZD rfl rfl rfl) rfl ?_))
 refine clV rfl Z1J rfl rfl (Z0S b a1 c1 b ab cb hl hl hr hr _ _) ?_
 refine pur 1 rfl ?_
 refine Zh 233 rfl ?_ ?_ <;> intro g233
 refine pur 2 rfl ?_
 refine Z0K rfl rfl rfl rfl Z5f rfl rfl (Z1m ql aq cq hqm hqi pl ap cp hpl hpi _ _) ?_
 refine pur 2 rfl ?_
 refine Zh 238 rfl ?_ ?_ <;> intro g238
 refine Z0K rfl rfl rfl rfl Z1d rfl rfl (Z02 _ _) ?_
 refine pur 2 rfl (Z4 ?_)
 exact rtA rfl rfl rfl ⟨rfl, rfl, rfl⟩ (fun w h => (((((h.del b31).del b18).del b8).del b7).del b3).facts (fun g hg => by simp [hg]))
 rw [dT hqe] at g238; exact absurd g238 (by decide)
 rw [sameB_iff.2 rfl] at g233; exact absurd g233 (by decide)
 refine pur 3 rfl (alc rfl Z0w rfl (fun b31 => ?_))
 refine sto rfl rfl rfl Z03 rfl rfl rfl rfl ?_
 refine pur 1 rfl (Z0 (sqt 50 rfl ?_))
 refine Sy.heap (H' := (bo, cel 40 ((Z7 (Zz b.bins ws)).flatten ++ [])) :: _) (fun w h => by rw [List.append_nil]; exact h.pull bo) ?_
 have hls : (b.withB (Zz b.bins ws)).bins.length ≤ 9223372036854775807 := by unfold Barn.withB; dsimp only; rw [ZQ hwl]; exact hl
 refine pur 4 rfl ?_
 refine Zh 181 rfl ?_ ?_ <;> intro g181
 exact absurd g181 (by simp)
 refine pur 5 rfl ?_
 refine Zh 186 rfl ?_ ?_ <;> intro g186
 exact absurd g186 (by simp)
 refine pur 5 rfl ?_
 refine Zh 191 rfl ?_ ?_ <;> intro g191
 exact absurd g191 (by simp)
 refine pur 5 rfl ?_
 refine Zh 196 rfl ?_ ?_ <;> intro g196
 exact absurd g196 (by simp)
 refine pur 2 rfl ?_
 refine Z0K rfl rfl rfl rfl Zem rfl rfl (Z4E (plW b (lls pl) n) (plW b (lls pl) n) a5 aw c5 cw (by unfold plW Z5e Z2k; cases decide (ZZ b (lls pl) n = 0) <;> simp [Zo]; omega) (by unfold plW Z5e Z2k; cases decide (ZZ b (lls pl) n = 0) <;> simp [Zo]; omega) _ _) ?_
 refine pur 3 rfl ?_
 refine Zh 202 rfl ?_ ?_ <;> intro g202
 exact absurd g202 (by simp)
 refine pur 4 rfl ?_
 refine Zh 206 rfl ?_ ?_ <;> intro g206
 try simp only [cS] at g206
 refine pur 3 rfl ?_
 refine spG rfl rfl rfl rfl (PE.neqBool ub4 rfl rfl) rfl ?_
 refine pur 2 rfl ?_
 refine Zh 212 rfl ?_ ?_ <;> intro g212
 first | (rw [Z8Y g206] at g212; simp at g212) | (rw [Z5M g206] at g212; simp at g212)
 refine pur 5 rfl ?_
 refine Zh 217 rfl ?_ ?_ <;> intro g217
 exact absurd g217 (by simp)
 refine pur 5 rfl ?_
 refine Zh 222 rfl ?_ ?_ <;> intro g222
 exact absurd g222 (by simp)
 refine Z0o rfl rfl rfl rfl rfl (lhA (btl (b.withB (Zz b.bins ws)) ((b.withB (Zz b.bins ws)).sl (some ⟨bo, 0, none⟩) b.bins.length)) ZD rfl rfl rfl) rfl (Z0o rfl rfl rfl rfl rfl (lhA (btl (b.withB (Zz b.bins ws)) ((b.withB (Zz b.bins ws)).sl aB cB)) ZD rfl rfl rfl) rfl ?_)
 refine Z0K rfl rfl rfl rfl Z1J rfl rfl (FnV.lend (b := bo) (e := 40) (sz := 4) (rows := Z7 (Zz b.bins ws)) (junk := []) Z4u (fun B => Z0S (b.withB (Zz b.bins ws)) (some ⟨bo, 0, none⟩) b.bins.length (b.withB (Zz b.bins ws)) aB cB hls hls hr hr _ _)) ?_
 refine pur 2 rfl ?_
 refine Z2 rfl ?_ ?_ <;> intro hc9
 rw [sameB_iff.2 rfl] at hc9; exact absurd hc9 (by decide)
 refine Z1 (sqt 3 rfl (sp rfl (PE.fA ZE rfl) rfl (spL rfl rfl (lh Z0C rfl rfl) rfl ?_)))
 refine Zh5 rfl rfl Z9Q Z4M rfl rfl rfl (by rw [List.append_nil, Z11]; unfold Barn.withB; dsimp only; exact Nat.le_refl _) ?_
 refine sqt 12 rfl (spL rfl rfl (lhA (btl b (b.sl a1 c1)) ZD rfl rfl rfl) rfl (spL rfl rfl (lhA (btl b (b.sl ab cb)) ZD rfl rfl rfl) rfl ?_))
 refine clV rfl Z1J rfl rfl (Z0S b a1 c1 b ab cb hl hl hr hr _ _) ?_
 refine pur 1 rfl ?_
 refine Zh 233 rfl ?_ ?_ <;> intro g233
 refine pur 2 rfl ?_
 refine Z0K rfl rfl rfl rfl Z5f rfl rfl (Z1m ql aq cq hqm hqi pl ap cp hpl hpi _ _) ?_
 refine pur 2 rfl ?_
 refine Zh 238 rfl ?_ ?_ <;> intro g238
 refine Z0K rfl rfl rfl rfl Z1d rfl rfl (Z02 _ _) ?_
 refine pur 2 rfl (Z4 ?_)
 exact rtA rfl rfl rfl ⟨rfl, rfl, rfl⟩ (fun w h => ((((((h.del bo).del b31).del b18).del b8).del b7).del b3).facts (fun g hg => by simp [hg]))
 rw [dT hqe] at g238; exact absurd g238 (by decide)
 rw [sameB_iff.2 rfl] at g233; exact absurd g233 (by decide)
 try simp only [cS] at g206
 refine pur 3 rfl ?_
 refine spG rfl rfl rfl rfl (PE.neqBool ub4 rfl rfl) rfl ?_
 refine pur 2 rfl ?_
 refine Zh 212 rfl ?_ ?_ <;> intro g212
 first | (rw [Z8Y g206] at g212; simp at g212) | (rw [Z5M g206] at g212; simp at g212)
 refine pur 5 rfl ?_
 refine Zh 217 rfl ?_ ?_ <;> intro g217
 exact absurd g217 (by simp)
 refine pur 5 rfl ?_
 refine Zh 222 rfl ?_ ?_ <;> intro g222
 exact absurd g222 (by simp)
 refine Z0o rfl rfl rfl rfl rfl (lhA (btl (b.withB (Zz b.bins ws)) ((b.withB (Zz b.bins ws)).sl (some ⟨bo, 0, none⟩) b.bins.length)) ZD rfl rfl rfl) rfl (Z0o rfl rfl rfl rfl rfl (lhA (btl (b.withB (Zz b.bins ws)) ((b.withB (Zz b.bins ws)).sl aB cB)) ZD rfl rfl rfl) rfl ?_)
 refine Z0K rfl rfl rfl rfl Z1J rfl rfl (FnV.lend (b := bo) (e := 40) (sz := 4) (rows := Z7 (Zz b.bins ws)) (junk := []) Z4u (fun B => Z0S (b.withB (Zz b.bins ws)) (some ⟨bo, 0, none⟩) b.bins.length (b.withB (Zz b.bins ws)) aB cB hls hls hr hr _ _)) ?_
 refine pur 2 rfl ?_
 refine Z2 rfl ?_ ?_ <;> intro hc9
 rw [sameB_iff.2 rfl] at hc9; exact absurd hc9 (by decide)
 refine Z1 (sqt 3 rfl (sp rfl (PE.fA ZE rfl) rfl (spL rfl rfl (lh Z0C rfl rfl) rfl ?_)))
 refine Zh5 rfl rfl Z9Q Z4M rfl rfl rfl (by rw [List.append_nil, Z11]; unfold Barn.withB; dsimp only; exact Nat.le_refl _) ?_
 refine sqt 12 rfl (spL rfl rfl (lhA (btl b (b.sl a1 c1)) ZD rfl rfl rfl) rfl (spL rfl rfl (lhA (btl b (b.sl ab cb)) ZD rfl rfl rfl) rfl ?_))
 refine clV rfl Z1J rfl rfl (Z0S b a1 c1 b ab cb hl hl hr hr _ _) ?_
 refine pur 1 rfl ?_
 refine Zh 233 rfl ?_ ?_ <;> intro g233
 refine pur 2 rfl ?_
 refine Z0K rfl rfl rfl rfl Z5f rfl rfl (Z1m ql aq cq hqm hqi pl ap cp hpl hpi _ _) ?_
 refine pur 2 rfl ?_
 refine Zh 238 rfl ?_ ?_ <;> intro g238
 refine Z0K rfl rfl rfl rfl Z1d rfl rfl (Z02 _ _) ?_
 refine pur 2 rfl (Z4 ?_)
 exact rtA rfl rfl rfl ⟨rfl, rfl, rfl⟩ (fun w h => ((((((h.del bo).del b31).del b18).del b8).del b7).del b3).facts (fun g hg => by simp [hg]))
 rw [dT hqe] at g238; exact absurd g238 (by decide)
 rw [sameB_iff.2 rfl] at g233; exact absurd g233 (by decide)
end Go.Proofs.YtnifcjgnageniaaGreat
namespace Go.Proofs.YtnifcjgnageniaaGreat
set_option linter.unusedSimpArgs false
set_option linter.unusedVariables false
theorem Dsk.next_mono {d : Dsk} (hd : d.ok) {s s' : HSt} (h : d.inS s) (h' : d.inS s') (hle : ∀ k < d.n, na s k ≤ na s' k) {l l' : List Nat} (hl : ∀ k ∈ l, k < d.n) (hl' : ∀ k ∈ l', k < d.n)
    (hsub : ∀ k ∈ l, k ∈ l') {t : HSt} (e : d.next s l = some t) : ∃ t', d.next s' l' = some t' ∧ ∀ k < d.n, na t k ≤ na t' k := by
  obtain ⟨_, h2⟩ := d.next_at hd.n.2 h.len hl e
  have hm : ∀ k < d.n, d.mid s l k ≤ d.mid s' l' k := fun k hk => by
    have := hle k hk
    unfold Dsk.mid
    by_cases h3 : k ∈ l
    · rw [if_pos h3, if_pos (hsub k h3)]; omega
    · rw [if_neg h3]; split <;> omega
  obtain ⟨t', ht'⟩ := d.next_some hd.n.2 h'.len hl' (fun k hk => by have := hm k hk; have := (h2 k).1 hk; have := d.inS_mid hd h l hk; have := d.inS_mid hd h' l' hk; have := (hd.ever k hk).2.1; omega)
  refine ⟨t', ht', fun k hk => ?_⟩
  obtain ⟨_, h3⟩ := d.next_at hd.n.2 h'.len hl' ht'
  have a1 := (h2 k).2; have a2 := (h3 k).2
  have := hm k hk
  have b1 := d.inS_mid hd h l hk; have b2 := d.inS_mid hd h' l' hk
  have := (hd.ever k hk).2.1
  rw [a1, a2]
  split <;> split <;> omega
theorem ZcW : ((List.range 5).all fun n => (List.range (2 ^ n)).all fun u => (List.range (n + 1)).all fun g => !decide ((Z04 n u).length ≤ g) || (List.range (2 ^ n)).any fun v => decide ((Z04 n v).length = g) && (Z04 n u).all fun k => (Z04 n v).contains k) = true := by decide +kernel
theorem ZcZ {n u g : Nat} (hn : n ≤ 4) (hu : u < 2 ^ n) (hg : g ≤ n) (h : (Z04 n u).length ≤ g) : ∃ v, v < 2 ^ n ∧ (Z04 n v).length = g ∧ ∀ k ∈ Z04 n u, k ∈ Z04 n v := by
  have h0 := ZcW
  rw [List.all_eq_true] at h0
  have h1 := h0 n (List.mem_range.2 (by omega))
  rw [List.all_eq_true] at h1
  have h2 := h1 u (List.mem_range.2 hu)
  rw [List.all_eq_true] at h2
  have h3 := h2 g (List.mem_range.2 (by omega))
  rw [decide_eq_true h, Bool.not_true, Bool.false_or, List.any_eq_true] at h3
  obtain ⟨v, hv, h4⟩ := h3
  rw [Bool.and_eq_true, decide_eq_true_eq, List.all_eq_true] at h4
  exact ⟨v, List.mem_range.1 hv, h4.1, fun k hk => by simpa using h4.2 k hk⟩
theorem Dsk.mem_trs {d : Dsk} {full : Bool} {l : List Nat} : l ∈ d.trs full ↔ ∃ u, u < 2 ^ d.n ∧ l = Z04 d.n u ∧ (l.length : Int) ≤ d.g ∧ (full = true → d.g ≤ (l.length : Int)) := by
  unfold Dsk.trs
  rw [List.mem_filter, List.mem_map]
  have hm : d.may full l = true ↔ (l.length : Int) ≤ d.g ∧ (full = true → d.g ≤ (l.length : Int)) := by
    unfold Dsk.may
    cases full <;> simp <;> omega
  constructor
  · rintro ⟨⟨u, hu, rfl⟩, h⟩; exact ⟨u, List.mem_range.1 hu, rfl, hm.1 h⟩
  · rintro ⟨u, hu, rfl, h⟩; exact ⟨⟨u, List.mem_range.2 hu, rfl⟩, hm.2 h⟩
theorem Dsk.full_of {d : Dsk} (hd : d.ok) {l : List Nat} (h : l ∈ d.trs false) : ∃ l' ∈ d.trs true, ∀ k ∈ l, k ∈ l' := by
  obtain ⟨u, hu, rfl, h1, _⟩ := d.mem_trs.1 h
  have hn := hd.n; have hg := hd.gangs
  have e : (d.g.toNat : Int) = d.g := by unfold Dsk.g at *; omega
  obtain ⟨v, hv, h2, h3⟩ := ZcZ (g := d.g.toNat) hn.2 hu (by unfold Dsk.g at *; omega) (by omega)
  exact ⟨_, d.mem_trs.2 ⟨v, hv, rfl, by omega, fun _ => by omega⟩, h3⟩
def Dsk.pth (d : Dsk) : Nat → HSt → HSt → Nat → Prop
  | 0, s, t, c => t = s ∧ c = 0
  | n + 1, s, t, c => ∃ u a l, d.pth n s u a ∧ l ∈ d.trs false ∧ d.next u l = some t ∧ c = a + l.length
theorem Dsk.pth_cons {d : Dsk} {s u : HSt} {l : List Nat} (hl : l ∈ d.trs false) (e : d.next s l = some u) : ∀ {n : Nat} {t : HSt} {c : Nat}, d.pth n u t c → d.pth (n + 1) s t (l.length + c)
  | 0, t, c, h => by obtain ⟨rfl, rfl⟩ := h; exact ⟨s, 0, l, ⟨rfl, rfl⟩, hl, e, by omega⟩
  | n + 1, t, c, h => by
    obtain ⟨v, a, l', h1, h2, h3, rfl⟩ := h
    exact ⟨v, l.length + a, l', pth_cons hl e h1, h2, h3, by omega⟩
theorem Dsk.pth_uncons {d : Dsk} {s : HSt} : ∀ {n : Nat} {t : HSt} {c : Nat}, d.pth (n + 1) s t c → ∃ l u a, l ∈ d.trs false ∧ d.next s l = some u ∧ d.pth n u t a ∧ c = l.length + a
  | 0, t, c, h => by
    obtain ⟨v, a, l, ⟨rfl, rfl⟩, h2, h3, rfl⟩ := h
    exact ⟨l, t, 0, h2, h3, ⟨rfl, rfl⟩, by omega⟩
  | n + 1, t, c, h => by
    obtain ⟨v, a, l, h1, h2, h3, rfl⟩ := h
    obtain ⟨l', u, a', i1, i2, i3, rfl⟩ := pth_uncons h1
    exact ⟨l', u, a' + l.length, i1, i2, ⟨v, a', l, i3, h2, h3, rfl⟩, by omega⟩
theorem Dsk.trs_sub {d : Dsk} {l : List Nat} (h : l ∈ d.trs true) : l ∈ d.trs false := by
  obtain ⟨u, hu, rfl, h1, _⟩ := d.mem_trs.1 h
  exact d.mem_trs.2 ⟨u, hu, rfl, h1, fun h => by cases h⟩
theorem Dsk.pth_inS {d : Dsk} (hd : d.ok) {s : HSt} (hs : d.inS s) : ∀ {n : Nat} {t : HSt} {c : Nat}, d.pth n s t c → d.inS t
  | 0, t, c, h => by obtain ⟨rfl, rfl⟩ := h; exact hs
  | n + 1, t, c, h => by
    obtain ⟨v, a, l, h1, h2, h3, rfl⟩ := h
    exact d.next_inS hd (pth_inS hd hs h1) (d.trs_lt h2) h3
theorem Dsk.pth_alive {d : Dsk} (hd : d.ok) : ∀ {n : Nat} {s s' t : HSt} {c : Nat}, d.inS s → d.inS s' → (∀ k < d.n, na s k ≤ na s' k) → d.pth n s t c → s' ∈ d.alive n
  | 0, s, s', t, c, _, h', _, _ => (d.mem_sts hd s').2 h'
  | n + 1, s, s', t, c, h, h', hle, hp => by
    obtain ⟨v, a, _, h1, _⟩ := id hp
    obtain ⟨l, u, a', i1, i2, i3, _⟩ := d.pth_uncons hp
    obtain ⟨l', j1, j2⟩ := d.full_of hd i1
    obtain ⟨u', k1, k2⟩ := d.next_mono hd h h' hle (d.trs_lt i1) (d.trs_lt j1) j2 i2
    exact d.alive_succ.2 ⟨pth_alive hd h h' hle h1, d.helped_iff.2 ⟨l', j1, u', k1, pth_alive hd (d.next_inS hd h (d.trs_lt i1) i2) (d.next_inS hd h' (d.trs_lt j1) k1) k2 i3⟩⟩
theorem Dsk.alive_pth {d : Dsk} : ∀ {n : Nat} {s : HSt}, s ∈ d.alive n → ∃ t c, d.pth n s t c
  | 0, s, _ => ⟨s, 0, rfl, rfl⟩
  | n + 1, s, h => by
    obtain ⟨l, hl, t, ht, hta⟩ := d.helped_iff.1 (d.alive_succ.1 h).2
    obtain ⟨t', c, hp⟩ := alive_pth hta
    exact ⟨t', _, d.pth_cons (d.trs_sub hl) ht hp⟩
theorem Dsk.alive_iff {d : Dsk} (hd : d.ok) {n : Nat} {s : HSt} (hs : d.inS s) : s ∈ d.alive n ↔ ∃ t c, d.pth n s t c :=
  ⟨d.alive_pth, fun ⟨_, _, h⟩ => d.pth_alive hd hs hs (fun _ _ => Int.le_refl _) h⟩
theorem Dsk.alive_stop (d : Dsk) : ∃ n, n ≤ d.nst ∧ d.alive (n + 1) = d.alive n := by
  by_cases h : ∃ n, n ≤ d.nst ∧ d.alive (n + 1) = d.alive n
  · exact h
  · have h1 : ∀ m, m ≤ d.nst + 1 → (d.alive m).length + m ≤ d.nst := by
      intro m
      induction m with
      | zero => intro _; show d.sts.length + 0 ≤ _; rw [d.sts_len]; omega
      | succ m ih =>
        intro hm
        have := ih (by omega)
        have h2 : ((d.alive m).filter fun s => !d.helped (d.alive m) s).length ≠ 0 := fun e => h ⟨m, by omega, d.alive_same e⟩
        have := d.alive_less h2
        omega
    have := h1 (d.nst + 1) (Nat.le_refl _)
    omega
theorem Dsk.alive_ever {d : Dsk} {s : HSt} {m : Nat} (hm : d.nst ≤ m) (h : s ∈ d.alive m) : ∀ k, s ∈ d.alive k := fun k => by
  obtain ⟨n, hn, e⟩ := d.alive_stop
  rcases Nat.lt_or_ge k n with h1 | h1
  · exact d.alive_le (by omega) h
  · obtain ⟨j, rfl⟩ : ∃ j, k = n + j := ⟨k - n, by omega⟩
    rw [d.alive_fix e]; exact d.alive_le (by omega) h
theorem ZdM {d : Dsk} (hd : d.ok) {s : HSt} (hs : d.inS s) {j : Nat} (hj : j ≤ d.nst) (h1 : ∃ t c, d.pth j s t c) (h2 : ¬ ∃ t c, d.pth (j + 1) s t c) : Kpt d s j :=
  .inr ⟨j, Nat.le_trans hj (d.nst_le hd).2, rfl, (d.alive_iff hd hs).2 h1, fun h => h2 ((d.alive_iff hd hs).1 h)⟩
theorem Z6V {d : Dsk} (hd : d.ok) {s : HSt} (hs : d.inS s) {m : Nat} (hm : d.nst ≤ m) (h1 : ∃ t c, d.pth m s t c) : Kpt d s 1000000 :=
  .inl ⟨rfl, d.alive_ever hm ((d.alive_iff hd hs).2 h1)⟩
def Z1B (la s : List Int) (u k : Nat) : Int := bif u.testBit k then max (na s k) (na la k) else na s k
def Z2n (v : Int) : Int := bif decide (v = 1000000) then v else v - 1
def rNx (la s : List Int) (u : Nat) : Nat → Option (List Int)
  | 0 => some []
  | k + 1 => match rNx la s u k with
    | none => none
    | some t => bif decide (Z2n (Z1B la s u k) < 0) then none else some (t ++ [Z2n (Z1B la s u k)])
theorem Z33 {la s : List Int} {u : Nat} : ∀ {k : Nat} {t : List Int}, rNx la s u k = some t → t.length = k
  | 0, t, h => by cases h; rfl
  | k + 1, t, h => by
    unfold rNx at h
    split at h
    · cases h
    · rename_i v hv
      cases h1 : decide (Z2n (Z1B la s u k) < 0) with
      | true => rw [h1] at h; cases h
      | false => rw [h1] at h; cases h; simp [Z33 hv]
theorem ZcQ {la s : List Int} {u n : Nat} : ∀ {k : Nat}, k ≤ n → rNx la s u k = none → rNx la s u n = none := by
  intro k hk h
  induction n with
  | zero => obtain rfl : k = 0 := by omega
            exact h
  | succ n ih =>
    rcases Nat.lt_or_ge n k with h1 | h1
    · obtain rfl : k = n + 1 := by omega
      exact h
    · unfold rNx; rw [ih h1]
theorem ZdY {l : List Int} {v : Int} {k : Nat} : na (l ++ [v]) k = if k < l.length then na l k else if k = l.length then v else 0 := by
  unfold na
  rw [List.getD_eq_getElem?_getD, List.getD_eq_getElem?_getD]
  by_cases h : k < l.length
  · rw [if_pos h, List.getElem?_append_left h]
  · rw [if_neg h, List.getElem?_append_right (by omega)]
    by_cases h1 : k = l.length
    · rw [if_pos h1, h1]; simp
    · rw [if_neg h1, List.getElem?_eq_none (by simp; omega)]; rfl
theorem rNx_iff {la s : List Int} {u : Nat} : ∀ {n : Nat} {t : List Int}, rNx la s u n = some t ↔ t.length = n ∧ ∀ k < n, 0 ≤ Z2n (Z1B la s u k) ∧ na t k = Z2n (Z1B la s u k)
  | 0, t => by
    constructor
    · intro h; cases h; exact ⟨rfl, fun k hk => absurd hk (Nat.not_lt_zero _)⟩
    · rintro ⟨h, _⟩; rw [List.length_eq_zero_iff.1 h]; rfl
  | n + 1, t => by
    constructor
    · intro h
      refine ⟨Z33 h, ?_⟩
      unfold rNx at h
      split at h
      · cases h
      · rename_i v hv
        obtain ⟨h1, h2⟩ := rNx_iff.1 hv
        by_cases h3 : Z2n (Z1B la s u n) < 0
        · rw [decide_eq_true h3] at h; cases h
        · rw [decide_eq_false h3, cond_false] at h; cases h
          intro k hk
          rw [ZdY, h1]
          by_cases h4 : k < n
          · rw [if_pos h4]; exact h2 k h4
          · obtain rfl : k = n := by omega
            rw [if_neg h4, if_pos rfl]; exact ⟨by omega, rfl⟩
    · rintro ⟨h1, h2⟩
      have e : t = t.take n ++ [na t n] := by
        have := List.take_append_drop n t
        rw [List.drop_eq_getElem_cons (by omega), List.drop_eq_nil_of_le (by omega)] at this
        have h3 : na t n = t[n] := by unfold na; rw [List.getD_eq_getElem?_getD, List.getElem?_eq_getElem (by omega)]; rfl
        rw [h3]; exact this.symm
      have hv : rNx la s u n = some (t.take n) := rNx_iff.2 ⟨by rw [List.length_take]; omega, fun k hk => by
        have := h2 k (by omega)
        have e2 : na (t.take n) k = na t k := by unfold na; rw [List.getD_eq_getElem?_getD, List.getD_eq_getElem?_getD, List.getElem?_take, if_pos hk]
        rw [e2]; exact this⟩
      have h4 := h2 n (by omega)
      unfold rNx
      rw [hv]
      simp only
      rw [decide_eq_false (by omega), cond_false, ← h4.2, ← e]
theorem Z13 {l : List Int} {k : Nat} : na (pad l) k = na l k := by
  unfold na pad
  rw [List.getD_eq_getElem?_getD, List.getD_eq_getElem?_getD]
  rcases Nat.lt_or_ge k l.length with h | h
  · rw [List.getElem?_append_left h]
  · rw [List.getElem?_append_right h, List.getElem?_eq_none h, List.getElem?_replicate]
    split <;> rfl
theorem Zbk {s t : List Int} (hs : s.length = t.length) (h : pad s = pad t) : s = t := by
  refine List.ext_getElem? fun k => ?_
  rcases Nat.lt_or_ge k s.length with h1 | h1
  · have : na (pad s) k = na (pad t) k := by rw [h]
    rw [Z13, Z13] at this
    unfold na at this
    rw [List.getD_eq_getElem?_getD, List.getD_eq_getElem?_getD, List.getElem?_eq_getElem h1, List.getElem?_eq_getElem (by omega)] at this
    rw [List.getElem?_eq_getElem h1, List.getElem?_eq_getElem (by omega)]
    simpa using this
  · rw [List.getElem?_eq_none h1, List.getElem?_eq_none (by omega)]
theorem mem_bitl {n u k : Nat} : k ∈ Z04 n u ↔ k < n ∧ u.testBit k = true := by
  unfold Z04; rw [List.mem_filter, List.mem_range]
theorem Z8p {d : Dsk} {la s : List Int} (hla : ∀ k < d.n, na la k = na d.lasts k) (u : Nat) {k : Nat} (hk : k < d.n) : Z1B la s u k = d.mid (pad s) (Z04 d.n u) k := by
  unfold Z1B Dsk.mid
  rw [Z13, hla k hk]
  cases h : u.testBit k with
  | true => rw [if_pos (mem_bitl.2 ⟨hk, h⟩)]; rfl
  | false => rw [if_neg (fun h1 => by have := (mem_bitl.1 h1).2; rw [h] at this; cases this)]; rfl
theorem ZbS {d : Dsk} (hn : d.n ≤ 4) {la s t : List Int} (hla : ∀ k < d.n, na la k = na d.lasts k) (hs : s.length = d.n) (ht : t.length = d.n) (u : Nat) : rNx la s u d.n = some t ↔ d.next (pad s) (Z04 d.n u) = some (pad t) := by
  have hl : ∀ k ∈ Z04 d.n u, k < d.n := fun k hk => Z3X hk
  have hps : (pad s).length = 4 := Z0Y (by omega)
  rw [rNx_iff]
  constructor
  · rintro ⟨_, h⟩
    obtain ⟨t', ht'⟩ := d.next_some hn hps hl (fun k hk => by
      have := (h k hk).1
      rw [Z8p hla u hk] at this
      unfold Z2n at this
      by_cases h1 : d.mid (pad s) (Z04 d.n u) k = 1000000
      · exact .inl h1
      · rw [decide_eq_false h1, cond_false] at this; exact .inr (by omega))
    rw [ht']
    congr 1
    obtain ⟨h2, h3⟩ := d.next_at hn hps hl ht'
    refine Z9s h2 (Z0Y (by omega)) fun k hk => ?_
    rw [(h3 k).2, Z13]
    by_cases hkn : k < d.n
    · rw [(h k hkn).2, Z8p hla u hkn]
      unfold Z2n
      by_cases h1 : d.mid (pad s) (Z04 d.n u) k = 1000000
      · rw [if_neg (by omega), decide_eq_true h1]; rfl
      · rw [if_pos ⟨hkn, h1⟩, decide_eq_false h1]; rfl
    · rw [if_neg (by omega)]
      unfold Dsk.mid
      rw [if_neg (fun h1 => hkn (hl k h1)), Z13]
      unfold na
      rw [List.getD_eq_getElem?_getD, List.getD_eq_getElem?_getD, List.getElem?_eq_none (by omega), List.getElem?_eq_none (by omega)]
  · intro h
    obtain ⟨h2, h3⟩ := d.next_at hn hps hl h
    refine ⟨ht, fun k hk => ?_⟩
    obtain ⟨h4, h5⟩ := h3 k
    have h4 := h4 hk
    rw [Z13] at h5
    rw [Z8p hla u hk, h5]
    unfold Z2n
    by_cases h1 : d.mid (pad s) (Z04 d.n u) k = 1000000
    · rw [if_neg (by omega), decide_eq_true h1, cond_true]; exact ⟨by omega, rfl⟩
    · rw [if_pos ⟨hk, h1⟩, decide_eq_false h1, cond_false]; exact ⟨by omega, rfl⟩
theorem Zcw : ((List.range 5).all fun n => (List.range (2 ^ n)).all fun u => decide ((Z04 n u).length = (Z04 4 u).length)) = true := by decide +kernel
theorem Z85 {n u : Nat} (hn : n ≤ 4) (hu : u < 2 ^ n) : (Z04 4 u).length = (Z04 n u).length := by
  have h0 := Zcw
  rw [List.all_eq_true] at h0
  have h1 := h0 n (List.mem_range.2 (by omega))
  rw [List.all_eq_true] at h1
  exact (of_decide_eq_true (h1 u (List.mem_range.2 hu))).symm
theorem ZaK : ∀ u < 16, (Z04 4 u).length = u % 2 + (Z04 4 (u / 2)).length := by decide +kernel
theorem Zbp (u : Nat) : (Z04 4 u).length ≤ 4 := Z18 4 u
def rS (n : Nat) (g : Int) (la s : List Int) (u : Nat) : Option (List Int) := bif decide (((Z04 4 u).length : Int) ≤ g) then rNx la s u n else none
theorem Zdz {n : Nat} {g : Int} {la s t : List Int} {u : Nat} (h : rS n g la s u = some t) : t.length = n := by
  unfold rS at h
  cases h1 : decide (((Z04 4 u).length : Int) ≤ g) with
  | true => rw [h1] at h; exact Z33 h
  | false => rw [h1] at h; cases h
def Sx (n : Nat) (g : Int) (la : List Int) (now : List (List Int)) (i u : Nat) (t : List Int) : Prop := ∃ j s v, now[j]? = some s ∧ (j < i ∨ (j = i ∧ v < u)) ∧ v < 2 ^ n ∧ rS n g la s v = some t
theorem Sx.step {n : Nat} {g : Int} {la s t : List Int} {now : List (List Int)} {i u : Nat} (hs : now[i]? = some s) (hu : u < 2 ^ n) : Sx n g la now i (u + 1) t ↔ Sx n g la now i u t ∨ rS n g la s u = some t := by
  constructor
  · rintro ⟨j, s', v, h1, h2, h3, h4⟩
    rcases h2 with h2 | ⟨rfl, h2⟩
    · exact .inl ⟨j, s', v, h1, .inl h2, h3, h4⟩
    · rcases Nat.lt_or_ge v u with h5 | h5
      · exact .inl ⟨j, s', v, h1, .inr ⟨rfl, h5⟩, h3, h4⟩
      · obtain rfl : v = u := by omega
        rw [hs] at h1; cases h1; exact .inr h4
  · rintro (⟨j, s', v, h1, h2, h3, h4⟩ | h)
    · exact ⟨j, s', v, h1, by omega, h3, h4⟩
    · exact ⟨i, s, u, hs, by omega, hu, h⟩
theorem Sx.next {n : Nat} {g : Int} {la t : List Int} {now : List (List Int)} {i : Nat} : Sx n g la now (i + 1) 0 t ↔ Sx n g la now i (2 ^ n) t := by
  constructor
  · rintro ⟨j, s', v, h1, h2, h3, h4⟩
    exact ⟨j, s', v, h1, by omega, h3, h4⟩
  · rintro ⟨j, s', v, h1, h2, h3, h4⟩
    exact ⟨j, s', v, h1, by omega, h3, h4⟩
structure Bf (n : Nat) (g : Int) (la : List Int) (now : List (List Int)) (i u : Nat) (L : List (List Int)) : Prop where
  len : ∀ t ∈ L, t.length = n
  nd : L.Nodup
  mem : ∀ t, t ∈ L ↔ Sx n g la now i u t
theorem Bf.start {n : Nat} {g : Int} {la : List Int} {now : List (List Int)} : Bf n g la now 0 0 [] := ⟨by simp, List.nodup_nil, fun t => by
  constructor
  · intro h; cases h
  · rintro ⟨j, s, v, _, h, _⟩; omega⟩
theorem Bf.next {n : Nat} {g : Int} {la : List Int} {now : List (List Int)} {i : Nat} {L : List (List Int)} (h : Bf n g la now i (2 ^ n) L) : Bf n g la now (i + 1) 0 L := ⟨h.len, h.nd, fun t => (h.mem t).trans Sx.next.symm⟩
theorem Bf.skip {n : Nat} {g : Int} {la s : List Int} {now : List (List Int)} {i u : Nat} {L : List (List Int)} (h : Bf n g la now i u L) (hs : now[i]? = some s) (hu : u < 2 ^ n) (hn : ∀ t, rS n g la s u = some t → t ∈ L) : Bf n g la now i (u + 1) L := ⟨h.len, h.nd, fun t => by
  rw [Sx.step hs hu, ← h.mem]
  exact ⟨.inl, fun h1 => h1.elim id (hn t)⟩⟩
theorem Bf.add {n : Nat} {g : Int} {la s t : List Int} {now : List (List Int)} {i u : Nat} {L : List (List Int)} (h : Bf n g la now i u L) (hs : now[i]? = some s) (hu : u < 2 ^ n) (ht : rS n g la s u = some t) (hn : t ∉ L) : Bf n g la now i (u + 1) (L ++ [t]) where
  len x hx := by
    rcases List.mem_append.1 hx with hx | hx
    · exact h.len x hx
    · rw [List.mem_singleton.1 hx]; exact Zdz ht
  nd := List.nodup_append.2 ⟨h.nd, by simp, fun x hx y hy e => hn (by rw [← List.mem_singleton.1 hy, ← e]; exact hx)⟩
  mem x := by
    rw [Sx.step hs hu, ← h.mem, List.mem_append, List.mem_singleton, ht]
    exact or_congr_right ⟨fun e => by rw [e], fun e => (Option.some.inj e).symm⟩
theorem Z3y {α : Type} [DecidableEq α] : ∀ {l m : List α}, l.Nodup → (∀ x ∈ l, x ∈ m) → l.length ≤ m.length
  | [], _, _, _ => Nat.zero_le _
  | x :: l, m, hn, h => by
    rw [List.nodup_cons] at hn
    have hx := h x (by simp)
    have h1 := Z3y (m := m.erase x) hn.2 fun y hy => (List.mem_erase_of_ne (show y ≠ x from fun e => hn.1 (by rw [← e]; exact hy))).2 (h y (by simp [hy]))
    rw [List.length_erase_of_mem hx] at h1
    have := List.length_pos_of_mem hx
    rw [List.length_cons]; omega
theorem Z73 {α β : Type} {f : α → β} : ∀ {l : List α}, (∀ x ∈ l, ∀ y ∈ l, f x = f y → x = y) → l.Nodup → (l.map f).Nodup
  | [], _, _ => List.nodup_nil
  | x :: l, hf, hn => by
    rw [List.nodup_cons] at hn
    rw [List.map_cons, List.nodup_cons]
    refine ⟨fun h => ?_, Z73 (fun a ha b hb => hf a (by simp [ha]) b (by simp [hb])) hn.2⟩
    obtain ⟨y, hy, e⟩ := List.mem_map.1 h
    have e2 := hf y (by simp [hy]) x (by simp) e
    exact hn.1 (e2 ▸ hy)
structure Lv (d : Dsk) (s0 : HSt) (day : Nat) (L : List (List Int)) : Prop where
  len : ∀ t ∈ L, t.length = d.n
  mem : ∀ t, t.length = d.n → (t ∈ L ↔ ∃ c, d.pth day s0 (pad t) c)
theorem Z55 {d : Dsk} (hd : d.ok) {u : HSt} (h : d.inS u) : pad (u.take d.n) = u := by
  have hn := hd.n
  refine Z9s (Z0Y (by rw [List.length_take]; omega)) h.len fun k hk => ?_
  rw [Z13]
  unfold na
  rw [List.getD_eq_getElem?_getD, List.getD_eq_getElem?_getD, List.getElem?_take]
  by_cases h1 : k < d.n
  · rw [if_pos h1]
  · rw [if_neg h1]
    have := h.out k hk (by omega)
    unfold na at this
    rw [List.getD_eq_getElem?_getD] at this
    rw [this]; rfl
theorem Lv.start {d : Dsk} {s : List Int} (hs : s.length = d.n) : Lv d (pad s) 0 [s] := ⟨fun t ht => by rw [List.mem_singleton.1 ht]; exact hs, fun t ht => by
  rw [List.mem_singleton]
  constructor
  · rintro rfl; exact ⟨0, rfl, rfl⟩
  · rintro ⟨c, h, _⟩; exact Zbk (by omega) h⟩
theorem Lv.inS {d : Dsk} (hd : d.ok) {s0 : HSt} (h0 : d.inS s0) {day : Nat} {L : List (List Int)} (h : Lv d s0 day L) {t : List Int} (ht : t ∈ L) : d.inS (pad t) := by
  obtain ⟨c, hc⟩ := (h.mem t (h.len t ht)).1 ht
  exact d.pth_inS hd h0 hc
theorem Z53 {d : Dsk} (hd : d.ok) {la s t : List Int} (hla : ∀ k < d.n, na la k = na d.lasts k) (hs : s.length = d.n) (ht : t.length = d.n) {v : Nat} (hv : v < 2 ^ d.n) : rS d.n d.gangs la s v = some t ↔ Z04 d.n v ∈ d.trs false ∧ d.next (pad s) (Z04 d.n v) = some (pad t) := by
  have hn := hd.n
  have e := Z85 hn.2 hv
  have hle := Z18 d.n v
  have hm : Z04 d.n v ∈ d.trs false ↔ ((Z04 d.n v).length : Int) ≤ d.gangs := by
    rw [d.mem_trs]
    unfold Dsk.g
    constructor
    · rintro ⟨_, _, _, h, _⟩; omega
    · intro h; exact ⟨v, hv, rfl, by omega, fun h => by cases h⟩
  unfold rS
  rw [e]
  by_cases h : ((Z04 d.n v).length : Int) ≤ d.gangs
  · rw [decide_eq_true h, cond_true, ZbS hn.2 hla hs ht]
    exact ⟨fun h1 => ⟨hm.2 h, h1⟩, fun h1 => h1.2⟩
  · rw [decide_eq_false h, cond_false]
    exact ⟨fun h1 => (by cases h1), fun h1 => absurd (hm.1 h1.1) h⟩
theorem Lv.next {d : Dsk} (hd : d.ok) {s0 : HSt} (h0 : d.inS s0) {la : List Int} (hla : ∀ k < d.n, na la k = na d.lasts k) {day : Nat} {now L : List (List Int)} (h : Lv d s0 day now) (hb : Bf d.n d.gangs la now now.length 0 L) : Lv d s0 (day + 1) L where
  len := hb.len
  mem t ht := by
    rw [hb.mem]
    constructor
    · rintro ⟨j, s, v, h1, _, h3, h4⟩
      have hm := List.mem_of_getElem? h1
      obtain ⟨c, hc⟩ := (h.mem s (h.len s hm)).1 hm
      obtain ⟨h5, h6⟩ := (Z53 hd hla (h.len s hm) ht h3).1 h4
      exact ⟨_, _, _, _, hc, h5, h6, rfl⟩
    · rintro ⟨c, u, a, l, h1, h2, h3, _⟩
      obtain ⟨v, hv, rfl, _⟩ := d.mem_trs.1 h2
      have hu := d.pth_inS hd h0 h1
      have hlen : (u.take d.n).length = d.n := by rw [List.length_take, hu.len]; have := hd.n; omega
      have e := Z55 hd hu
      have hm : u.take d.n ∈ now := (h.mem _ hlen).2 ⟨a, by rw [e]; exact h1⟩
      obtain ⟨j, hj⟩ := List.getElem?_of_mem hm
      exact ⟨j, _, v, hj, .inl (List.getElem?_eq_some_iff.1 hj).1, hv, (Z53 hd hla hlen ht hv).2 ⟨h2, by rw [e]; exact h3⟩⟩
theorem Bf.few {d : Dsk} (hd : d.ok) {s0 : HSt} (h0 : d.inS s0) {la : List Int} (hla : ∀ k < d.n, na la k = na d.lasts k) {day i u : Nat} {now L : List (List Int)} (h : Lv d s0 day now) (hb : Bf d.n d.gangs la now i u L) : L.length ≤ 14641 := by
  have h1 : (L.map pad).length ≤ d.sts.length := Z3y (Z73 (fun x hx y hy e => Zbk (by rw [hb.len x hx, hb.len y hy]) e) hb.nd) fun p hp => by
    obtain ⟨t, ht, rfl⟩ := List.mem_map.1 hp
    obtain ⟨j, s, v, h1, _, h3, h4⟩ := (hb.mem t).1 ht
    have hm := List.mem_of_getElem? h1
    obtain ⟨h5, h6⟩ := (Z53 hd hla (h.len s hm) (hb.len t ht) h3).1 h4
    exact (d.mem_sts hd _).2 (d.next_inS hd (h.inS hd h0 hm) (d.trs_lt h5) h6)
  rw [List.length_map, d.sts_len] at h1
  have := (d.nst_le hd).2
  omega
theorem Lv.ends {d : Dsk} (hd : d.ok) {s0 : HSt} (h0 : d.inS s0) {day : Nat} (hday : day ≤ d.nst) {now : List (List Int)} (h : Lv d s0 day now) (hne : now ≠ []) (h' : Lv d s0 (day + 1) []) : Kpt d s0 day := by
  refine ZdM hd h0 hday ?_ ?_
  · obtain ⟨t, ht⟩ := List.exists_mem_of_ne_nil now hne
    obtain ⟨c, hc⟩ := (h.mem t (h.len t ht)).1 ht
    exact ⟨_, c, hc⟩
  · rintro ⟨t, c, hc⟩
    have hi := d.pth_inS hd h0 hc
    have hlen : (t.take d.n).length = d.n := by rw [List.length_take, hi.len]; have := hd.n; omega
    have := (h'.mem _ hlen).2 ⟨c, by rw [Z55 hd hi]; exact hc⟩
    cases this
theorem Lv.ever {d : Dsk} (hd : d.ok) {s0 : HSt} (h0 : d.inS s0) {day : Nat} (hday : d.nst ≤ day) {now : List (List Int)} (h : Lv d s0 day now) (hne : now ≠ []) : Kpt d s0 1000000 := by
  obtain ⟨t, ht⟩ := List.exists_mem_of_ne_nil now hne
  obtain ⟨c, hc⟩ := (h.mem t (h.len t ht)).1 ht
  exact Z6V hd h0 hday ⟨_, c, hc⟩
open Go
def bgL (b : Barn) : List Int := b.bins.map fun x => b.days x x.warm
def laL (b : Barn) : List Int := b.bins.map fun x => b.days x b.cool
theorem Z2t (b : Barn) : (bgL b).length = b.bins.length := List.length_map _
theorem Zg4 {b : Barn} {k : Nat} {x : HBin} (hx : b.bins[k]? = some x) : na (laL b) k = b.days x b.cool := by unfold na laL; rw [List.getD_eq_getElem?_getD, List.getElem?_map, hx]; rfl
theorem Z1C (b : Barn) : ∀ k < b.dsk.n, na (laL b) k = na b.dsk.lasts k := fun k _ => (Z13 (l := laL b)).symm
theorem Z8e : ∀ (a c : List Nat), prd (a ++ c) = prd a * prd c
  | [], c => by simp [prd]
  | z :: a, c => by show z * prd (a ++ c) = z * prd a * prd c; rw [Z8e a c, Nat.mul_assoc]
theorem ZcR {zs : List Nat} {k z : Nat} (h : zs[k]? = some z) : prd (zs.take (k + 1)) = prd (zs.take k) * z := by
  rw [List.take_add_one, h, Option.toList_some, Z8e]; simp [prd]
theorem Zdf {d : Dsk} (hd : d.ok) {k : Nat} (hk : k ≤ d.n) : 1 ≤ prd (d.zs.take k) ∧ prd (d.zs.take k) ≤ 14641 := by
  refine ⟨Z6z _ (fun z hz => d.zs_pos z (List.mem_of_mem_take hz)), ?_⟩
  have h1 : d.nst = prd (d.zs.take k) * prd (d.zs.drop k) := by unfold Dsk.nst; rw [← Z8e, List.take_append_drop]
  have h2 := Z6z (d.zs.drop k) (fun z hz => d.zs_pos z (List.mem_of_mem_drop hz))
  have h3 := (d.nst_le hd).2
  have h4 : prd (d.zs.take k) * 1 ≤ prd (d.zs.take k) * prd (d.zs.drop k) := Nat.mul_le_mul_left _ h2
  omega
theorem Z4h {n : Nat} (h : n ≤ 4) : 1 ≤ 2 ^ n ∧ 2 ^ n ≤ 16 := by
  refine ⟨Nat.pos_of_ne_zero (by simp), ?_⟩
  have := Nat.pow_le_pow_right (show 0 < 2 by decide) h
  omega
theorem ZbW {la s : List Int} {u k : Nat} (h : u / 2 ^ k % 2 = 1) : Z1B la s u k = max (na s k) (na la k) := by
  unfold Z1B; rw [Nat.testBit_eq_decide_div_mod_eq, decide_eq_true h]; rfl
theorem Ze3 {la s : List Int} {u k : Nat} (h : ¬ u / 2 ^ k % 2 = 1) : Z1B la s u k = na s k := by
  unfold Z1B; rw [Nat.testBit_eq_decide_div_mod_eq, decide_eq_false h]; rfl
theorem Z5V {la s : List Int} {u k n : Nat} {t : List Int} (hk : k < n) (h : rNx la s u k = some t) (hb : Z2n (Z1B la s u k) < 0) : rNx la s u n = none := by
  refine ZcQ (k := k + 1) hk ?_
  unfold rNx; rw [h]; simp only; rw [decide_eq_true hb]; rfl
theorem Z4j {la s : List Int} {u k : Nat} {t : List Int} (h : rNx la s u k = some t) (hb : ¬ Z2n (Z1B la s u k) < 0) : rNx la s u (k + 1) = some (t ++ [Z2n (Z1B la s u k)]) := by
  unfold rNx; rw [h]; simp only; rw [decide_eq_false hb]; rfl
theorem Z3r (l : List Int) : ∀ r ∈ Zm l, r.length = 1 := fun r hr => by obtain ⟨x, _, rfl⟩ := List.mem_map.1 hr; rfl
def Zab (l : List (List Int)) (s : List Int) : Int := match l.findIdx? (fun t => decide (t = s)) with
  | some k => (k : Int)
  | none => -1
theorem plc_neg {l : List (List Int)} {s : List Int} : Zab l s < 0 ↔ s ∉ l := by
  unfold Zab
  cases h : l.findIdx? (fun t => decide (t = s)) with
  | some k =>
    obtain ⟨hk, h1, _⟩ := List.findIdx?_eq_some_iff_getElem.1 h
    have : l[k] = s := of_decide_eq_true h1
    constructor
    · intro h; simp only at h; omega
    · intro h; exact absurd (this ▸ List.getElem_mem hk) h
  | none =>
    rw [List.findIdx?_eq_none_iff] at h
    constructor
    · intro _ hm; have := h s hm; simp at this
    · intro _; simp only; omega
theorem ZcL {l s : List Int} {i : Nat} {u v : Int} (hu : l[i]? = some u) (hv : s[i]? = some v) : decide (l.take (i + 1) = s.take (i + 1)) = (decide (l.take i = s.take i) && decide (u = v)) := by
  rw [ZK hu, ZK hv, ← Bool.decide_and]
  refine decide_eq_decide.2 ⟨fun h => ?_, fun h => by rw [h.1, h.2]⟩
  have h1 := List.append_inj h (by have := (List.getElem?_eq_some_iff.1 hu).1; have := (List.getElem?_eq_some_iff.1 hv).1; rw [List.length_take, List.length_take]; omega)
  exact ⟨h1.1, by simpa using h1.2⟩
theorem ZfJ {l : List (List Int)} {s t : List Int} {k : Nat} (hn : ∀ y ∈ l.take k, y ≠ s) (h : l[k]? = some t) (e : t = s) : Zab l s = k := by
  have hk := (List.getElem?_eq_some_iff.1 h).1
  have : l.findIdx? (fun t => decide (t = s)) = some k := List.findIdx?_eq_some_iff_getElem.2 ⟨hk, by rw [(List.getElem?_eq_some_iff.1 h).2]; exact decide_eq_true e, fun j hj => by
    have := hn l[j] (List.mem_take_iff_getElem.2 ⟨j, by omega, rfl⟩)
    simpa using this⟩
  unfold Zab; rw [this]
theorem Zfj {l : List (List Int)} {s : List Int} (hn : ∀ y ∈ l, y ≠ s) : Zab l s = -1 := by
  have : l.findIdx? (fun t => decide (t = s)) = none := List.findIdx?_eq_none_iff.2 fun x hx => by simpa using hn x hx
  unfold Zab; rw [this]
theorem Z6F (b : Barn) (ab : Option Addr) (cb : Nat) (hok : b.ok) (H : Zg) (R : Z6) [hB : MemRows ab 4 (Z7 b.bins) R] :
    Fn Tryz.prog 81 [b.v (b.sl ab cb)] H R (fun v H' R' => ∃ (ax : Option Addr) (cx : Nat), v = .slice ax b.bins.length cx ∧ H' = H ∧ R' = Z5 ax 1 (Zm (bgL b)) :: R) := by
 have hmn := hok.many
 refine Zy Tryz.func81 rfl Tryz.ntmps81 rfl ?_
 refine sqt 2 rfl (bx rfl rfl rfl (fun b1 => pur 1 rfl (sqt 1 rfl (pur 1 rfl (Z0 (sqt 1 rfl (pur 1 rfl (Z3 ?_))))))))
 refine Zj (ι := (k : {k : Nat // k ≤ b.bins.length}) × OSl 3 1 (Zm ((bgL b).take k.1))) (fun y => ⟨[(1, .pointer (some ⟨b1, 0, none⟩)), (3, y.2.fs), (4, .int .i64 y.1.1)], y.2.G ++ (b1, cel 84 (btl b (b.sl ab cb))) :: H, R⟩) (fun y => b.bins.length - y.1.1) ⟨⟨0, by omega⟩, OSl.nil _ _⟩ ?_ (fun y => ?_)
 exact Zr idH
 obtain ⟨⟨k, hk⟩, o⟩ := y
 dsimp only at hk o ⊢
 refine Z0 (sqt 5 rfl (pur 1 rfl (sp rfl (PE.fA Z0J rfl) rfl (spL rfl rfl (lh Z4C rfl rfl) rfl (sp rfl (PE.lenSl Z5i rfl) rfl (pur 1 rfl ?_))))))
 refine Z2 rfl ?_ ?_ <;> intro hc0 <;> try simp only [cS] at hc0
 obtain ⟨x, hx⟩ : ∃ x, b.bins[k]? = some x := ⟨_, List.getElem?_eq_getElem (by omega)⟩
 have hm := List.mem_of_getElem? hx
 have hh := hok.bins x hm
 have hg : (bgL b)[k]? = some (b.days x x.warm) := by unfold bgL; rw [List.getElem?_map, hx]; rfl
 refine Zl (a := ab) (sz := 4) (rows := Z7 b.bins) (by intro h0; simp [Z7] at h0; simp [h0] at hx) (fun ba oa he => ?_)
 subst he
 refine Z1 (Z0 (Z3 ?_))
 refine Zi [0, 0, 0, 0, 8, 0, 56, 120, 248, 510, 1022, 2047, 4095] (.tk 0 (.ld 1 (.tk 2 (.tk 3 (.ld 4 (tks 5 3 (.ld 8 (.big 9 (.big 10 (.big 11 (.tk 12 .done))))))))))) ZH (by kernel_rfl) ?_
 refine Zp 1 rfl (ld rfl rfl (lhA (btl b (b.sl (some ⟨ba, oa, none⟩) cb)) Z1n rfl rfl rfl) rfl (Zp 1 rfl (tk rfl (PE.fA Z0J rfl) rfl (ld rfl rfl (lh Z4C rfl rfl) rfl (Zp 1 rfl (tk rfl (PE.indexAddr Zac rfl rfl (by omega) (by omega)) rfl (tk rfl (PE.fA Z6a rfl) rfl (ld rfl rfl (lf (j := 0) sc3 (Z01 hx) rfl) rfl ?_))))))))
 refine clV rfl ZcD rfl rfl (Z6n b (some ⟨ba, oa, none⟩) cb hok k x hx x.warm (by omega) _ _) ?_
 refine bgT ?_
 refine bsl (out := [_]) rfl Z1u zl3 rfl rfl rfl rfl rfl rfl (fun b22 => ?_)
 refine bgT ?_
 refine apO (o) rfl Z7F rfl rfl (Z0W (row := [.int .i64 (b.days x x.warm)]) rfl) rfl rfl ((by rw [Zd, List.length_take, Z2t]; simp only [List.length_singleton]; omega)) rfl (fun o23 => ?_)
 refine bgT (Zp 1 rfl (sqr 3 rfl (pur 1 rfl (sp rfl (PE.add rfl rfl (by omega)) rfl (pur 1 rfl ?_)))))
 exact Zn ⟨⟨k + 1, by omega⟩, o23.cast (by rw [ZK hg]; simp [Zm])⟩ (fun w h => h.del b22)
 obtain rfl : k = b.bins.length := by omega
 obtain ⟨ax, cx, he, hf⟩ := o.freeze
 rw [he, Zd, List.length_take, Z2t, Nat.min_self]
 refine Sy.heap (fun w h => hf h) ?_
 clear he hf
 rw [show (bgL b).take b.bins.length = bgL b from List.take_of_length_le (by rw [Z2t]; exact Nat.le_refl _)]
 refine Zb (Zf (Zf (ZB (sqt 2 rfl (pur 2 rfl (Z4 ?_))))))
 exact rtA rfl rfl rfl ⟨ax, cx, rfl, rfl, rfl⟩ (fun w h => h.del b1)
theorem ZaU (b : Barn) (ab : Option Addr) (cb : Nat) (hok : b.ok) (H : Zg) (R : Z6) [hB : MemRows ab 4 (Z7 b.bins) R] :
    FnV Tryz.prog 78 [b.v (b.sl ab cb)] H R (.int .i64 (b.dsk.nst : Int)) := by
 have hmn := hok.many
 have hdk := b.dsk_ok hok
 refine Zy Tryz.func78 rfl Tryz.ntmps78 rfl ?_
 refine sqt 2 rfl (bx rfl rfl rfl (fun b1 => pur 1 rfl (sqt 1 rfl (pur 1 rfl (Z0 (sqt 1 rfl (pur 1 rfl (Z3 ?_))))))))
 refine Zj (ι := {k : Nat // k ≤ b.bins.length}) (fun k => ⟨[(1, .pointer (some ⟨b1, 0, none⟩)), (3, .int .i64 (prd (b.dsk.zs.take k.1) : Nat)), (4, .int .i64 k.1)], (b1, cel 84 (btl b (b.sl ab cb))) :: H, R⟩) (fun k => b.bins.length - k.1) ⟨0, by omega⟩ ?_ (fun k => ?_)
 exact Zr idH
 obtain ⟨k, hk⟩ := k
 dsimp only at hk ⊢
 have hpb := Zdf hdk (show k ≤ b.dsk.n from hk)
 refine Z0 (sqt 5 rfl (pur 1 rfl (sp rfl (PE.fA Z0J rfl) rfl (spL rfl rfl (lh Z4C rfl rfl) rfl (sp rfl (PE.lenSl Z5i rfl) rfl (pur 1 rfl ?_))))))
 refine Z2 rfl ?_ ?_ <;> intro hc0 <;> try simp only [cS] at hc0
 obtain ⟨x, hx⟩ : ∃ x, b.bins[k]? = some x := ⟨_, List.getElem?_eq_getElem (by omega)⟩
 have hm := List.mem_of_getElem? hx
 have hh := hok.bins x hm
 have r1 := b.days_range hok hm hh.2.1.1
 have r2 := b.days_range hok hm hok.cool.1
 have hmo : na b.dsk.most k = max (b.days x x.warm) (b.days x b.cool) := Z24 (b.map_get hok _ hx)
 have hzk := b.dsk.zs_get hdk (show k < b.dsk.n by show k < b.bins.length; omega)
 rw [hmo] at hzk
 have hpt := ZcR hzk
 have hpb2 := Zdf hdk (show k + 1 ≤ b.dsk.n by show k + 1 ≤ b.bins.length; omega)
 refine Zl (a := ab) (sz := 4) (rows := Z7 b.bins) (by intro h0; simp [Z7] at h0; simp [h0] at hx) (fun ba oa he => ?_)
 subst he
 refine Z1 (Z0 (Z3 (Z0 ?_)))
 refine Zi [0, 0, 0, 4, 0, 28, 60, 124, 255, 0, 0, 2047, 4095, 8191] (.ld 0 (.tk 1 (.tk 2 (.ld 3 (tks 4 3 (.ld 7 (.ld 9 (.tk 10 (.big 8 (.big 11 (.tk 12 (.tk 13 .done)))))))))))) ZH (by kernel_rfl) ?_
 refine ld rfl rfl (lhA (btl b (b.sl (some ⟨ba, oa, none⟩) cb)) Z1n rfl rfl rfl) rfl (Zp 1 rfl (tk rfl (PE.fA Z0J rfl) rfl (ld rfl rfl (lh Z4C rfl rfl) rfl (Zp 1 rfl (tk rfl (PE.indexAddr Zac rfl rfl (by omega) (by omega)) rfl (tk rfl (PE.fA Z6a rfl) rfl (ld rfl rfl (lf (j := 0) sc3 (Z01 hx) rfl) rfl (ld rfl rfl (lhA (btl b (b.sl (some ⟨ba, oa, none⟩) cb)) Z1n rfl rfl rfl) rfl (Zp 1 rfl ?_)))))))))
 refine clV rfl ZcD rfl rfl (Z6n b (some ⟨ba, oa, none⟩) cb hok k x hx x.warm (by omega) _ _) ?_
 refine bg (fun w hs => ⟨(lhA (btl b (b.sl (some ⟨ba, oa, none⟩) cb)) Z1n rfl rfl rfl) w hs, trivial, trivial, trivial, trivial⟩) ?_
 refine clV rfl ZeR rfl rfl (Z6r b (some ⟨ba, oa, none⟩) cb hok k x hx _ _) ?_
 refine bgT (tk rfl (PE.max rfl rfl) rfl (Zp 1 rfl (sqt 2 rfl (pur 2 rfl ?_))))
 refine Z2 rfl ?_ ?_ <;> intro hc1 <;> try simp only [cS] at hc1
 rw [dF hc1, cond_false] at hpt
 have hcast : ((prd (b.dsk.zs.take (k + 1)) : Nat) : Int) = (prd (b.dsk.zs.take k) : Nat) * (max (b.days x x.warm) (b.days x b.cool) + 1) := by rw [hpt]; push_cast; rw [Int.toNat_of_nonneg (by omega)]
 refine sqr 5 rfl (pur 2 rfl (sp rfl (PE.add rfl rfl (by omega)) rfl (sp rfl (PE.mul rfl rfl (by rw [← hcast]; omega)) rfl (pur 1 rfl (sqr 3 rfl (pur 1 rfl (sp rfl (PE.add rfl rfl (by omega)) rfl (pur 1 rfl ?_))))))))
 exact ZW ⟨k + 1, by omega⟩ (by dsimp only; omega) (by dsimp only; first | (rw [hcast]; exact (by repeat' first | exact Sub.nil | apply Sub.cons | rfl | (simp [lk]; omega))) | (rw [hpt]; exact (by repeat' first | exact Sub.nil | apply Sub.cons | rfl | (simp [lk]; omega)))) idH
 rw [dT (show max (b.days x x.warm) (b.days x b.cool) = 1000000 by omega), cond_true, Nat.mul_one] at hpt
 refine Z1 (sqr 3 rfl (pur 1 rfl (sp rfl (PE.add rfl rfl (by omega)) rfl (pur 1 rfl ?_))))
 exact ZW ⟨k + 1, by omega⟩ (by dsimp only; omega) (by dsimp only; first | (rw [hcast]; exact (by repeat' first | exact Sub.nil | apply Sub.cons | rfl | (simp [lk]; omega))) | (rw [hpt]; exact (by repeat' first | exact Sub.nil | apply Sub.cons | rfl | (simp [lk]; omega)))) idH
 obtain rfl : k = b.bins.length := by omega
 have hfull : prd (b.dsk.zs.take b.bins.length) = b.dsk.nst := by unfold Dsk.nst; rw [List.take_of_length_le (by rw [b.dsk.zs_len hdk]; exact Nat.le_refl _)]
 refine Zb (Zf (Zf (ZB (sqt 2 rfl (pur 2 rfl (Z4 ?_))))))
 exact rtA rfl rfl rfl ⟨by rw [← hfull]; rfl, rfl, rfl⟩ (fun w h => h.del b1)
theorem Z83 (b : Barn) (ab : Option Addr) (cb : Nat) (hmn : b.bins.length ≤ 4) (H : Zg) (R : Z6) :
    FnV Tryz.prog 82 [b.v (b.sl ab cb)] H R (.int .i64 ((2 ^ b.bins.length : Nat) : Int)) := by
 refine Zy Tryz.func82 rfl Tryz.ntmps82 rfl ?_
 refine sqt 2 rfl (bx rfl rfl rfl (fun b1 => pur 1 rfl (sqt 1 rfl (pur 1 rfl (Z0 (sqt 1 rfl (pur 1 rfl (Z3 ?_))))))))
 refine Zj (ι := {k : Nat // k ≤ b.bins.length}) (fun k => ⟨[(1, .pointer (some ⟨b1, 0, none⟩)), (3, .int .i64 ((2 ^ k.1 : Nat) : Int)), (4, .int .i64 k.1)], (b1, cel 84 (btl b (b.sl ab cb))) :: H, R⟩) (fun k => b.bins.length - k.1) ⟨0, by omega⟩ ?_ (fun k => ?_)
 exact Zr idH
 obtain ⟨k, hk⟩ := k
 dsimp only at hk ⊢
 have hp := Z4h (n := k) (by omega)
 have hps : ((2 ^ (k + 1) : Nat) : Int) = 2 * ((2 ^ k : Nat) : Int) := by rw [Nat.pow_succ]; push_cast; omega
 refine Z0 (sqt 5 rfl (pur 1 rfl (sp rfl (PE.fA Z0J rfl) rfl (spL rfl rfl (lh Z4C rfl rfl) rfl (sp rfl (PE.lenSl Z5i rfl) rfl (pur 1 rfl ?_))))))
 refine Z2 rfl ?_ ?_ <;> intro hc0 <;> try simp only [cS] at hc0
 refine Z1 (Z0 (Z3 (sqr 3 rfl (pur 1 rfl (sp rfl (PE.mul rfl rfl (by omega)) rfl (pur 1 rfl (sqr 3 rfl (pur 1 rfl (sp rfl (PE.add rfl rfl (by omega)) rfl (pur 1 rfl ?_))))))))))
 exact ZW ⟨k + 1, by omega⟩ (by dsimp only; omega) (by dsimp only; rw [hps]; exact (by repeat' first | exact Sub.nil | apply Sub.cons | rfl | (simp [lk]; omega))) idH
 obtain rfl : k = b.bins.length := by omega
 refine Zb (Zf (Zf (ZB (sqt 2 rfl (pur 2 rfl (Z4 ?_))))))
 exact rtA rfl rfl rfl ⟨rfl, rfl, rfl⟩ (fun w h => h.del b1)
theorem Z65 (u : Nat) (hu : u < 16) (H : Zg) (R : Z6) :
    FnV Tryz.prog 83 [.int .i64 u] H R (.int .i64 ((Z04 4 u).length : Int)) := by
 refine Zy Tryz.func83 rfl Tryz.ntmps83 rfl ?_
 refine sqt 1 rfl (pur 1 rfl (sqt 1 rfl (pur 1 rfl (Z0 (Z3 ?_)))))
 refine Zj (ι := {y : Nat × Nat // y.1 < 16 ∧ y.2 ≤ 4 ∧ y.2 + (Z04 4 y.1).length = (Z04 4 u).length}) (fun y => ⟨[(0, .int .i64 y.1.1), (3, .int .i64 y.1.2)], H, R⟩) (fun y => y.1.1) ⟨(u, 0), hu, by dsimp only; omega, by simp⟩ ?_ (fun y => ?_)
 exact Zr idH
 obtain ⟨⟨v, c⟩, hv, hc4, hce⟩ := y
 dsimp only at hv hc4 hce ⊢
 have hst := ZaK v hv
 have h4 := Zbp u
 refine Z0 (sqt 2 rfl (pur 2 rfl ?_))
 refine Z2 rfl ?_ ?_ <;> intro hc0 <;> try simp only [cS] at hc0
 refine Z1 (Z3 (sqt 5 rfl (pur 2 rfl (sp rfl (PE.rem rfl rfl (by omega)) rfl (sp rfl (PE.add rfl rfl (by omega)) rfl (pur 1 rfl (sqr 3 rfl (pur 1 rfl (sp rfl (PE.quo rfl rfl (by omega)) rfl (pur 1 rfl ?_))))))))))
 exact ZW ⟨(v / 2, c + v % 2), by dsimp only; omega, by dsimp only; omega, by dsimp only; omega⟩ (by dsimp only; omega) (by dsimp only; push_cast; exact (by repeat' first | exact Sub.nil | apply Sub.cons | rfl | (simp [lk]; omega))) idH
 obtain rfl : v = 0 := by omega
 have hz : (Z04 4 0).length = 0 := rfl
 refine Zb (Zf (Zf (ZB (sqt 2 rfl (pur 2 rfl (Z4 ?_))))))
 exact rtA rfl rfl rfl ⟨by rw [show (Z04 4 u).length = c by omega]; rfl, rfl, rfl⟩ idH
theorem Z8d (b : Barn) (ab : Option Addr) (cb : Nat) (hok : b.ok) (s : List Int) (aS : Option Addr) (cs : Nat) (hs : s.length = b.bins.length) (hsm : ∀ k < b.bins.length, 0 ≤ na s k ∧ na s k ≤ 1000000) (u : Nat) (hu : u < 16) (H : Zg) (R : Z6) [hB : MemRows ab 4 (Z7 b.bins) R] [hS : MemRows aS 1 (Zm s) R] :
    Fn Tryz.prog 84 [b.v (b.sl ab cb), .slice aS s.length cs, .int .i64 u] H R (fun v H' R' => H' = H ∧ ((rNx (laL b) s u b.bins.length = none ∧ v = .slice none 0 0 ∧ R' = R) ∨ ∃ (t : List Int) (bo c : Nat), rNx (laL b) s u b.bins.length = some t ∧ v = .slice (some ⟨bo, 0, none⟩) t.length c ∧ R' = Z5 (some ⟨bo, 0, none⟩) 1 (Zm t) :: R)) := by
 have hmn := hok.many
 refine Zy Tryz.func84 rfl Tryz.ntmps84 rfl ?_
 refine sqt 2 rfl (bx rfl rfl rfl (fun b3 => pur 1 rfl (sqt 1 rfl (pur 1 rfl (Z0 (sqt 1 rfl (pur 1 rfl (Z3 ?_))))))))
 refine Zj (ι := (y : {y : Nat × List Int // y.1 ≤ b.bins.length ∧ rNx (laL b) s u y.1 = some y.2}) × OSl 3 1 (Zm y.1.2)) (fun y => ⟨[(1, .slice aS s.length cs), (2, .int .i64 ((u / 2 ^ y.1.1.1 : Nat) : Int)), (3, .pointer (some ⟨b3, 0, none⟩)), (7, y.2.fs), (8, .int .i64 y.1.1.1)], y.2.G ++ (b3, cel 84 (btl b (b.sl ab cb))) :: H, R⟩) (fun y => b.bins.length - y.1.1.1) ⟨⟨(0, []), Nat.zero_le _, rfl⟩, OSl.nil _ _⟩ ?_ (fun y => ?_)
 exact Zew (by dsimp only; rw [Nat.pow_zero, Nat.div_one]; exact (by repeat' first | exact Sub.nil | apply Sub.cons | rfl | (simp [lk]; omega))) idH
 obtain ⟨⟨⟨k, t⟩, hk, ht⟩, o⟩ := y
 dsimp only at hk ht o ⊢
 have htl := Z33 ht
 have hdu : u / 2 ^ k < 16 := Nat.lt_of_le_of_lt (Nat.div_le_self _ _) hu
 generalize hv : u / 2 ^ k = v at hdu ⊢
 refine Z0 (sqt 4 rfl (pur 2 rfl (sp rfl (PE.lenSl Z0n rfl) rfl (pur 1 rfl ?_))))
 refine Z2 rfl ?_ ?_ <;> intro hc0 <;> try simp only [cS] at hc0
 obtain ⟨x, hx⟩ : ∃ x, b.bins[k]? = some x := ⟨_, List.getElem?_eq_getElem (by omega)⟩
 have hm := List.mem_of_getElem? hx
 have hh := hok.bins x hm
 have hsk := hsm k (by omega)
 have r2 := b.days_range hok hm hok.cool.1
 have hlk := Zg4 hx
 have hsg : s[k]? = some (na s k) := Z0f (by omega)
 refine Zl (a := aS) (sz := 1) (rows := Zm s) (ne0 (by rw [Zd]; omega)) (fun bs os he => ?_)
 subst he
 refine Z1 (Z0 (Z3 (sqt 5 rfl (pur 2 rfl (sp rfl (PE.indexAddr Z28 rfl rfl (by omega) (by omega)) rfl (spL rfl rfl (lf0 sc3 (Z0v hsg) rfl) rfl (pur 1 rfl (Z0 (sqt 3 rfl (pur 1 rfl (sp rfl (PE.rem rfl rfl (by omega)) rfl (pur 1 rfl ?_))))))))))))
 refine Z2 rfl ?_ ?_ <;> intro hc1 <;> try simp only [cS] at hc1
 have hmd : Z1B (laL b) s u k = max (na s k) (b.days x b.cool) := by rw [ZbW (by rw [hv]; omega), hlk]
 refine sqr 6 rfl (pur 1 rfl (spL rfl rfl (lhA (btl b (b.sl ab cb)) Z1n rfl rfl rfl) rfl (pur 1 rfl ?_)))
 refine clV rfl ZeR rfl rfl (Z6r b ab cb hok k x hx _ _) ?_
 refine sp rfl (PE.max rfl rfl) rfl (pur 1 rfl (sqt 3 rfl ?_))
 rw [← hmd]
 have hmr : 0 ≤ Z1B (laL b) s u k ∧ Z1B (laL b) s u k ≤ 1000000 := by omega
 clear hmd
 refine pur 1 rfl (sp rfl (PE.quo rfl rfl (by omega)) rfl (pur 1 rfl (Z0 (sqt 2 rfl (pur 2 rfl ?_)))))
 refine Z2 rfl ?_ ?_ <;> intro hc2 <;> try simp only [cS] at hc2
 have hnm : Z2n (Z1B (laL b) s u k) = Z1B (laL b) s u k - 1 := by unfold Z2n; rw [dF hc2]; rfl
 refine sqr 3 rfl (pur 1 rfl (sp rfl (PE.sub rfl rfl (by omega)) rfl (pur 1 rfl (Z0 (sqt 2 rfl ?_)))))
 rw [← hnm]
 have hnr : -1 ≤ Z2n (Z1B (laL b) s u k) ∧ Z2n (Z1B (laL b) s u k) ≤ 1000000 := by omega
 clear hnm
 refine pur 2 rfl ?_
 refine Z2 rfl ?_ ?_ <;> intro hc3 <;> try simp only [cS] at hc3
 refine sqt 1 rfl (pur 1 rfl (Z4 ?_))
 exact rtA rfl rfl rfl ⟨rfl, .inl ⟨Z5V (by omega) ht hc3, rfl, rfl⟩⟩ (fun w h => (St.drop h).del b3)
 have htn := Z4j ht (Int.not_lt.2 hc3)
 refine Z1 (sqr 5 rfl (pur 2 rfl ?_))
 refine bsl (out := [_]) rfl Z1u zl3 rfl rfl rfl rfl rfl rfl (fun b38 => ?_)
 refine apO (o) rfl Z7F rfl rfl (Z0W (row := [.int .i64 (Z2n (Z1B (laL b) s u k))]) rfl) rfl rfl ((by rw [Zd]; simp only [List.length_singleton]; omega)) rfl (fun o39 => ?_)
 refine pur 1 rfl (sqr 3 rfl (pur 1 rfl (sp rfl (PE.add rfl rfl (by omega)) rfl (pur 1 rfl ?_))))
 exact ZW ⟨⟨(k + 1, t ++ [Z2n (Z1B (laL b) s u k)]), by dsimp only; omega, htn⟩, o39.cast (by simp [Zm])⟩ (by dsimp only; omega) (by dsimp only; rw [show u / 2 ^ (k + 1) = v / 2 by rw [Nat.pow_succ, ← Nat.div_div_eq_div_mul, hv]]; exact (by repeat' first | exact Sub.nil | apply Sub.cons | rfl | (simp [lk]; omega))) (fun w h => h.del b38)
 have hnm : Z2n (Z1B (laL b) s u k) = Z1B (laL b) s u k := by unfold Z2n; rw [dT (show Z1B (laL b) s u k = 1000000 by omega)]; rfl
 refine Z1 (Z0 (sqt 2 rfl ?_))
 rw [← hnm]
 have hnr : -1 ≤ Z2n (Z1B (laL b) s u k) ∧ Z2n (Z1B (laL b) s u k) ≤ 1000000 := by omega
 clear hnm
 refine pur 2 rfl ?_
 refine Z2 rfl ?_ ?_ <;> intro hc3 <;> try simp only [cS] at hc3
 refine sqt 1 rfl (pur 1 rfl (Z4 ?_))
 exact rtA rfl rfl rfl ⟨rfl, .inl ⟨Z5V (by omega) ht hc3, rfl, rfl⟩⟩ (fun w h => (St.drop h).del b3)
 have htn := Z4j ht (Int.not_lt.2 hc3)
 refine Z1 (sqr 5 rfl (pur 2 rfl ?_))
 refine bsl (out := [_]) rfl Z1u zl3 rfl rfl rfl rfl rfl rfl (fun b38 => ?_)
 refine apO (o) rfl Z7F rfl rfl (Z0W (row := [.int .i64 (Z2n (Z1B (laL b) s u k))]) rfl) rfl rfl ((by rw [Zd]; simp only [List.length_singleton]; omega)) rfl (fun o39 => ?_)
 refine pur 1 rfl (sqr 3 rfl (pur 1 rfl (sp rfl (PE.add rfl rfl (by omega)) rfl (pur 1 rfl ?_))))
 exact ZW ⟨⟨(k + 1, t ++ [Z2n (Z1B (laL b) s u k)]), by dsimp only; omega, htn⟩, o39.cast (by simp [Zm])⟩ (by dsimp only; omega) (by dsimp only; rw [show u / 2 ^ (k + 1) = v / 2 by rw [Nat.pow_succ, ← Nat.div_div_eq_div_mul, hv]]; exact (by repeat' first | exact Sub.nil | apply Sub.cons | rfl | (simp [lk]; omega))) (fun w h => h.del b38)
 have hmd : Z1B (laL b) s u k = na s k := Ze3 (by rw [hv]; omega)
 refine Z1 (sqt 3 rfl ?_)
 rw [← hmd]
 have hmr : 0 ≤ Z1B (laL b) s u k ∧ Z1B (laL b) s u k ≤ 1000000 := by omega
 clear hmd
 refine pur 1 rfl (sp rfl (PE.quo rfl rfl (by omega)) rfl (pur 1 rfl (Z0 (sqt 2 rfl (pur 2 rfl ?_)))))
 refine Z2 rfl ?_ ?_ <;> intro hc2 <;> try simp only [cS] at hc2
 have hnm : Z2n (Z1B (laL b) s u k) = Z1B (laL b) s u k - 1 := by unfold Z2n; rw [dF hc2]; rfl
 refine sqr 3 rfl (pur 1 rfl (sp rfl (PE.sub rfl rfl (by omega)) rfl (pur 1 rfl (Z0 (sqt 2 rfl ?_)))))
 rw [← hnm]
 have hnr : -1 ≤ Z2n (Z1B (laL b) s u k) ∧ Z2n (Z1B (laL b) s u k) ≤ 1000000 := by omega
 clear hnm
 refine pur 2 rfl ?_
 refine Z2 rfl ?_ ?_ <;> intro hc3 <;> try simp only [cS] at hc3
 refine sqt 1 rfl (pur 1 rfl (Z4 ?_))
 exact rtA rfl rfl rfl ⟨rfl, .inl ⟨Z5V (by omega) ht hc3, rfl, rfl⟩⟩ (fun w h => (St.drop h).del b3)
 have htn := Z4j ht (Int.not_lt.2 hc3)
 refine Z1 (sqr 5 rfl (pur 2 rfl ?_))
 refine bsl (out := [_]) rfl Z1u zl3 rfl rfl rfl rfl rfl rfl (fun b38 => ?_)
 refine apO (o) rfl Z7F rfl rfl (Z0W (row := [.int .i64 (Z2n (Z1B (laL b) s u k))]) rfl) rfl rfl ((by rw [Zd]; simp only [List.length_singleton]; omega)) rfl (fun o39 => ?_)
 refine pur 1 rfl (sqr 3 rfl (pur 1 rfl (sp rfl (PE.add rfl rfl (by omega)) rfl (pur 1 rfl ?_))))
 exact ZW ⟨⟨(k + 1, t ++ [Z2n (Z1B (laL b) s u k)]), by dsimp only; omega, htn⟩, o39.cast (by simp [Zm])⟩ (by dsimp only; omega) (by dsimp only; rw [show u / 2 ^ (k + 1) = v / 2 by rw [Nat.pow_succ, ← Nat.div_div_eq_div_mul, hv]]; exact (by repeat' first | exact Sub.nil | apply Sub.cons | rfl | (simp [lk]; omega))) (fun w h => h.del b38)
 have hnm : Z2n (Z1B (laL b) s u k) = Z1B (laL b) s u k := by unfold Z2n; rw [dT (show Z1B (laL b) s u k = 1000000 by omega)]; rfl
 refine Z1 (Z0 (sqt 2 rfl ?_))
 rw [← hnm]
 have hnr : -1 ≤ Z2n (Z1B (laL b) s u k) ∧ Z2n (Z1B (laL b) s u k) ≤ 1000000 := by omega
 clear hnm
 refine pur 2 rfl ?_
 refine Z2 rfl ?_ ?_ <;> intro hc3 <;> try simp only [cS] at hc3
 refine sqt 1 rfl (pur 1 rfl (Z4 ?_))
 exact rtA rfl rfl rfl ⟨rfl, .inl ⟨Z5V (by omega) ht hc3, rfl, rfl⟩⟩ (fun w h => (St.drop h).del b3)
 have htn := Z4j ht (Int.not_lt.2 hc3)
 refine Z1 (sqr 5 rfl (pur 2 rfl ?_))
 refine bsl (out := [_]) rfl Z1u zl3 rfl rfl rfl rfl rfl rfl (fun b38 => ?_)
 refine apO (o) rfl Z7F rfl rfl (Z0W (row := [.int .i64 (Z2n (Z1B (laL b) s u k))]) rfl) rfl rfl ((by rw [Zd]; simp only [List.length_singleton]; omega)) rfl (fun o39 => ?_)
 refine pur 1 rfl (sqr 3 rfl (pur 1 rfl (sp rfl (PE.add rfl rfl (by omega)) rfl (pur 1 rfl ?_))))
 exact ZW ⟨⟨(k + 1, t ++ [Z2n (Z1B (laL b) s u k)]), by dsimp only; omega, htn⟩, o39.cast (by simp [Zm])⟩ (by dsimp only; omega) (by dsimp only; rw [show u / 2 ^ (k + 1) = v / 2 by rw [Nat.pow_succ, ← Nat.div_div_eq_div_mul, hv]]; exact (by repeat' first | exact Sub.nil | apply Sub.cons | rfl | (simp [lk]; omega))) (fun w h => h.del b38)
 obtain rfl : k = b.bins.length := by omega
 obtain ⟨bo, cap, junk, hfs, hGG, hjk, hcap, hmx⟩ := o.is.resolve_left (fun h => by have := congrArg List.length h.1; rw [Zd] at this; simp only [List.length_nil] at this; omega)
 rw [Zd] at hfs hjk hcap
 rw [hfs]
 refine Sy.heap (H' := (b3, cel 84 (btl b (b.sl ab cb))) :: H) (fun w h => St.blkRows (Z3r t) (by rw [hGG] at h; exact h)) ?_
 refine Zb (Zf (Zf (ZB (sqt 2 rfl (pur 2 rfl (Z4 ?_))))))
 exact rtA rfl rfl rfl ⟨rfl, .inr ⟨t, bo, cap, ht, rfl, rfl⟩⟩ (fun w h => h.del b3)
theorem Z8O (pl : List PL) (ap : Option Addr) (cp : Nat) (hpl : pl.length ≤ 9223372036854775807) (s : List Int) (aS : Option Addr) (cs : Nat) (hsl : s.length ≤ 9223372036854775807) (hall : ∀ x ∈ pl, x.l.length = s.length) (H : Zg) (R : Z6) [hP : MemRows ap 1 (Z9 pl) R] [hI : MemF (Inn pl) R] [hS : MemRows aS 1 (Zm s) R] :
    FnV Tryz.prog 85 [.slice ap pl.length cp, .slice aS s.length cs] H R (.int .i64 (Zab (lls pl) s)) := by
 refine Zy Tryz.func85 rfl Tryz.ntmps85 rfl ?_
 refine sqt 1 rfl (pur 1 rfl (Z0 (sqt 1 rfl (pur 1 rfl (Z3 ?_)))))
 refine Zj (ι := {k : Nat // k ≤ pl.length ∧ ∀ y ∈ (lls pl).take k, y ≠ s}) (fun k => ⟨[(0, .slice ap pl.length cp), (1, .slice aS s.length cs), (5, .int .i64 k.1)], H, R⟩) (fun k => pl.length - k.1) ⟨0, Nat.zero_le _, by simp⟩ ?_ (fun k => ?_)
 exact Zr idH
 obtain ⟨k, hk, hin⟩ := k
 dsimp only at hk hin ⊢
 refine Z0 (sqt 4 rfl (pur 2 rfl (sp rfl (PE.lenSl Z0E rfl) rfl (pur 1 rfl ?_))))
 refine Z2 rfl ?_ ?_ <;> intro hc0 <;> try simp only [cS] at hc0
 obtain ⟨x, hx⟩ : ∃ x, pl[k]? = some x := ⟨_, List.getElem?_eq_getElem (by omega)⟩
 have hxm := List.mem_of_getElem? hx
 have hxl := hall x hxm
 refine Zl (a := ap) (sz := 1) (rows := Z9 pl) (ne0 (by rw [Zt]; omega)) (fun ba oa he => ?_)
 subst he
 refine Sy.heap (fun w h => St.inn (x := x) h hxm) ?_
 refine Z1 (Z0 (Z3 (sqt 1 rfl (pur 1 rfl (Z0 (sqt 1 rfl (pur 1 rfl (Z3 ?_))))))))
 refine Zj (ι := {i : Nat // i ≤ s.length}) (fun i => ⟨[(0, .slice (some ⟨ba, oa, none⟩) pl.length cp), (1, .slice aS s.length cs), (5, .int .i64 k), (6, .bool (decide (x.l.take i.1 = s.take i.1))), (7, .int .i64 i.1)], H, Z5 x.a 1 (Zm x.l) :: R⟩) (fun i => s.length - i.1) ⟨0, Nat.zero_le _⟩ ?_ (fun i => ?_)
 exact Zr idH
 obtain ⟨i, hi⟩ := i
 dsimp only at hi ⊢
 refine Z0 (sqt 4 rfl (pur 2 rfl (sp rfl (PE.lenSl Z0n rfl) rfl (pur 1 rfl ?_))))
 refine Z2 rfl ?_ ?_ <;> intro hc1 <;> try simp only [cS] at hc1
 obtain ⟨u, hu⟩ : ∃ u, x.l[i]? = some u := ⟨_, List.getElem?_eq_getElem (by omega)⟩
 obtain ⟨v, hv⟩ : ∃ v, s[i]? = some v := ⟨_, List.getElem?_eq_getElem (by omega)⟩
 have htk := ZcL hu hv
 refine Zl (a := x.a) (sz := 1) (rows := Zm x.l) (ne0 (by rw [Zd]; omega)) (fun bx ox he => ?_)
 rw [he]
 refine Zl (a := aS) (sz := 1) (rows := Zm s) (ne0 (by rw [Zd]; omega)) (fun bs os he2 => ?_)
 subst he2
 refine Z1 (Z0 (Z3 ?_))
 refine Zi [0, 1, 3, 3, 15, 31, 3, 127, 255, 3, 3, 1539, 3587, 8191, 16383, 32767] (tks 0 5 (.ld 5 (.tk 6 (.tk 7 (.ld 8 (tks 9 3 (.ld 12 (tks 13 3 .done)))))))) ZH (by kernel_rfl) ?_
 refine Zp 2 rfl ?_
 refine Zh 21 rfl ?_ ?_ <;> intro g21
 try simp only [cS] at g21
 rw [decide_eq_true g21, Bool.true_and] at htk
 refine Zp 2 rfl ?_
 refine tkG rfl rfl rfl rfl (PE.indexAddr Z4l rfl rfl (by omega) (by omega)) rfl ?_
 refine ldG rfl rfl rfl rfl rfl (lf0 (row := [.slice (some ⟨bx, ox, none⟩) x.l.length x.c]) Z2g (by refine (Z14 hx).trans ?_; unfold Z4L; rw [he]) rfl) rfl ?_
 refine Zp 1 rfl ?_
 refine tkG rfl rfl rfl rfl (PE.indexAddr Z28 rfl rfl (by omega) (by omega)) rfl ?_
 refine ldG rfl rfl rfl rfl rfl (lf0 sc3 (Z0v hu) rfl) rfl (Zp 2 rfl ?_)
 refine tkG rfl rfl rfl rfl (PE.indexAddr Z28 rfl rfl (by omega) (by omega)) rfl ?_
 refine ldG rfl rfl rfl rfl rfl (lf0 sc3 (Z0v hv) rfl) rfl (Zp 3 rfl (sqr 3 rfl (pur 1 rfl (sp rfl (PE.add rfl rfl (by omega)) rfl (pur 1 rfl ?_)))))
 exact ZW ⟨i + 1, by omega⟩ (by dsimp only; omega) (by dsimp only; rw [htk]; exact (by repeat' first | exact Sub.nil | apply Sub.cons | rfl | (simp [lk]; omega))) idH
 try simp only [cS] at g21
 rw [decide_eq_false g21, Bool.false_and] at htk
 refine Zp 3 rfl ?_
 refine ldN rfl rfl rfl rfl rfl rfl rfl rfl ?_
 refine Zp 2 rfl ?_
 refine ldN rfl rfl rfl rfl rfl rfl rfl rfl ?_
 refine Zp 3 rfl ?_
 refine ldN rfl rfl rfl rfl rfl rfl rfl rfl ?_
 refine Zp 3 rfl (sqr 3 rfl (pur 1 rfl (sp rfl (PE.add rfl rfl (by omega)) rfl (pur 1 rfl ?_))))
 exact ZW ⟨i + 1, by omega⟩ (by dsimp only; omega) (by dsimp only; rw [htk]; exact (by repeat' first | exact Sub.nil | apply Sub.cons | rfl | (simp [lk]; omega))) idH
 obtain rfl : i = s.length := by omega
 rw [List.take_length, List.take_of_length_le (by omega)]
 refine Zb (Zf (Zf (ZB (sqt 1 rfl (pur 1 rfl ?_)))))
 refine Z2 rfl ?_ ?_ <;> intro hc2 <;> try simp only [cS] at hc2
 have hans : Zab (lls pl) s = k := ZfJ hin (Z0a hx) hc2
 refine sqt 2 rfl (pur 2 rfl (Z4 ?_))
 exact rtA rfl rfl rfl ⟨by rw [hans]; rfl, rfl, rfl⟩ drp
 refine Z1 (sqr 3 rfl (pur 1 rfl (sp rfl (PE.add rfl rfl (by omega)) rfl (pur 1 rfl ?_))))
 exact ZW ⟨k + 1, by omega, fun y hy => by
   rw [ZK (Z0a hx), List.mem_append, List.mem_singleton] at hy
   rcases hy with hy | rfl
   · exact hin y hy
   · exact hc2⟩ (by dsimp only; omega) (by repeat' first | exact Sub.nil | apply Sub.cons | rfl | (simp [lk]; omega)) (fun w h => h.ftail)
 obtain rfl : k = pl.length := by omega
 have hans : Zab (lls pl) s = -1 := Zfj (fun y hy => hin y (by rw [List.take_of_length_le (by rw [Zo]; exact Nat.le_refl _)]; exact hy))
 refine Zb (Zf (Zf (ZB (sqt 1 rfl (pur 1 rfl (Z4 ?_))))))
 exact rtA rfl rfl rfl ⟨by rw [hans]; rfl, rfl, rfl⟩ drp
theorem Zfh : cal Tryz.prog 78 = true := by kernel_rfl
theorem ZdT : cal Tryz.prog 81 = true := by kernel_rfl
theorem ZeO : cal Tryz.prog 82 = true := by kernel_rfl
theorem Zc0 : cal Tryz.prog 83 = true := by kernel_rfl
theorem ZeE : cal Tryz.prog 84 = true := by kernel_rfl
theorem Zfb : cal Tryz.prog 85 = true := by kernel_rfl
theorem FnV.lendO {P : Program} {f : FuncId} {v : Value} {e sz : Nat} {rows : List (List Value)} (o : OSl e sz rows) (mk : Value → List Value) {T : Zg} {R : Z6}
    (h : ∀ (a : Option Addr) (c : Nat) (B : World → Prop), FnV P f (mk (.slice a rows.length c)) T (Z5 a sz rows :: B :: R) v) : FnV P f (mk o.fs) (o.G ++ T) R v := fun w hw => by
  obtain ⟨fs, G, hl, his⟩ := o
  rcases his with ⟨rfl, rfl, rfl⟩ | ⟨b, cap, junk, rfl, rfl, h1, h2, h3⟩
  · have h3 : St T (Z5 none sz [] :: (fun _ => True) :: R) w := St.also (St.also hw (f := fun _ => True) (fun _ _ => trivial)) (fun w' _ i row hi => by simp at hi)
    refine CallsIn.mono (h none 0 _ w h3) ?_
    rintro e' w' ⟨u, H', R', ⟨rfl, rfl, rfl⟩, he, hs'⟩
    exact ⟨_, _, R, ⟨rfl, rfl, rfl⟩, he, hs'.ftail.ftail⟩
  · exact FnV.lend (H := (b, cel e (rows.flatten ++ junk)) :: T) (b := b) (e := e) (sz := sz) (rows := rows) (junk := junk) hl (fun B => h _ cap B) w hw
theorem Z1v (l : List PL) (x : PL) : lls (l ++ [x]) = lls l ++ [x.l] := by simp [lls]
theorem ZeK {n : Nat} {g : Int} {la s : List Int} {u : Nat} (h : g < ((Z04 4 u).length : Int)) : rS n g la s u = none := by unfold rS; rw [decide_eq_false (by omega)]; rfl
theorem Zb5 {n : Nat} {g : Int} {la s : List Int} {u : Nat} (h : ¬ g < ((Z04 4 u).length : Int)) : rS n g la s u = rNx la s u n := by unfold rS; rw [decide_eq_true (by omega)]; rfl
def Z5W (b : Barn) (m : Int) : Bool := decide (8 < b.bins.length) || (decide (b.check = 0) && decide (m < (b.dsk.nst : Int)))
theorem Z2J (b : Barn) (ab : Option Addr) (cb : Nat) (hok : b.ok) (H : Zg) (R : Z6) [hB : MemRows ab 4 (Z7 b.bins) R] :
    Fn Tryz.prog 33 [b.v (b.sl ab cb)] H R (fun v H' R' => (∃ m, Kpt b.dsk b.state m ∧ v = .int .i64 m) ∧ H' = H ∧ R' = R) := by
 have hmn := hok.many
 have hdk := b.dsk_ok hok
 have hst := b.state_inS hok
 have hp16 := Z4h hmn.2
 have hn14 := (b.dsk.nst_le hdk).2
 refine Zy Tryz.func33 rfl Tryz.ntmps33 rfl ?_
 refine sqt 2 rfl (bx rfl rfl rfl (fun b1 => pur 1 rfl (sqt 4 rfl (spL rfl rfl (lhA (btl b (b.sl ab cb)) Z1n rfl rfl rfl) rfl ?_))))
 refine cl rfl ZdT rfl rfl (Z6F b ab cb hok _ _) ?_
 rintro _ _ R1 ⟨ax, cx, rfl, rfl, hR1⟩
 obtain rfl := hR1.symm
 clear hR1
 refine bsl (out := [_]) rfl Z6I Z1K rfl rfl rfl rfl rfl rfl (fun b11 => ?_)
 refine pur 1 rfl (Z0 (sqt 1 rfl ?_))
 refine Sy.heap (H' := (b11, cel 22 ((Z9 [⟨ax, cx, bgL b⟩]).flatten ++ [])) :: (b1, cel 84 (btl b (b.sl ab cb))) :: H) (fun w h => by
   have e : (Z9 [⟨ax, cx, bgL b⟩]).flatten ++ [] = [.slice ax b.bins.length cx] := by show [Value.slice ax (bgL b).length cx] = _; rw [Z2t]
   rw [e]; exact h) ?_
 refine Sy.heap (fun w h => St.inn0 h) ?_
 refine Sy.heap (fun w h => St.innCons (a := ax) (c := cx) (l0 := bgL b) (l := []) h) ?_
 refine Sy.heap (fun w h => St.blkRows (Z0Z [⟨ax, cx, bgL b⟩]) h) ?_
 refine pur 1 rfl (Z3 ?_)
 refine Zj (ι := {y : Nat × List PL × Option Addr × Nat // y.1 ≤ b.dsk.nst + 1 ∧ Lv b.dsk b.state y.1 (lls y.2.1) ∧ lls y.2.1 ≠ [] ∧ y.2.1.length ≤ 14641}) (fun y => ⟨[(1, .pointer (some ⟨b1, 0, none⟩)), (3, .slice y.1.2.2.1 y.1.2.1.length y.1.2.2.2), (4, .int .i64 y.1.1)], (b1, cel 84 (btl b (b.sl ab cb))) :: H, Z5 y.1.2.2.1 1 (Z9 y.1.2.1) :: Inn y.1.2.1 :: R⟩) (fun y => b.dsk.nst + 1 - y.1.1) ⟨(0, [⟨ax, cx, bgL b⟩], some ⟨b11, 0, none⟩, 1), Nat.zero_le _, Lv.start (Z2t b), by simp [lls], by simp⟩ ?_ (fun y => ?_)
 exact Zr (fun w h => h.facts SubF.sub)
 obtain ⟨⟨day, nl, an, cn⟩, hday, hlv, hne, hnl⟩ := y
 dsimp only at hday hlv hne hnl ⊢
 refine Z0 (sqt 4 rfl (pur 1 rfl (spL rfl rfl (lhA (btl b (b.sl ab cb)) Z1n rfl rfl rfl) rfl ?_)))
 refine clV rfl Zfh rfl rfl (ZaU b ab cb hok _ _) ?_
 refine pur 1 rfl ?_
 refine Z2 rfl ?_ ?_ <;> intro hc0 <;> try simp only [cS] at hc0
 refine Z1 (Z0 (Z3 (sqt 1 rfl (pur 1 rfl (Z0 (sqt 1 rfl (pur 1 rfl (Z3 ?_))))))))
 refine Zj (ι := (y : {y : Nat × List PL // y.1 ≤ nl.length ∧ Bf b.dsk.n b.dsk.gangs (laL b) (lls nl) y.1 0 (lls y.2)}) × OSl 22 1 (Z9 y.1.2)) (fun y => ⟨[(1, .pointer (some ⟨b1, 0, none⟩)), (3, .slice an nl.length cn), (4, .int .i64 day), (5, y.2.fs), (6, .int .i64 y.1.1.1)], y.2.G ++ (b1, cel 84 (btl b (b.sl ab cb))) :: H, Inn y.1.1.2 :: Z5 an 1 (Z9 nl) :: Inn nl :: R⟩) (fun y => nl.length - y.1.1.1) ⟨⟨(0, []), Nat.zero_le _, Bf.start⟩, OSl.nil _ _⟩ ?_ (fun y => ?_)
 exact Zr (fun w h => St.inn0 h)
 obtain ⟨⟨⟨i, q⟩, hi, hbf⟩, o⟩ := y
 dsimp only at hi hbf o ⊢
 refine Z0 (sqt 4 rfl (pur 2 rfl (sp rfl (PE.lenSl Z0E rfl) rfl (pur 1 rfl ?_))))
 refine Z2 rfl ?_ ?_ <;> intro hc1 <;> try simp only [cS] at hc1
 obtain ⟨x, hx⟩ : ∃ x, nl[i]? = some x := ⟨_, List.getElem?_eq_getElem (by omega)⟩
 have hxm := List.mem_of_getElem? hx
 have hxl : x.l.length = b.bins.length := hlv.len x.l (List.mem_map.2 ⟨x, hxm, rfl⟩)
 have hxs := hlv.inS hdk hst (List.mem_map.2 ⟨x, hxm, rfl⟩)
 have hxn : ∀ k < b.bins.length, 0 ≤ na x.l k ∧ na x.l k ≤ 1000000 := fun k hk => by have := (b.dsk.inS_sml hdk hxs).at_ k (by omega); rwa [Z13] at this
 refine Zl (a := an) (sz := 1) (rows := Z9 nl) (ne0 (by rw [Zt]; omega)) (fun ba oa he => ?_)
 subst he
 refine Sy.heap (fun w h => St.inn (x := x) h hxm) ?_
 refine Z1 (Z0 (Z3 (sqt 1 rfl (pur 1 rfl (Z3 ?_)))))
 refine Zj (ι := (y : {y : Nat × List PL // y.1 ≤ 2 ^ b.bins.length ∧ Bf b.dsk.n b.dsk.gangs (laL b) (lls nl) i y.1 (lls y.2)}) × OSl 22 1 (Z9 y.1.2)) (fun y => ⟨[(1, .pointer (some ⟨b1, 0, none⟩)), (3, .slice (some ⟨ba, oa, none⟩) nl.length cn), (4, .int .i64 day), (5, y.2.fs), (6, .int .i64 i), (7, .int .i64 y.1.1.1)], y.2.G ++ (b1, cel 84 (btl b (b.sl ab cb))) :: H, Inn y.1.1.2 :: Z5 x.a 1 (Zm x.l) :: Z5 (some ⟨ba, oa, none⟩) 1 (Z9 nl) :: Inn nl :: R⟩) (fun y => 2 ^ b.bins.length - y.1.1.1) ⟨⟨(0, q), Nat.zero_le _, hbf⟩, o⟩ ?_ (fun y => ?_)
 exact Zr (fun w h => h.facts SubF.sub)
 obtain ⟨⟨⟨u, q2⟩, hu, hbf2⟩, o2⟩ := y
 dsimp only at hu hbf2 o2 ⊢
 have hfew := hbf2.few hdk hst (Z1C b) hlv
 rw [Zo] at hfew
 refine Z0 (sqt 4 rfl (pur 1 rfl (spL rfl rfl (lhA (btl b (b.sl ab cb)) Z1n rfl rfl rfl) rfl ?_)))
 refine clV rfl ZeO rfl rfl (Z83 b ab cb hmn.2 _ _) ?_
 refine pur 1 rfl ?_
 refine Z2 rfl ?_ ?_ <;> intro hc2 <;> try simp only [cS] at hc2
 have hu16 : u < 16 := by omega
 refine Z1 (Z0 (Z3 (Z0 (Z0 ?_))))
 refine Zi [0, 1, 0, 4, 15] (.tk 0 (.tk 2 (.ld 3 (.big 1 (.tk 4 .done))))) ZH (by kernel_rfl) ?_
 refine Zp 1 rfl (tk rfl (PE.fA Z2m rfl) rfl (ld rfl rfl (lh sc3 rfl rfl) rfl ?_))
 refine clV rfl Zc0 rfl rfl (Z65 u hu16 _ _) ?_
 refine bg (fun w hs => ⟨(lh sc3 rfl rfl) w hs, trivial⟩) ?_
 refine Zp 1 rfl ?_
 refine Z2 rfl ?_ ?_ <;> intro hc3 <;> try simp only [cS] at hc3
 have hsk := hbf2.skip (Z0a hx) (by show u < 2 ^ b.bins.length; omega) (fun t ht => by rw [ZeK (show b.dsk.gangs < _ from hc3)] at ht; cases ht)
 refine Zb (Zf (ZB (sqr 3 rfl (pur 1 rfl (sp rfl (PE.add rfl rfl (by omega)) rfl (pur 1 rfl ?_))))))
 first
   | exact Ze ⟨⟨(u + 1, q2 ++ [⟨some ⟨bo, 0, none⟩, c, t⟩]), by dsimp only; omega, by rw [Z1v]; exact hadd⟩, o53.cast (by rw [Z0t]; rfl)⟩ (by dsimp only; omega) (fun w h => (St.innSnoc (a := some ⟨bo, 0, none⟩) (c := c) (l0 := t) (l := q2) (h.del b52)).facts SubF.sub)
   | exact Ze ⟨⟨(u + 1, q2), by dsimp only; omega, hsk⟩, o2⟩ (by dsimp only; omega) (fun w h => h.facts SubF.sub)
 have hrs : rS b.dsk.n b.dsk.gangs (laL b) x.l u = rNx (laL b) x.l u b.bins.length := Zb5 (show ¬ b.gangs < _ by omega)
 refine Z1 (Z0 ?_)
 refine Zi [0, 0, 0, 6, 14, 0, 63, 127] (.ld 0 (tks 1 3 (.ld 4 (.tk 5 (.big 6 (.tk 7 .done)))))) ZH (by kernel_rfl) ?_
 refine ld rfl rfl (lhA (btl b (b.sl ab cb)) Z1n rfl rfl rfl) rfl (Zp 2 rfl (tk rfl (PE.indexAddr Z4l rfl rfl (by omega) (by omega)) rfl (ld rfl rfl (lf0 Z2g (Z14 hx) rfl) rfl (Zp 1 rfl ?_))))
 refine cl rfl ZeE rfl rfl (Z8d b ab cb hok x.l x.a x.c hxl hxn u hu16 _ _) ?_
 rintro _ _ R1 ⟨rfl, (⟨hnx, rfl, hR1⟩ | ⟨t, bo, c, hnx, rfl, hR1⟩)⟩ <;> obtain rfl := hR1.symm <;> clear hR1
 refine bgT (Zp 1 rfl (sqt 8 rfl ?_))
 have hsk := hbf2.skip (Z0a hx) (by show u < 2 ^ b.bins.length; omega) (fun t ht => by rw [hrs, hnx] at ht; cases ht)
 refine pur 1 rfl (sp rfl (PE.neqNil Z0n rfl rfl) rfl (pur 6 rfl ?_))
 refine ZG rfl ?_
 refine Z1 (sqr 3 rfl (pur 1 rfl (sp rfl (PE.add rfl rfl (by omega)) rfl (pur 1 rfl ?_))))
 first
   | exact Ze ⟨⟨(u + 1, q2 ++ [⟨some ⟨bo, 0, none⟩, c, t⟩]), by dsimp only; omega, by rw [Z1v]; exact hadd⟩, o53.cast (by rw [Z0t]; rfl)⟩ (by dsimp only; omega) (fun w h => (St.innSnoc (a := some ⟨bo, 0, none⟩) (c := c) (l0 := t) (l := q2) (h.del b52)).facts SubF.sub)
   | exact Ze ⟨⟨(u + 1, q2), by dsimp only; omega, hsk⟩, o2⟩ (by dsimp only; omega) (fun w h => h.facts SubF.sub)
 refine bgT (Zp 1 rfl (sqt 8 rfl ?_))
 have htl : t.length = b.bins.length := Z33 hnx
 have hall : ∀ y ∈ q2, y.l.length = t.length := fun y hy => by rw [htl]; exact hbf2.len y.l (List.mem_map.2 ⟨y, hy, rfl⟩)
 refine pur 1 rfl (sp rfl (PE.neqNil Z0n rfl rfl) rfl (pur 3 rfl ?_))
 refine Z0K rfl rfl rfl rfl Zfb rfl rfl (FnV.lendO o2 (fun v => [v, .slice (some ⟨bo, 0, none⟩) t.length c]) (fun a5 c5 B => by rw [Zt]; exact Z8O q2 a5 c5 (by omega) t (some ⟨bo, 0, none⟩) c (by omega) hall _ _)) ?_
 refine pur 2 rfl ?_
 refine Z2 rfl ?_ ?_ <;> intro hc4 <;> try simp only [cS] at hc4
 have hadd := hbf2.add (Z0a hx) (by show u < 2 ^ b.bins.length; omega) (hrs.trans hnx) (plc_neg.1 hc4)
 refine sqr 5 rfl (pur 2 rfl ?_)
 refine bsl (out := [_]) rfl Z6I Z1K rfl rfl rfl rfl rfl rfl (fun b52 => ?_)
 refine apO (o2) rfl Z2A rfl rfl (Z0W (row := [.slice (some ⟨bo, 0, none⟩) t.length c]) rfl) rfl rfl ((by rw [Zt]; simp only [List.length_singleton]; omega)) rfl (fun o53 => ?_)
 refine pur 1 rfl (sqr 3 rfl (pur 1 rfl (sp rfl (PE.add rfl rfl (by omega)) rfl (pur 1 rfl ?_))))
 first
   | exact Ze ⟨⟨(u + 1, q2 ++ [⟨some ⟨bo, 0, none⟩, c, t⟩]), by dsimp only; omega, by rw [Z1v]; exact hadd⟩, o53.cast (by rw [Z0t]; rfl)⟩ (by dsimp only; omega) (fun w h => (St.innSnoc (a := some ⟨bo, 0, none⟩) (c := c) (l0 := t) (l := q2) (h.del b52)).facts SubF.sub)
   | exact Ze ⟨⟨(u + 1, q2), by dsimp only; omega, hsk⟩, o2⟩ (by dsimp only; omega) (fun w h => h.facts SubF.sub)
 have hsk := hbf2.skip (Z0a hx) (by show u < 2 ^ b.bins.length; omega) (fun t2 ht2 => by rw [hrs, hnx] at ht2; cases ht2; exact Classical.byContradiction fun h9 => absurd (plc_neg.2 h9) (by omega))
 refine Z1 (sqr 3 rfl (pur 1 rfl (sp rfl (PE.add rfl rfl (by omega)) rfl (pur 1 rfl ?_))))
 first
   | exact Ze ⟨⟨(u + 1, q2 ++ [⟨some ⟨bo, 0, none⟩, c, t⟩]), by dsimp only; omega, by rw [Z1v]; exact hadd⟩, o53.cast (by rw [Z0t]; rfl)⟩ (by dsimp only; omega) (fun w h => (St.innSnoc (a := some ⟨bo, 0, none⟩) (c := c) (l0 := t) (l := q2) (h.del b52)).facts SubF.sub)
   | exact Ze ⟨⟨(u + 1, q2), by dsimp only; omega, hsk⟩, o2⟩ (by dsimp only; omega) (fun w h => h.facts SubF.sub)
 obtain rfl : u = 2 ^ b.bins.length := by omega
 refine Zb (Zf (Zf (ZB (sqr 3 rfl (pur 1 rfl (sp rfl (PE.add rfl rfl (by omega)) rfl (pur 1 rfl ?_)))))))
 exact Zn ⟨⟨(i + 1, q2), by dsimp only; omega, hbf2.next⟩, o2⟩ (fun w h => h.facts SubF.sub)
 obtain rfl : i = nl.length := by omega
 have hfew := hbf.few hdk hst (Z1C b) hlv
 rw [Zo] at hfew
 have hlv2 := hlv.next hdk hst (Z1C b) (by rw [Zo]; exact hbf)
 obtain ⟨a5, c5, he, hf⟩ := o.freeze
 rw [he, Zt]
 refine Sy.heap (fun w h => hf h) ?_
 clear he hf
 refine Zb (Zf (Zf (ZB (Z0 (sqt 3 rfl (pur 1 rfl (sp rfl (PE.lenSl Z0E rfl) rfl (pur 1 rfl ?_))))))))
 refine Z2 rfl ?_ ?_ <;> intro hc5 <;> try simp only [cS] at hc5
 have hq0 : lls q = [] := List.length_eq_zero_iff.1 (by rw [Zo]; omega)
 have hkp := hlv.ends hdk hst (by omega) hne (by rw [← hq0]; exact hlv2)
 refine sqt 2 rfl (pur 2 rfl (Z4 ?_))
 exact rtA rfl rfl rfl ⟨⟨_, hkp, rfl⟩, rfl, rfl⟩ (fun w h => (h.del b1).facts (fun g hg => by simp [hg]))
 refine Z1 (sqr 2 rfl (pur 2 rfl (sqr 3 rfl (pur 1 rfl (sp rfl (PE.add rfl rfl (by omega)) rfl (pur 1 rfl ?_))))))
 exact Zn ⟨(day + 1, q, a5, c5), by dsimp only; omega, hlv2, fun h => by dsimp only at h; have := congrArg List.length h; rw [Zo, List.length_nil] at this; omega, hfew⟩ (fun w h => h.facts SubF.sub)
 have hkp := hlv.ever hdk hst (by omega) hne
 refine Zb (Zf (Zf (ZB (sqt 1 rfl (pur 1 rfl (Z4 ?_))))))
 exact rtA rfl rfl rfl ⟨⟨_, hkp, rfl⟩, rfl, rfl⟩ (fun w h => (h.del b1).facts (fun g hg => by simp [hg]))
theorem Z98 (b : Barn) (ab : Option Addr) (cb : Nat) (m : Int) (hl : b.bins.length ≤ 4398046511104) (hr : b.rise.length = 6) (H : Zg) (R : Z6) [hB : MemRows ab 4 (Z7 b.bins) R] :
    FnV Tryz.prog 27 [b.v (b.sl ab cb), .int .i64 m] H R (.bool (Z5W b m)) := by
 refine Zy Tryz.func27 rfl Tryz.ntmps27 rfl ?_
 refine sqt 2 rfl (bx rfl rfl rfl (fun b2 => pur 1 rfl (sqt 4 rfl (spL rfl rfl (lhA (btl b (b.sl ab cb)) ZD rfl rfl rfl) rfl ?_))))
 refine cl rfl Z8h rfl rfl (Z2c b ab cb (by omega) _ _) ?_
 rintro _ _ R1 ⟨ax, cx, rfl, rfl, hR1⟩
 obtain rfl := hR1.symm
 clear hR1
 refine alc rfl ZbL rfl (fun b5 => ?_)
 refine sto rfl rfl rfl Zd1 rfl rfl rfl rfl ?_
 refine sqt 14 rfl (spL rfl rfl (lhA (btl b (b.sl ab cb)) ZD rfl rfl rfl) rfl ?_)
 refine clV rfl ZdN rfl rfl (Z89 b ab cb (by omega) _ _) ?_
 refine pur 1 rfl ?_
 refine Zh 10 rfl ?_ ?_ <;> intro g10
 refine pur 4 rfl ?_
 repeat refine spU rfl rfl rfl rfl rfl rfl rfl ?_
 refine pur 3 rfl (Z4 ?_)
 exact rtA rfl rfl rfl ⟨by unfold Z5W; first | (rw [g10]; rfl) | (rw [g10, decide_eq_true g14]; rfl) | (rw [g10, decide_eq_false g14]; rfl), rfl, rfl⟩ (fun w h => ((h.del b5).del b2).facts (fun g hg => by simp [hg]))
 refine Z0o rfl rfl rfl rfl rfl (lhA (btl b (b.sl ax cx)) Z1n rfl rfl rfl) rfl ?_
 refine Z0K rfl rfl rfl rfl Z80 rfl rfl (Z27 b ax cx (by omega) hr _ _) ?_
 refine pur 2 rfl ?_
 refine Zh 14 rfl ?_ ?_ <;> intro g14
 try simp only [cS] at g14
 refine Z0o rfl rfl rfl rfl rfl (lhA (btl b (b.sl ax cx)) Z1n rfl rfl rfl) rfl ?_
 refine Z0K rfl rfl rfl rfl Zfh rfl rfl (ZaU b ax cx (Barn.ok_of hr g14) _ _) ?_
 refine pur 5 rfl (Z4 ?_)
 exact rtA rfl rfl rfl ⟨by unfold Z5W; first | (rw [g10]; rfl) | (rw [g10, decide_eq_true g14]; rfl) | (rw [g10, decide_eq_false g14]; rfl), rfl, rfl⟩ (fun w h => ((h.del b5).del b2).facts (fun g hg => by simp [hg]))
 try simp only [cS] at g14
 refine pur 7 rfl (Z4 ?_)
 exact rtA rfl rfl rfl ⟨by unfold Z5W; first | (rw [g10]; rfl) | (rw [g10, decide_eq_true g14]; rfl) | (rw [g10, decide_eq_false g14]; rfl), rfl, rfl⟩ (fun w h => ((h.del b5).del b2).facts (fun g hg => by simp [hg]))
theorem Zcu : cal Tryz.prog 27 = true := by kernel_rfl
theorem Zcl : cal Tryz.prog 33 = true := by kernel_rfl
def SpI (b : Barn) (m : Nat) (s e : Int) : Prop := (e = 6 ∧ s = 0 ∧ ∀ g : Nat, m ≤ g → g ≤ b.bins.length → b.ends g) ∨
  (e = 0 ∧ ∃ g : Nat, s = g ∧ m ≤ g ∧ g ≤ b.bins.length ∧ Kpt (b.withG g).dsk b.state 1000000 ∧ ∀ j : Nat, m ≤ j → j < g → b.ends j)
theorem SpI.start (b : Barn) : SpI b (b.bins.length + 1) 0 6 := .inl ⟨rfl, rfl, fun g h1 h2 => by omega⟩
theorem SpI.yes {b : Barn} {k : Nat} (hk : k ≤ b.bins.length) (h : Kpt (b.withG k).dsk b.state 1000000) : SpI b k k 0 := .inr ⟨rfl, k, rfl, Nat.le_refl _, hk, h, fun j h1 h2 => by omega⟩
theorem SpI.no {b : Barn} {k : Nat} {s e : Int} (h : SpI b (k + 1) s e) (hn : b.ends k) : SpI b k s e := by
  rcases h with ⟨h1, h2, h3⟩ | ⟨h1, g, h2, h3, h4, h5, h6⟩
  · refine .inl ⟨h1, h2, fun g hg hg2 => ?_⟩
    rcases Nat.lt_or_ge k g with h | h
    · exact h3 g h hg2
    · obtain rfl : g = k := by omega
      exact hn
  · refine .inr ⟨h1, g, h2, by omega, h4, h5, fun j hj hj2 => ?_⟩
    rcases Nat.lt_or_ge k j with h | h
    · exact h6 j h hj2
    · obtain rfl : j = k := by omega
      exact hn
theorem Z4o {b : Barn} {g : Nat} (h : b.ends g) : ¬ Kpt (b.withG g).dsk b.state 1000000 := fun h2 => by
  obtain ⟨w, hw, h3⟩ := h
  exact hw (Z08 h3 h2)
theorem SpI.eq {b : Barn} {s e : Int} (h : SpI b 0 s e) (hc : b.check = 0) {v : Value} (hq : Zdr b v) : v = .tuple #[.int .i64 s, .int .i64 e] := by
  rcases hq with ⟨h1, _⟩ | ⟨_, ⟨g, hg, hn, hk, rfl⟩ | ⟨hn, rfl⟩⟩
  · exact absurd hc h1
  · rcases h with ⟨rfl, rfl, h3⟩ | ⟨rfl, g2, rfl, _, h4, h5, h6⟩
    · exact absurd hk (Z4o (h3 g (Nat.zero_le _) hg))
    · rcases Nat.lt_trichotomy g g2 with h7 | h7 | h7
      · exact absurd hk (Z4o (h6 g (Nat.zero_le _) h7))
      · rw [h7]
      · exact absurd h5 (Z4o (hn g2 h7))
  · rcases h with ⟨rfl, rfl, h3⟩ | ⟨rfl, g2, rfl, _, h4, h5, h6⟩
    · rfl
    · exact absurd h5 (Z4o (hn g2 h4))
theorem Fn.toV {P : Program} {f : FuncId} {args : List Value} {v : Value} {H : Zg} {R : Z6} {Q : Value → Prop} (h : Fn P f args H R (fun u H' R' => Q u ∧ H' = H ∧ R' = R)) (hq : ∀ u, Q u → u = v) : FnV P f args H R v := fun w hw => by
  refine CallsIn.mono (h w hw) ?_
  rintro e' w' ⟨u, H', R', ⟨h1, h2, h3⟩, he, hs'⟩
  exact ⟨u, H', R', ⟨hq u h1, h2, h3⟩, he, hs'⟩
theorem Za5 (b : Barn) (ab : Option Addr) (cb : Nat) (hl : b.bins.length ≤ 9223372036854775807) (hr : b.rise.length = 6) (hc : b.check ≠ 0) (H : Zg) (R : Z6) [hB : MemRows ab 4 (Z7 b.bins) R] : FnV Tryz.prog 50 [b.v (b.sl ab cb)] H R (.tuple #[.int .i64 0, .int .i64 b.check]) := (Z3h b ab cb hl hr H R).toV (by rintro u (⟨_, rfl⟩ | ⟨h, _⟩); rfl; exact absurd h hc)
theorem ZcA (b : Barn) (ab : Option Addr) (cb : Nat) (hl : b.bins.length ≤ 9223372036854775807) (hr : b.rise.length = 6) (hc : b.check ≠ 0) (H : Zg) (R : Z6) [hB : MemRows ab 4 (Z7 b.bins) R] : FnV Tryz.prog 52 [b.v (b.sl ab cb)] H R (.tuple #[.int .i64 0, .int .i64 b.check]) := (Z8a b ab cb hl hr H R).toV (by rintro u (⟨_, rfl⟩ | ⟨h, _⟩); rfl; exact absurd h hc)
theorem ZbO (b : Barn) (ab : Option Addr) (cb : Nat) (hl : b.bins.length ≤ 9223372036854775807) (hr : b.rise.length = 6) (hc : b.check ≠ 0) (H : Zg) (R : Z6) [hB : MemRows ab 4 (Z7 b.bins) R] : FnV Tryz.prog 53 [b.v (b.sl ab cb)] H R (.tuple #[.int .i64 0, .int .i64 b.check]) := (Z7H b ab cb hl hr H R).toV (by rintro u (⟨_, rfl⟩ | ⟨h, _⟩); rfl; exact absurd h hc)
theorem Z9H (b : Barn) (ab : Option Addr) (cb : Nat) (hl : b.bins.length ≤ 9223372036854775807) (hr : b.rise.length = 6) (hc : b.check = 0) {m : Int} (hm : Kpt b.dsk b.state m) (H : Zg) (R : Z6) [hB : MemRows ab 4 (Z7 b.bins) R] : FnV Tryz.prog 50 [b.v (b.sl ab cb)] H R (.tuple #[.int .i64 m, .int .i64 0]) := (Z3h b ab cb hl hr H R).toV (by rintro u (⟨h, _⟩ | ⟨_, w, hw, rfl⟩); exact absurd hc h; rw [Z08 hw hm])
theorem Zd3 (b : Barn) (ab : Option Addr) (cb : Nat) (hl : b.bins.length ≤ 9223372036854775807) (hr : b.rise.length = 6) (hc : b.check = 0) {m : Int} (hm : Kpt b.dsk b.state m) (H : Zg) (R : Z6) [hB : MemRows ab 4 (Z7 b.bins) R] : FnV Tryz.prog 52 [b.v (b.sl ab cb)] H R (.tuple #[.int .i64 (bif decide (m = 1000000) then 0 else m), .int .i64 (bif decide (m = 1000000) then 6 else 0)]) := (Z8a b ab cb hl hr H R).toV (by rintro u (⟨h, _⟩ | ⟨_, w, hw, rfl⟩); exact absurd hc h; rw [Z08 hw hm])
theorem Zc5 (b : Barn) (ab : Option Addr) (cb : Nat) (hl : b.bins.length ≤ 9223372036854775807) (hr : b.rise.length = 6) (hc : b.check = 0) {s e : Int} (hs : SpI b 0 s e) (H : Zg) (R : Z6) [hB : MemRows ab 4 (Z7 b.bins) R] : FnV Tryz.prog 53 [b.v (b.sl ab cb)] H R (.tuple #[.int .i64 s, .int .i64 e]) := (Z7H b ab cb hl hr H R).toV (fun u hq => hs.eq hc hq)
theorem Z6k (b : Barn) (ab : Option Addr) (cb : Nat) (hl9 : b.bins.length ≤ 4398046511104) (hr : b.rise.length = 6) (H : Zg) (R : Z6) [hB : MemRows ab 4 (Z7 b.bins) R] :
    Fn Tryz.prog 21 [b.v (b.sl ab cb)] H R (fun v H' R' => v = .bool true ∧ H' = H ∧ R' = R) := by
 have hl : b.bins.length ≤ 9223372036854775807 := by omega
 refine Zy Tryz.func21 rfl Tryz.ntmps21 rfl ?_
 refine sqt 2 rfl (bx rfl rfl rfl (fun b1 => pur 1 rfl (Z0 (sqt 2 rfl (spL rfl rfl (lhA (btl b (b.sl ab cb)) ZD rfl rfl rfl) rfl ?_)))))
 refine clV rfl Zcu rfl rfl (Z98 b ab cb 80 hl9 hr _ _) ?_
 refine Z2 rfl ?_ ?_ <;> intro hc0
 refine sqt 2 rfl ?_
 refine clV rfl Z1d rfl rfl (Z02 _ _) ?_
 refine pur 1 rfl (Z4 ?_)
 exact rtA rfl rfl rfl ⟨rfl, rfl, rfl⟩ (fun w h => by first | exact (((h.del b4).del b3).del b1).facts (fun g hg => by simp [hg]) | exact h.del b1)
 have h8 : ¬ 8 < b.bins.length := by unfold Z5W at hc0; rw [Bool.or_eq_false_iff] at hc0; simpa using hc0.1
 refine Z1 (Z0 ?_)
 refine Z3F [0, 1, 0, 7, 0, 0, 63, 127] [0, 1, 2, 3, 4, 5, 6, 7] ZH (by kernel_rfl) rfl (fun s L H1 R1 => ∃ (a1 : Option Addr) (c1 : Nat) (a2 : Option Addr) (c2 : Nat) (b3 : Nat) (x3 : List Value) (b4 : Nat) (x4 : List Value), Sub [(1, .pointer (some ⟨b1, 0, none⟩))] L ∧ (∀ f ∈ (R : Z6), f ∈ R1) ∧ (s 0 = true → lk L 20 = some (b.v (b.sl ab cb))) ∧ (s 1 = true → lk L 21 = some (b.v (b.sl a1 c1)) ∧ (Z5 a1 4 (Z7 b.bins)) ∈ R1) ∧ (s 2 = true → lk L 22 = some (b.v (b.sl ab cb))) ∧ (s 3 = true → lk L 23 = some (b.v (b.sl a2 c2)) ∧ (Z5 a2 4 (Z7 b.bins)) ∈ R1) ∧ (s 4 = true → lk L 3 = some (.pointer (some ⟨b3, 0, none⟩)) ∧ (s 6 = false → x3 = [.int .i64 0, .int .i64 0, .int .i64 0, .int .i64 0, .int .i64 0, .int .i64 0, .int .i64 0, .int .i64 0, .slice none 0 0])) ∧ (s 5 = true → lk L 4 = some (.pointer (some ⟨b4, 0, none⟩)) ∧ (s 7 = false → x4 = [.int .i64 0, .int .i64 0, .int .i64 0, .int .i64 0, .int .i64 0, .int .i64 0, .int .i64 0, .int .i64 0, .slice none 0 0])) ∧ (s 6 = true → x3 = btl b (b.sl a1 c1)) ∧ (s 7 = true → x4 = btl b (b.sl a2 c2)) ∧ ∀ w, St H1 R1 w → St ((bif s 5 then [(b4, cel 84 x4)] else []) ++ ((bif s 4 then [(b3, cel 27 x3)] else []) ++ ((b1, cel 27 (btl b (b.sl ab cb))) :: H))) R1 w) ?_ ?_ ?_
 exact ⟨none, 0, none, 0, 0, [], 0, [], (by repeat' first | exact Sub.nil | apply Sub.cons | rfl | (simp [lk]; omega)), fun _ hf => hf, ff, ff, ff, ff, ff, ff, ff, ff, fun w h => h⟩
 refine ⟨?_, ?_, ?_, ?_, ?_, ?_, ?_, ?_, trivial⟩
 intro s Lz Hz Rz hdn hs hpre hI K hK
 obtain ⟨a1, c1, a2, c2, b3, x3, b4, x4, hL0, hR0, q0, q1, q2, q3, q4, q5, q6, q7, hH⟩ := hI
 refine Sy.heap hH ?_
 refine spL rfl (Sub.lk hL0 _ _ rfl) ((lhA (btl b (b.sl ab cb)) ZD rfl rfl rfl)) rfl ?_
 exact hK _ _ _ ⟨a1, c1, a2, c2, b3, x3, b4, x4, Zw rfl hL0, hR0, fun _ => ZJ, lm2 q1, lm1 q2, lm2 q3, lm2 q4, lm2 q5, q6, q7, fun w h => h⟩
 intro s Lz Hz Rz hdn hs hpre hI K hK
 obtain ⟨a1, c1, a2, c2, b3, x3, b4, x4, hL0, hR0, q0, q1, q2, q3, q4, q5, q6, q7, hH⟩ := hI
 have h0 : s 0 = true := hpre 0 rfl
 refine Sy.heap hH ?_
 haveI m0 : MemRows ab 4 (Z7 b.bins) Rz := ⟨hR0 _ (inferInstance : MemRows ab 4 (Z7 b.bins) (R)).mem⟩
 refine cl rfl Z6T rfl (by simp only [evs, show ev Lz (.tmp 20) = _ from (q0 h0)]) (Z5H b ab cb (by omega) _ _) ?_
 rintro _ _ R1 ⟨a1, c1, rfl, rfl, hR1⟩
 obtain rfl := hR1.symm
 clear hR1
 exact hK _ _ _ ⟨a1, c1, a2, c2, b3, x3, b4, x4, Zw rfl hL0, Z0j (hR0), fun h => Zc rfl (q0 h), fun _ => ⟨ZJ, (by simp)⟩, fun h => Zc rfl (q2 h), fun h => ⟨Zc rfl (q3 h).1, List.mem_cons_of_mem _ ((q3 h).2)⟩, fun h => ⟨Zc rfl (q4 h).1, (q4 h).2⟩, fun h => ⟨Zc rfl (q5 h).1, (q5 h).2⟩, nof hdn hs 6, q7, fun w h => h⟩
 intro s Lz Hz Rz hdn hs hpre hI K hK
 obtain ⟨a1, c1, a2, c2, b3, x3, b4, x4, hL0, hR0, q0, q1, q2, q3, q4, q5, q6, q7, hH⟩ := hI
 refine Sy.heap hH ?_
 refine spL rfl (Sub.lk hL0 _ _ rfl) ((lhA (btl b (b.sl ab cb)) ZD rfl rfl rfl)) rfl ?_
 exact hK _ _ _ ⟨a1, c1, a2, c2, b3, x3, b4, x4, Zw rfl hL0, hR0, lm1 q0, lm2 q1, fun _ => ZJ, lm2 q3, lm2 q4, lm2 q5, q6, q7, fun w h => h⟩
 intro s Lz Hz Rz hdn hs hpre hI K hK
 obtain ⟨a1, c1, a2, c2, b3, x3, b4, x4, hL0, hR0, q0, q1, q2, q3, q4, q5, q6, q7, hH⟩ := hI
 obtain ⟨h0, h1, h2⟩ : s 0 = true ∧ s 1 = true ∧ s 2 = true := ⟨hpre 0 rfl, hpre 1 rfl, hpre 2 rfl⟩
 refine Sy.heap hH ?_
 haveI m0 : MemRows ab 4 (Z7 b.bins) Rz := ⟨hR0 _ (inferInstance : MemRows ab 4 (Z7 b.bins) (R)).mem⟩
 refine cl rfl Z8h rfl (by simp only [evs, show ev Lz (.tmp 22) = _ from (q2 h2)]) (Z2c b ab cb (by omega) _ _) ?_
 rintro _ _ R1 ⟨a2, c2, rfl, rfl, hR1⟩
 obtain rfl := hR1.symm
 clear hR1
 exact hK _ _ _ ⟨a1, c1, a2, c2, b3, x3, b4, x4, Zw rfl hL0, Z0j (hR0), fun h => Zc rfl (q0 h), fun h => ⟨Zc rfl (q1 h).1, List.mem_cons_of_mem _ ((q1 h).2)⟩, fun h => Zc rfl (q2 h), fun _ => ⟨ZJ, (by simp)⟩, fun h => ⟨Zc rfl (q4 h).1, (q4 h).2⟩, fun h => ⟨Zc rfl (q5 h).1, (q5 h).2⟩, q6, nof hdn hs 7, fun w h => h⟩
 intro s Lz Hz Rz hdn hs hpre hI K hK
 obtain ⟨a1, c1, a2, c2, b3, x3, b4, x4, hL0, hR0, q0, q1, q2, q3, q4, q5, q6, q7, hH⟩ := hI
 refine Sy.heap hH ?_
 refine alc rfl Z0w rfl (fun b3 => ?_)
 exact hK _ _ _ ⟨a1, c1, a2, c2, b3, [.int .i64 0, .int .i64 0, .int .i64 0, .int .i64 0, .int .i64 0, .int .i64 0, .int .i64 0, .int .i64 0, .slice none 0 0], b4, x4, Zw rfl hL0, hR0, lm1 q0, lm2 q1, lm1 q2, lm2 q3, fun _ => ⟨ZJ, fun _ => rfl⟩, lm2 q5, nof hdn hs 6, q7, fun w h => by rw [hs] at h; exact h.perm (List.perm_middle.symm.trans (List.Perm.append_left _ (.refl _)))⟩
 intro s Lz Hz Rz hdn hs hpre hI K hK
 obtain ⟨a1, c1, a2, c2, b3, x3, b4, x4, hL0, hR0, q0, q1, q2, q3, q4, q5, q6, q7, hH⟩ := hI
 refine Sy.heap hH ?_
 refine alc rfl ZbL rfl (fun b4 => ?_)
 exact hK _ _ _ ⟨a1, c1, a2, c2, b3, x3, b4, [.int .i64 0, .int .i64 0, .int .i64 0, .int .i64 0, .int .i64 0, .int .i64 0, .int .i64 0, .int .i64 0, .slice none 0 0], Zw rfl hL0, hR0, lm1 q0, lm2 q1, lm1 q2, lm2 q3, lm2 q4, fun _ => ⟨ZJ, fun _ => rfl⟩, q6, nof hdn hs 7, fun w h => by rw [hs] at h; exact h.perm (.refl _)⟩
 intro s Lz Hz Rz hdn hs hpre hI K hK
 obtain ⟨a1, c1, a2, c2, b3, x3, b4, x4, hL0, hR0, q0, q1, q2, q3, q4, q5, q6, q7, hH⟩ := hI
 obtain ⟨h0, h1, h2, h3, h4, h5⟩ : s 0 = true ∧ s 1 = true ∧ s 2 = true ∧ s 3 = true ∧ s 4 = true ∧ s 5 = true := ⟨hpre 0 rfl, hpre 1 rfl, hpre 2 rfl, hpre 3 rfl, hpre 4 rfl, hpre 5 rfl⟩
 refine Sy.heap hH ?_
 obtain rfl := (q4 h4).2 hs
 refine Sy.heap (H' := (bif s 5 then [(b4, cel 84 x4)] else []) ++ ((b3, cel 27 [.int .i64 0, .int .i64 0, .int .i64 0, .int .i64 0, .int .i64 0, .int .i64 0, .int .i64 0, .int .i64 0, .slice none 0 0]) :: ((b1, cel 27 (btl b (b.sl ab cb))) :: H))) (fun w h => by rw [h4] at h; exact h) ?_
 refine Z1b (l' := btl b (b.sl a1 c1)) rfl (q4 h4).1 (q1 h1).1 Z03 rfl rfl rfl rfl (Nat.le_refl _) ?_
 exact hK _ _ _ ⟨a1, c1, a2, c2, b3, btl b (b.sl a1 c1), b4, x4, hL0, hR0, q0, q1, q2, q3, fun h => ⟨(q4 h).1, fun h => by cases (show true = false from h)⟩, q5, fun _ => rfl, q7, fun w h => by show St ((bif s 5 then [(b4, cel 84 x4)] else []) ++ ((bif s 4 then [(b3, cel 27 (btl b (b.sl a1 c1)))] else []) ++ ((b1, cel 27 (btl b (b.sl ab cb))) :: H))) Rz w; rw [h4]; exact h⟩
 intro s Lz Hz Rz hdn hs hpre hI K hK
 obtain ⟨a1, c1, a2, c2, b3, x3, b4, x4, hL0, hR0, q0, q1, q2, q3, q4, q5, q6, q7, hH⟩ := hI
 obtain ⟨h0, h1, h2, h3, h4, h5, h6⟩ : s 0 = true ∧ s 1 = true ∧ s 2 = true ∧ s 3 = true ∧ s 4 = true ∧ s 5 = true ∧ s 6 = true := ⟨hpre 0 rfl, hpre 1 rfl, hpre 2 rfl, hpre 3 rfl, hpre 4 rfl, hpre 5 rfl, hpre 6 rfl⟩
 refine Sy.heap hH ?_
 obtain rfl := (q5 h5).2 hs
 refine Sy.heap (H' := (b4, cel 84 [.int .i64 0, .int .i64 0, .int .i64 0, .int .i64 0, .int .i64 0, .int .i64 0, .int .i64 0, .int .i64 0, .slice none 0 0]) :: ((bif s 4 then [(b3, cel 27 x3)] else []) ++ ((b1, cel 27 (btl b (b.sl ab cb))) :: H))) (fun w h => by rw [h5] at h; exact h) ?_
 refine Z1b (l' := btl b (b.sl a2 c2)) rfl (q5 h5).1 (q3 h3).1 Zd1 rfl rfl rfl rfl (Nat.le_refl _) ?_
 exact hK _ _ _ ⟨a1, c1, a2, c2, b3, x3, b4, btl b (b.sl a2 c2), hL0, hR0, q0, q1, q2, q3, q4, fun h => ⟨(q5 h).1, fun h => by cases (show true = false from h)⟩, q6, fun _ => rfl, fun w h => by show St ((bif s 5 then [(b4, cel 84 (btl b (b.sl a2 c2)))] else []) ++ ((bif s 4 then [(b3, cel 27 x3)] else []) ++ ((b1, cel 27 (btl b (b.sl ab cb))) :: H))) Rz w; rw [h5]; exact h⟩
 intro Lz Hz Rz hI
 obtain ⟨a1, c1, a2, c2, b3, x3, b4, x4, hL0, hR0, q0, q1, q2, q3, q4, q5, q6, q7, hH⟩ := hI
 obtain rfl := q7 rfl
 obtain rfl := q6 rfl
 refine Sy.weak (L' := [(4, .pointer (some ⟨b4, 0, none⟩)), (3, .pointer (some ⟨b3, 0, none⟩)), (1, .pointer (some ⟨b1, 0, none⟩))]) (H' := (b4, cel 84 (btl b (b.sl a2 c2))) :: (b3, cel 27 (btl b (b.sl a1 c1))) :: (b1, cel 27 (btl b (b.sl ab cb))) :: H) (R' := Z5 a2 4 (Z7 b.bins) :: Z5 a1 4 (Z7 b.bins) :: R) ?_ (Sub.cons (q5 rfl).1 (Sub.cons (q4 rfl).1 hL0)).lk (fun w h => St.facts (hH w h) (Z0h (q3 rfl).2 (Z0h (q1 rfl).2 hR0)))
 refine sqt 3 rfl (spL rfl rfl (lhA (btl b (b.sl a2 c2)) Z1n rfl rfl rfl) rfl ?_)
 refine clV rfl Z80 rfl rfl (Z27 b a2 c2 hl hr _ _) ?_
 refine pur 1 rfl (sqt 4 rfl (pur 4 rfl (sqt 3 rfl (pur 3 rfl (Z0 (sqt 2 rfl (pur 2 rfl ?_)))))))
 refine Z2 rfl ?_ ?_ <;> intro hc1 <;> try simp only [cS] at hc1
 have hck : b.check = 0 := hc1
 have hok := Barn.ok_of hr hck
 have hmn := hok.many
 rw [hck]
 refine Z0 (sqt 3 rfl (spL rfl rfl (lhA (btl b (b.sl a2 c2)) Z1n rfl rfl rfl) rfl ?_))
 refine cl rfl Zcl rfl rfl (Z2J b a2 c2 hok _ _) ?_
 rintro _ _ _ ⟨⟨m, hm, rfl⟩, rfl, rfl⟩
 refine pur 1 rfl (sqt 2 rfl (pur 2 rfl ?_))
 refine Z15 (ι := Unit) (fun _ => ⟨[(1, .pointer (some ⟨b1, 0, none⟩)), (3, .pointer (some ⟨b3, 0, none⟩)), (4, .pointer (some ⟨b4, 0, none⟩)), (5, .int .i64 0), (6, .int .i64 (bif decide (m = 1000000) then 6 else 0)), (7, .int .i64 0), (8, .int .i64 m), (9, .int .i64 (bif decide (m = 1000000) then 0 else m)), (10, .int .i64 0)], (b4, cel 84 (btl (b.withG b.gangs) (b.sl a2 c2))) :: (b3, cel 27 (btl b (b.sl a1 c1))) :: (b1, cel 27 (btl b (b.sl ab cb))) :: H, Z5 a2 4 (Z7 b.bins) :: Z5 a1 4 (Z7 b.bins) :: R⟩) ?_ ?_
 refine Z2 rfl ?_ ?_ <;> intro hc2 <;> try simp only [cS] at hc2
 refine sqr 1 rfl (pur 1 rfl ?_)
 first | exact ZR () (by dsimp only; rw [dT (show m = 1000000 from hc2)]; exact (by repeat' first | exact Sub.nil | apply Sub.cons | rfl | (simp [lk]; omega))) idH | exact ZR () (by dsimp only; rw [dF (show ¬ m = 1000000 from hc2)]; exact (by repeat' first | exact Sub.nil | apply Sub.cons | rfl | (simp [lk]; omega))) idH
 refine sqr 2 rfl (pur 2 rfl ?_)
 first | exact ZR () (by dsimp only; rw [dT (show m = 1000000 from hc2)]; exact (by repeat' first | exact Sub.nil | apply Sub.cons | rfl | (simp [lk]; omega))) idH | exact ZR () (by dsimp only; rw [dF (show ¬ m = 1000000 from hc2)]; exact (by repeat' first | exact Sub.nil | apply Sub.cons | rfl | (simp [lk]; omega))) idH
 rintro ⟨⟩
 refine sqt 1 rfl (pur 1 rfl (sqt 5 rfl (sp rfl (PE.fA ZE rfl) rfl (spL rfl rfl (lh Z0C rfl rfl) rfl (sp rfl (PE.lenSl Z0M rfl) rfl (sp rfl (PE.fA Z2m rfl) rfl ?_))))))
 refine Z1b (l' := btl (b.withG (b.bins.length : Int)) (b.sl a2 c2)) rfl rfl rfl cn3 rfl rfl rfl rfl (nl rfl) ?_
 refine Z3 ?_
 refine Zj (ι := {y : Nat × Int × Int // y.1 ≤ b.bins.length + 1 ∧ SpI b y.1 y.2.1 y.2.2}) (fun y => ⟨[(1, .pointer (some ⟨b1, 0, none⟩)), (3, .pointer (some ⟨b3, 0, none⟩)), (4, .pointer (some ⟨b4, 0, none⟩)), (5, .int .i64 0), (6, .int .i64 (bif decide (m = 1000000) then 6 else 0)), (7, .int .i64 y.1.2.2), (8, .int .i64 m), (9, .int .i64 (bif decide (m = 1000000) then 0 else m)), (10, .int .i64 y.1.2.1)], (b4, cel 84 (btl (b.withG ((y.1.1 : Int) - 1)) (b.sl a2 c2))) :: (b3, cel 27 (btl b (b.sl a1 c1))) :: (b1, cel 27 (btl b (b.sl ab cb))) :: H, Z5 a2 4 (Z7 b.bins) :: Z5 a1 4 (Z7 b.bins) :: R⟩) (fun y => y.1.1) ⟨(b.bins.length + 1, 0, 6), Nat.le_refl _, SpI.start b⟩ ?_ (fun y => ?_)
 exact Zr (fun w h => by dsimp only; rw [show (((b.bins.length + 1 : Nat) : Int) - 1) = (b.bins.length : Int) by omega]; exact h)
 obtain ⟨⟨mg, spr, ve⟩, hmg, hsp⟩ := y
 dsimp only at hmg hsp ⊢
 refine Z0 (sqt 3 rfl (sp rfl (PE.fA Z2m rfl) rfl (spL rfl rfl (lh sc3 rfl rfl) rfl (pur 1 rfl ?_))))
 refine Z2 rfl ?_ ?_ <;> intro hc3 <;> try simp only [cS] at hc3
 obtain ⟨k, rfl⟩ : ∃ k, mg = k + 1 := ⟨mg - 1, by have h9 : (b.withG ((mg : Int) - 1)).gangs = (mg : Int) - 1 := rfl; omega⟩
 have hgk : (b.withG k).ok := b.withG_ok hok (by omega)
 rw [show (((k + 1 : Nat) : Int) - 1) = (k : Int) by omega]
 refine Z1 (Z0 (Z3 (sqt 3 rfl (spL rfl rfl (lhA (btl (b.withG k) (b.sl a2 c2)) Z1n rfl rfl rfl) rfl ?_))))
 refine cl rfl Zcl rfl rfl (Z2J (b.withG k) a2 c2 hgk _ _) ?_
 rintro _ _ _ ⟨⟨m', hm', rfl⟩, rfl, rfl⟩
 refine pur 1 rfl ?_
 refine Z2 rfl ?_ ?_ <;> intro hc4 <;> try simp only [cS] at hc4
 have hsn := SpI.yes (b := b) (k := k) (by omega) (by rw [← show m' = 1000000 from hc4]; exact hm')
 refine sqr 4 rfl (sp rfl (PE.fA Z2m rfl) rfl (spL rfl rfl (lh sc3 rfl rfl) rfl (pur 2 rfl (sqr 5 rfl (sp rfl (PE.fA Z2m rfl) rfl (spL rfl rfl (lh sc3 rfl rfl) rfl (sp rfl (PE.sub rfl rfl (by have h9 : (b.withG (k : Int)).gangs = (k : Int) := rfl; omega)) rfl (sp rfl (PE.fA Z2m rfl) rfl ?_))))))))
 refine Z1b (l' := btl (b.withG ((k : Int) - 1)) (b.sl a2 c2)) rfl rfl rfl cn3 rfl rfl rfl rfl (nl rfl) ?_
 first | exact Ze ⟨(k, (k : Int), 0), by dsimp only; omega, hsn⟩ (by dsimp only; omega) idH | exact Ze ⟨(k, spr, ve), by dsimp only; omega, hsn⟩ (by dsimp only; omega) idH
 have hsn := hsp.no (k := k) ⟨m', hc4, hm'⟩
 refine Z1 (sqr 5 rfl (sp rfl (PE.fA Z2m rfl) rfl (spL rfl rfl (lh sc3 rfl rfl) rfl (sp rfl (PE.sub rfl rfl (by have h9 : (b.withG (k : Int)).gangs = (k : Int) := rfl; omega)) rfl (sp rfl (PE.fA Z2m rfl) rfl ?_)))))
 refine Z1b (l' := btl (b.withG ((k : Int) - 1)) (b.sl a2 c2)) rfl rfl rfl cn3 rfl rfl rfl rfl (nl rfl) ?_
 first | exact Ze ⟨(k, (k : Int), 0), by dsimp only; omega, hsn⟩ (by dsimp only; omega) idH | exact Ze ⟨(k, spr, ve), by dsimp only; omega, hsn⟩ (by dsimp only; omega) idH
 obtain rfl : mg = 0 := by have h9 : (b.withG ((mg : Int) - 1)).gangs = (mg : Int) - 1 := rfl; omega
 refine Zb (Zf (Zf (ZB (sqt 7 rfl (spL rfl rfl (lhA (btl b (b.sl a1 c1)) ZD rfl rfl rfl) rfl ?_)))))
 refine clV rfl ZbY rfl rfl (Z9H b a1 c1 hl hr hck hm _ _) ?_
 refine pur 5 rfl (sqt 7 rfl (spL rfl rfl (lhA (btl b (b.sl a1 c1)) ZD rfl rfl rfl) rfl ?_))
 refine clV rfl Zet rfl rfl (Zd3 b a1 c1 hl hr hck hm _ _) ?_
 refine pur 5 rfl (sqt 7 rfl (spL rfl rfl (lhA (btl b (b.sl a1 c1)) ZD rfl rfl rfl) rfl ?_))
 refine clV rfl ZdS rfl rfl (Zc5 b a1 c1 hl hr hck hsp _ _) ?_
 refine pur 5 rfl (sqt 37 rfl (pur 4 rfl ?_))
 refine Zh 69 rfl ?_ ?_ <;> intro g69
 refine pur 5 rfl ?_
 refine Zh 74 rfl ?_ ?_ <;> intro g74
 refine pur 5 rfl ?_
 refine Zh 79 rfl ?_ ?_ <;> intro g79
 refine pur 5 rfl ?_
 refine Zh 84 rfl ?_ ?_ <;> intro g84
 refine pur 5 rfl ?_
 refine Zh 89 rfl ?_ ?_ <;> intro g89
 refine pur 5 rfl ?_
 refine Zh 94 rfl ?_ ?_ <;> intro g94
 refine Z0o rfl rfl rfl rfl rfl (lhA (btl b (b.sl a1 c1)) ZD rfl rfl rfl) rfl (Z0o rfl rfl rfl rfl rfl (lhA (btl b (b.sl ab cb)) ZD rfl rfl rfl) rfl ?_)
 refine Z0K rfl rfl rfl rfl Z1J rfl rfl (Z0S b a1 c1 b ab cb hl hl hr hr _ _) ?_
 refine pur 2 rfl ?_
 refine Zh 99 rfl ?_ ?_ <;> intro g99
 refine Z0K rfl rfl rfl rfl Z1d rfl rfl (Z02 _ _) ?_
 refine pur 2 rfl (Z4 ?_)
 exact rtA rfl rfl rfl ⟨rfl, rfl, rfl⟩ (fun w h => by first | exact (((h.del b4).del b3).del b1).facts (fun g hg => by simp [hg]) | exact h.del b1)
 rw [sameB_iff.2 rfl] at g99; exact absurd g99 (by decide)
 exact absurd g94 (by simp)
 exact absurd g89 (by simp)
 exact absurd g84 (by simp)
 exact absurd g79 (by simp)
 exact absurd g74 (by simp)
 exact absurd g69 (by simp)
 have hcn : b.check ≠ 0 := hc1
 refine Z1 (sqt 7 rfl (spL rfl rfl (lhA (btl b (b.sl a1 c1)) ZD rfl rfl rfl) rfl ?_))
 refine clV rfl ZbY rfl rfl (Za5 b a1 c1 hl hr hcn _ _) ?_
 refine pur 5 rfl (sqt 7 rfl (spL rfl rfl (lhA (btl b (b.sl a1 c1)) ZD rfl rfl rfl) rfl ?_))
 refine clV rfl Zet rfl rfl (ZcA b a1 c1 hl hr hcn _ _) ?_
 refine pur 5 rfl (sqt 7 rfl (spL rfl rfl (lhA (btl b (b.sl a1 c1)) ZD rfl rfl rfl) rfl ?_))
 refine clV rfl ZdS rfl rfl (ZbO b a1 c1 hl hr hcn _ _) ?_
 refine pur 5 rfl (sqt 37 rfl (pur 4 rfl ?_))
 refine Zh 69 rfl ?_ ?_ <;> intro g69
 refine pur 5 rfl ?_
 refine Zh 74 rfl ?_ ?_ <;> intro g74
 refine pur 5 rfl ?_
 refine Zh 79 rfl ?_ ?_ <;> intro g79
 refine pur 5 rfl ?_
 refine Zh 84 rfl ?_ ?_ <;> intro g84
 refine pur 5 rfl ?_
 refine Zh 89 rfl ?_ ?_ <;> intro g89
 refine pur 5 rfl ?_
 refine Zh 94 rfl ?_ ?_ <;> intro g94
 refine Z0o rfl rfl rfl rfl rfl (lhA (btl b (b.sl a1 c1)) ZD rfl rfl rfl) rfl (Z0o rfl rfl rfl rfl rfl (lhA (btl b (b.sl ab cb)) ZD rfl rfl rfl) rfl ?_)
 refine Z0K rfl rfl rfl rfl Z1J rfl rfl (Z0S b a1 c1 b ab cb hl hl hr hr _ _) ?_
 refine pur 2 rfl ?_
 refine Zh 99 rfl ?_ ?_ <;> intro g99
 refine Z0K rfl rfl rfl rfl Z1d rfl rfl (Z02 _ _) ?_
 refine pur 2 rfl (Z4 ?_)
 exact rtA rfl rfl rfl ⟨rfl, rfl, rfl⟩ (fun w h => by first | exact (((h.del b4).del b3).del b1).facts (fun g hg => by simp [hg]) | exact h.del b1)
 rw [sameB_iff.2 rfl] at g99; exact absurd g99 (by decide)
 exact absurd g94 (by simp)
 exact absurd g89 (by simp)
 exact absurd g84 (by simp)
 exact absurd g79 (by simp)
 exact absurd g74 (by simp)
 exact absurd g69 (by simp)
end Go.Proofs.YtnifcjgnageniaaGreat
