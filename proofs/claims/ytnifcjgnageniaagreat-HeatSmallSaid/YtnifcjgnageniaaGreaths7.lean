/- Walks of the functions of the program, and the laws that join them: what the last theorem of this claim needs, in order. -/
import Derived.Test.YtnifcjgnageniaaGreaths6
namespace Go.Proofs.YtnifcjgnageniaaGreat
set_option linter.unusedSimpArgs false
set_option linter.unusedVariables false
open Go
theorem Zfn : cal Tryz.prog 116 = true := by kernel_rfl
theorem Z6v : elN Tryz.prog 128 = some 2 := by kernel_rfl
theorem Z5Q : Z2R Tryz.prog 149 0 = some 0 := by kernel_rfl
theorem Z4y : Z2R Tryz.prog 149 1 = some 1 := by kernel_rfl
theorem Z9d : Z7W Tryz.prog 128 = true := by kernel_rfl
abbrev WL := List (List Int × Int)
def Z1A (n : Nat) (s t : List Int) : Bool := (List.range n).all fun k => decide (na s k ≤ na t k)
theorem undP_iff {n : Nat} {s t : List Int} : Z1A n s t = true ↔ ∀ k < n, na s k ≤ na t k := by
  unfold Z1A
  rw [List.all_eq_true]
  exact ⟨fun h k hk => of_decide_eq_true (h k (List.mem_range.2 hk)), fun h k hk => decide_eq_true (h k (List.mem_range.1 hk))⟩
theorem Zbd {n : Nat} {s t : List Int} {k : Nat} (hk : k < n) (h : na t k < na s k) : Z1A n s t = false := by
  rw [Bool.eq_false_iff]
  intro h1
  have := undP_iff.1 h1 k hk
  omega
theorem ZcG (n : Nat) (s t : List Int) : Z1A n (pad s) t = Z1A n s t := by unfold Z1A; simp only [Z13]
theorem Z6M (n : Nat) (s t : List Int) : Z1A n s (pad t) = Z1A n s t := by unfold Z1A; simp only [Z13]
theorem Z5y {n : Nat} {s t u : List Int} (h1 : Z1A n s t = true) (h2 : Z1A n t u = true) : Z1A n s u = true := undP_iff.2 fun k hk => Int.le_trans (undP_iff.1 h1 k hk) (undP_iff.1 h2 k hk)
def Z81 (n : Nat) (t : List Int) (m : Int) (s : List Int × Int) : Int := bif Z1A n t s.1 then min m s.2 else m
def Z1o (n : Nat) (W : WL) (t : List Int) : Int := W.foldl (Z81 n t) 1000000
theorem Z7w (n : Nat) (W : WL) (s : List Int × Int) (t : List Int) : Z1o n (W ++ [s]) t = Z81 n t (Z1o n W t) s := by unfold Z1o; rw [List.foldl_append]; rfl
theorem Z61 (n : Nat) (W : WL) (t : List Int) : Z1o n W (pad t) = Z1o n W t := by
  unfold Z1o
  have e : Z81 n (pad t) = Z81 n t := by funext m s; unfold Z81; rw [ZcG]
  rw [e]
theorem Z6C {n : Nat} {t : List Int} : ∀ (W : WL) (m : Int), W.foldl (Z81 n t) m ≤ m ∧ (∀ s ∈ W, Z1A n t s.1 = true → W.foldl (Z81 n t) m ≤ s.2) ∧ (W.foldl (Z81 n t) m = m ∨ ∃ s ∈ W, Z1A n t s.1 = true ∧ W.foldl (Z81 n t) m = s.2)
  | [], m => ⟨Int.le_refl _, by simp, .inl rfl⟩
  | x :: W, m => by
    obtain ⟨h1, h2, h3⟩ := Z6C (n := n) (t := t) W (Z81 n t m x)
    rw [List.foldl_cons]
    have hx : Z81 n t m x ≤ m ∧ (Z1A n t x.1 = true → Z81 n t m x ≤ x.2) ∧ (Z81 n t m x = m ∨ (Z1A n t x.1 = true ∧ Z81 n t m x = x.2)) := by
      unfold Z81
      cases Z1A n t x.1 with
      | false => exact ⟨Int.le_refl _, by simp, .inl rfl⟩
      | true => simp only [cond_true, forall_const, true_and]; omega
    refine ⟨by omega, fun s hs hu => ?_, ?_⟩
    · rcases List.mem_cons.1 hs with rfl | hs
      · have := hx.2.1 hu; omega
      · exact h2 s hs hu
    · rcases h3 with h3 | ⟨s, hs, hu, h3⟩
      · rcases hx.2.2 with h4 | ⟨h4, h5⟩
        · exact .inl (by omega)
        · exact .inr ⟨x, by simp, h4, by omega⟩
      · exact .inr ⟨s, by simp [hs], hu, h3⟩
theorem Z8z {n : Nat} {W : WL} {t : List Int} {s : List Int × Int} (hs : s ∈ W) (hu : Z1A n t s.1 = true) : Z1o n W t ≤ s.2 := (Z6C W 1000000).2.1 s hs hu
theorem Z87 {n : Nat} {W : WL} {t : List Int} (h : Z1o n W t ≠ 1000000) : ∃ s ∈ W, Z1A n t s.1 = true ∧ Z1o n W t = s.2 := (Z6C W 1000000).2.2.resolve_left h
def Z2X (b : Barn) (k : Nat) (v : Int) : Bool := bif decide (b.worst (b.bins.getD k hb0) = 0) then decide (v ≠ 1000000) else !(inB v 0 10)
def Z1w (b : Barn) (s : List Int × Int) : Int := bif decide (s.1.length ≠ b.bins.length) then 2 else bif !(inB s.2 0 20000) then 3 else bif (List.range b.bins.length).any (fun k => Z2X b k (na s.1 k)) then 3 else 0
def Z1H (b : Barn) (W : WL) : Int := bif !(inB (W.length : Int) 1 20000) then 2 else match W.find? (fun s => decide (Z1w b s ≠ 0)) with
  | some s => Z1w b s
  | none => 0
theorem Z6R {b : Barn} {s : List Int × Int} (h : s.1.length ≠ b.bins.length) : Z1w b s = 2 := by unfold Z1w; rw [decide_eq_true h]; rfl
theorem Z5r {b : Barn} {s : List Int × Int} (h : s.1.length = b.bins.length) (hd : inB s.2 0 20000 = false) : Z1w b s = 3 := by unfold Z1w; rw [decide_eq_false (by simpa using h), hd]; rfl
theorem Z3o {b : Barn} {s : List Int × Int} (h : s.1.length = b.bins.length) (hd : inB s.2 0 20000 = true) {k : Nat} (hk : k < b.bins.length) (hb : Z2X b k (na s.1 k) = true) : Z1w b s = 3 := by
  unfold Z1w
  rw [decide_eq_false (by simpa using h), hd, show (List.range b.bins.length).any (fun k => Z2X b k (na s.1 k)) = true from List.any_eq_true.2 ⟨k, List.mem_range.2 hk, hb⟩]; rfl
theorem Z6c {b : Barn} {s : List Int × Int} (h : s.1.length = b.bins.length) (hd : inB s.2 0 20000 = true) (hb : ∀ k < b.bins.length, Z2X b k (na s.1 k) = false) : Z1w b s = 0 := by
  unfold Z1w
  rw [decide_eq_false (by simpa using h), hd, show (List.range b.bins.length).any (fun k => Z2X b k (na s.1 k)) = false from List.any_eq_false.2 fun k hk => by rw [hb k (List.mem_range.1 hk)]; simp]; rfl
theorem Z0D {b : Barn} {s : List Int × Int} (h : Z1w b s = 0) : s.1.length = b.bins.length ∧ (0 ≤ s.2 ∧ s.2 ≤ 20000) ∧ ∀ k < b.bins.length, Z2X b k (na s.1 k) = false := by
  unfold Z1w at h
  by_cases h1 : s.1.length = b.bins.length
  · rw [decide_eq_false (by simpa using h1), cond_false] at h
    cases h2 : inB s.2 0 20000 with
    | false => rw [h2] at h; cases h
    | true =>
      rw [h2, Bool.not_true, cond_false] at h
      cases h3 : (List.range b.bins.length).any (fun k => Z2X b k (na s.1 k)) with
      | true => rw [h3] at h; cases h
      | false =>
        refine ⟨h1, by simpa [inB] using h2, fun k hk => ?_⟩
        have := List.any_eq_false.1 h3 k (List.mem_range.2 hk)
        simpa using this
  · rw [decide_eq_true h1] at h; cases h
theorem Z84 {b : Barn} {k : Nat} {v : Int} (h : Z2X b k v = false) : (b.worst (b.bins.getD k hb0) = 0 → v = 1000000) ∧ (b.worst (b.bins.getD k hb0) ≠ 0 → 0 ≤ v ∧ v ≤ 10) := by
  unfold Z2X at h
  by_cases h0 : b.worst (b.bins.getD k hb0) = 0
  · rw [decide_eq_true h0, cond_true, decide_eq_false_iff_not] at h
    exact ⟨fun _ => by simpa using h, fun h1 => absurd h0 h1⟩
  · rw [decide_eq_false h0, cond_false, Bool.not_eq_false'] at h
    exact ⟨fun h1 => absurd h1 h0, fun _ => by simpa [inB] using h⟩
theorem Z7D {b : Barn} {W : WL} (h : inB (W.length : Int) 1 20000 = false) : Z1H b W = 2 := by unfold Z1H; rw [h]; rfl
theorem Z5t {α : Type} {p : α → Bool} : ∀ {l : List α} {i : Nat} {x : α}, l[i]? = some x → p x = true → (∀ y ∈ l.take i, p y = false) → l.find? p = some x
  | [], i, x, h, _, _ => by cases h
  | y :: l, 0, x, h, hp, _ => by cases h; rw [List.find?_cons, hp]
  | y :: l, i + 1, x, h, hp, hn => by
    rw [List.find?_cons, hn y (by simp)]
    exact Z5t (l := l) (i := i) (by simpa using h) hp fun z hz => hn z (by simp [hz])
theorem Z9x {b : Barn} {W : WL} {i : Nat} {s : List Int × Int} (h : inB (W.length : Int) 1 20000 = true) (hs : W[i]? = some s) (hn : ∀ y ∈ W.take i, Z1w b y = 0) (he : Z1w b s ≠ 0) : Z1H b W = Z1w b s := by
  unfold Z1H
  rw [h, Bool.not_true, cond_false, Z5t (p := fun s => decide (Z1w b s ≠ 0)) hs (decide_eq_true he) (fun y hy => decide_eq_false (by rw [hn y hy]; simp))]
theorem Z6E {b : Barn} {W : WL} (h : inB (W.length : Int) 1 20000 = true) (hn : ∀ y ∈ W, Z1w b y = 0) : Z1H b W = 0 := by
  unfold Z1H
  rw [h, Bool.not_true, cond_false, List.find?_eq_none.2 fun y hy => by rw [hn y hy]; simp]
theorem Z0O {b : Barn} {W : WL} (h : Z1H b W = 0) : (1 ≤ W.length ∧ W.length ≤ 20000) ∧ ∀ y ∈ W, Z1w b y = 0 := by
  unfold Z1H at h
  cases h1 : inB (W.length : Int) 1 20000 with
  | false => rw [h1] at h; cases h
  | true =>
    rw [h1, Bool.not_true, cond_false] at h
    refine ⟨by simp [inB] at h1; omega, fun y hy => ?_⟩
    cases hf : W.find? (fun s => decide (Z1w b s ≠ 0)) with
    | some s =>
      rw [hf] at h
      have := List.find?_some hf
      dsimp only at h
      rw [h] at this; simp at this
    | none =>
      have := List.find?_eq_none.1 hf y hy
      simpa using this
theorem Z3w {α : Type} {l : List α} {i : Nat} {x : α} {p : α → Prop} (hx : l[i]? = some x) (h : ∀ y ∈ l.take i, p y) (hp : p x) : ∀ y ∈ l.take (i + 1), p y := fun y hy => by
  rw [ZK hx] at hy
  rcases List.mem_append.1 hy with hy | hy
  · exact h y hy
  · rw [List.mem_singleton.1 hy]; exact hp
def wlL (d : Dsk) (W : WL) (s : List Int × Int) (l : List Nat) : Bool := match d.next (pad s.1) l with
  | none => true
  | some t => decide (Z1o d.n W t < s.2)
def Z6Q (d : Dsk) (W : WL) (s : List Int × Int) : Bool := (d.trs false).all (wlL d W s)
theorem Z8J (d : Dsk) (W : WL) (s : List Int × Int) : Z6Q d W s = !((d.trs false).any fun l => !wlL d W s l) := by
  unfold Z6Q
  rw [Bool.eq_iff_iff, List.all_eq_true, Bool.not_eq_true', List.any_eq_false]
  simp
def Zgw (d : Dsk) (W : WL) : Bool := W.all (Z6Q d W)
def Z3E (b : Barn) (W : WL) : Int × Int := bif decide (Z1H b W = 0) then (bif Zgw b.dsk W && decide (Z1o b.dsk.n W b.state ≠ 1000000) then (Z1o b.dsk.n W b.state, 0) else (0, 8)) else (0, Z1H b W)
theorem Z6D {b : Barn} {W : WL} (h : Z1H b W ≠ 0) : Z3E b W = (0, Z1H b W) := by unfold Z3E; rw [decide_eq_false h]; rfl
theorem ZdB {b : Barn} {W : WL} (h : Z1H b W = 0) {s : List Int × Int} (hs : s ∈ W) (hw : Z6Q b.dsk W s = false) : Z3E b W = (0, 8) := by
  unfold Z3E
  rw [decide_eq_true h, cond_true, show Zgw b.dsk W = false from List.all_eq_false.2 ⟨s, hs, by rw [hw]; simp⟩]; rfl
theorem Z6o {b : Barn} {W : WL} (h : Z1H b W = 0) (hs : Z1o b.dsk.n W b.state = 1000000) : Z3E b W = (0, 8) := by
  unfold Z3E
  rw [decide_eq_true h, cond_true, decide_eq_false (show ¬ Z1o b.dsk.n W b.state ≠ 1000000 by simpa using hs), Bool.and_false]; rfl
theorem Z6q {b : Barn} {W : WL} (h : Z1H b W = 0) (hw : ∀ s ∈ W, Z6Q b.dsk W s = true) (hs : Z1o b.dsk.n W b.state ≠ 1000000) : Z3E b W = (Z1o b.dsk.n W b.state, 0) := by
  unfold Z3E
  rw [decide_eq_true h, cond_true, decide_eq_true hs, show Zgw b.dsk W = true from List.all_eq_true.2 hw]; rfl
theorem Z3a {b : Barn} {W : WL} (h : (Z3E b W).2 = 0) : Z1H b W = 0 ∧ (∀ s ∈ W, Z6Q b.dsk W s = true) ∧ Z1o b.dsk.n W b.state ≠ 1000000 ∧ (Z3E b W).1 = Z1o b.dsk.n W b.state := by
  by_cases h0 : Z1H b W = 0
  · refine ⟨h0, ?_⟩
    cases hw : Zgw b.dsk W with
    | false => unfold Z3E at h; rw [decide_eq_true h0, hw] at h; cases h
    | true =>
      by_cases hs : Z1o b.dsk.n W b.state = 1000000
      · rw [Z6o h0 hs] at h; cases h
      · have hw2 := List.all_eq_true.1 hw
        exact ⟨hw2, hs, by rw [Z6q h0 hw2 hs]⟩
  · rw [Z6D h0] at h; exact absurd h h0
theorem ZcC {d : Dsk} (hd : d.ok) {s s' : HSt} (h : s.length = 4) (h' : s'.length = 4) (hm : ∀ k < d.n, na s' k ≤ 1000000) (hle : Z1A d.n s s' = true) {l : List Nat} (hl : ∀ k ∈ l, k < d.n) {t : HSt} (e : d.next s l = some t) :
    ∃ t', d.next s' l = some t' ∧ Z1A d.n t t' = true := by
  have hn := hd.n
  obtain ⟨_, h2⟩ := d.next_at hn.2 h hl e
  have hm2 : ∀ k < d.n, d.mid s l k ≤ d.mid s' l k ∧ d.mid s' l k ≤ 1000000 := fun k hk => by
    have := undP_iff.1 hle k hk
    have := hm k hk
    have := hd.lasts.at_ k (by omega)
    unfold Dsk.mid
    split <;> omega
  obtain ⟨t', ht'⟩ := d.next_some hn.2 h' hl (fun k hk => by have := hm2 k hk; have := (h2 k).1 hk; omega)
  refine ⟨t', ht', undP_iff.2 fun k hk => ?_⟩
  obtain ⟨_, h3⟩ := d.next_at hn.2 h' hl ht'
  have := hm2 k hk
  rw [(h2 k).2, (h3 k).2]
  split <;> split <;> omega
theorem Z95 {b : Barn} (hok : b.ok) {W : WL} (he : Z1H b W = 0) (hw : ∀ s ∈ W, Z6Q b.dsk W s = true) : ∀ {p : List (List Nat)} {s t : HSt} {x : List Int × Int}, s.length = 4 → (∀ l ∈ p, l ∈ b.dsk.trs false) → x ∈ W → Z1A b.dsk.n s x.1 = true → b.dsk.run s p = some t → (p.length : Int) ≤ x.2
  | [], s, t, x, _, _, hx, _, _ => by have := Z0D ((Z0O he).2 x hx); simp; omega
  | l :: p, s, t, x, hs, hp, hx, hu, hr => by
    have hd := b.dsk_ok hok
    unfold Dsk.run at hr
    split at hr
    · cases hr
    · rename_i u hu2
      have hlt := b.dsk.trs_lt (hp l (by simp))
      obtain ⟨x1, x2, x3⟩ := Z0D ((Z0O he).2 x hx)
      have hmn := hok.many
      have hn : b.dsk.n = b.bins.length := rfl
      obtain ⟨t', h1, h2⟩ := ZcC hd hs (Z0Y (l := x.1) (by omega)) (fun k hk => by
        rw [Z13]
        have := Z84 (x3 k (hn ▸ hk))
        by_cases h0 : b.worst (b.bins.getD k hb0) = 0
        · have := this.1 h0; omega
        · have := this.2 h0; omega) (by rw [Z6M]; exact hu) hlt hu2
      have h3 := List.all_eq_true.1 (hw x hx) l (hp l (by simp))
      unfold wlL at h3
      rw [h1] at h3
      dsimp only at h3
      have h3 := of_decide_eq_true h3
      obtain ⟨y, hy, hyu, hye⟩ := Z87 (n := b.dsk.n) (W := W) (t := t') (by omega)
      have ul : u.length = 4 := (b.dsk.next_at hd.n.2 hs hlt hu2).1
      have := Z95 hok he hw (p := p) ul (fun m hm => hp m (by simp [hm])) hy (Z5y h2 hyu) hr
      rw [List.length_cons]; push_cast; omega
theorem Z9R {b : Barn} (hok : b.ok) {W : WL} (h : (Z3E b W).2 = 0) {m : Int} (hm : Kpt b.dsk b.state m) : m ≠ 1000000 ∧ m ≤ (Z3E b W).1 := by
  obtain ⟨h1, h2, h3, h4⟩ := Z3a h
  obtain ⟨x, hx, hu, hxe⟩ := Z87 h3
  have hd := b.dsk_ok hok
  have hs := b.state_inS hok
  have key : ∀ n : Nat, (m = 1000000 ∨ (n : Int) ≤ m) → (n : Int) ≤ x.2 := fun n hn => by
    obtain ⟨t, c, hp⟩ := (Z4w hd hs hm n).2 hn
    obtain ⟨p, p1, p2, p3, _⟩ := b.dsk.pth_run hp
    have := Z95 hok h1 h2 hs.len p2 hx hu p3
    omega
  have hx2 := (Z0D ((Z0O h1).2 x hx)).2.1
  have hmr := Z2i hm
  have hne : m ≠ 1000000 := fun e => by have := key 20001 (.inl e); omega
  refine ⟨hne, ?_⟩
  have := key m.toNat (.inr (by omega))
  omega
theorem Zcm {d : Dsk} (hd : d.ok) {la : List Int} (hla : ∀ k < d.n, na la k = na d.lasts k) {W : WL} {s : List Int × Int} (hs : s.1.length = d.n) : Z6Q d W s = true ↔ ∀ u < 2 ^ d.n, ∀ t, rS d.n d.gangs la s.1 u = some t → Z1o d.n W t < s.2 := by
  unfold Z6Q
  rw [List.all_eq_true]
  constructor
  · intro h u hu t ht
    obtain ⟨h1, h2⟩ := (Z53 hd hla hs (Zdz ht) hu).1 ht
    have h3 := h _ h1
    unfold wlL at h3
    rw [h2] at h3
    dsimp only at h3
    rw [← Z61]
    exact of_decide_eq_true h3
  · intro h l hl
    obtain ⟨u, hu, rfl, _⟩ := d.mem_trs.1 hl
    unfold wlL
    cases hn : d.next (pad s.1) (Z04 d.n u) with
    | none => rfl
    | some t =>
      have hn4 := hd.n
      have hps : (pad s.1).length = 4 := Z0Y (by omega)
      obtain ⟨t1, t2⟩ := d.next_at hn4.2 hps (fun k hk => Z3X hk) hn
      have htl : (t.take d.n).length = d.n := by rw [List.length_take]; omega
      have htp : pad (t.take d.n) = t := by
        refine Z9s (Z0Y (by omega)) t1 fun k hk => ?_
        rw [Z13]
        by_cases hkn : k < d.n
        · unfold na; rw [List.getD_eq_getElem?_getD, List.getD_eq_getElem?_getD, List.getElem?_take, if_pos hkn]
        · have h1 : na (t.take d.n) k = 0 := by unfold na; rw [List.getD_eq_getElem?_getD, List.getElem?_eq_none (by omega)]; rfl
          rw [h1, (t2 k).2, if_neg (by omega)]
          unfold Dsk.mid
          rw [if_neg (fun h1 => hkn (Z3X h1)), Z13]
          unfold na
          rw [List.getD_eq_getElem?_getD, List.getElem?_eq_none (by omega)]; rfl
      have h1 := h u hu (t.take d.n) ((Z53 hd hla hs htl hu).2 ⟨hl, by rw [htp]; exact hn⟩)
      dsimp only
      rw [← htp, Z61]
      exact decide_eq_true h1
structure WE where
  a : Option Addr
  c : Nat
  l : List Int
  d : Int
def Z0y (x : WE) : List Value := [.slice x.a x.l.length x.c, .int .i64 x.d]
def ZC (l : List WE) : List (List Value) := l.map Z0y
def wls (l : List WE) : WL := l.map fun x => (x.l, x.d)
theorem ZM (l : List WE) : (ZC l).length = l.length := List.length_map _
theorem Z0F (l : List WE) : (wls l).length = l.length := List.length_map _
theorem Z0r {l : List WE} {i : Nat} {x : WE} (h : l[i]? = some x) : (ZC l)[i]? = some (Z0y x) := by unfold ZC; rw [List.getElem?_map, h]; rfl
theorem Z1f {l : List WE} {i : Nat} {x : WE} (h : l[i]? = some x) : (wls l)[i]? = some (x.l, x.d) := by unfold wls; rw [List.getElem?_map, h]; rfl
theorem Z1q {l : List WE} {x : WE} (h : x ∈ l) : (x.l, x.d) ∈ wls l := List.mem_map.2 ⟨x, h, rfl⟩
theorem Z3U (l k : List WE) : wls (l ++ k) = wls l ++ wls k := by unfold wls; rw [List.map_append]
theorem Z1T (l k : List WE) : ZC (l ++ k) = ZC l ++ ZC k := by unfold ZC; rw [List.map_append]
theorem Z8j (l : List WE) (i : Nat) : (ZC l).take i = ZC (l.take i) := (List.map_take).symm
theorem Zb8 (l : List WE) : ∀ r ∈ ZC l, r.length = 2 := fun r hr => by obtain ⟨y, _, rfl⟩ := List.mem_map.1 hr; rfl
def InW (l : List WE) : World → Prop := fun w => ∀ x ∈ l, Z5 x.a 1 (Zm x.l) w
theorem St.inw0 {H : Zg} {R : Z6} {w : World} (h : St H R w) : St H (InW [] :: R) w := h.also fun _ _ x hx => by cases hx
theorem St.inwAt {l : List WE} {x : WE} {H : Zg} {R : Z6} {w : World} [m : MemF (InW l) R] (h : St H R w) (hx : x ∈ l) : St H (Z5 x.a 1 (Zm x.l) :: R) w := h.also fun _ hw => hw _ m.mem x hx
theorem St.inwSnoc {l : List WE} {H : Zg} {R : Z6} {w : World} (x : WE) [m1 : MemF (InW l) R] [m2 : MemRows x.a 1 (Zm x.l) R] (h : St H R w) : St H (InW (l ++ [x]) :: R) w := h.also fun _ hw y hy => by
  rcases List.mem_append.1 hy with hy | hy
  · exact hw _ m1.mem y hy
  · rw [List.mem_singleton.1 hy]; exact hw _ m2.mem
theorem St.inwPart {l : List WE} {H : Zg} {R : Z6} {w : World} [m : MemF (InW l) R] (h : St H R w) (k : List WE) (hk : ∀ x ∈ k, x ∈ l) : St H (InW k :: R) w := h.also fun _ hw x hx => hw _ m.mem x (hk x hx)
def rsV (m : Int) : Int := bif decide (m = 1000000) then -1 else m
theorem Zd7 (s : List Int) (aS : Option Addr) (cs : Nat) (t : List Int) (aT : Option Addr) (ct : Nat) (hst : s.length ≤ t.length) (hs9 : s.length ≤ 1000000) (H : Zg) (R : Z6) [hS : MemRows aS 1 (Zm s) R] [hT : MemRows aT 1 (Zm t) R] :
    FnV Tryz.prog 116 [.slice aS s.length cs, .slice aT t.length ct] H R (.bool (Z1A s.length s t)) := by
 refine Zy Tryz.func116 rfl Tryz.ntmps116 rfl ?_
 refine sqt 1 rfl (pur 1 rfl (Z0 (sqt 1 rfl (pur 1 rfl (Z3 ?_)))))
 refine Zj (ι := {k : Nat // k ≤ s.length ∧ ∀ j < k, na s j ≤ na t j}) (fun k => ⟨[(0, .slice aS s.length cs), (1, .slice aT t.length ct), (5, .int .i64 k.1)], H, R⟩) (fun k => s.length - k.1) ⟨0, Nat.zero_le _, fun j hj => absurd hj (Nat.not_lt_zero _)⟩ ?_ (fun k => ?_)
 exact Zr idH
 obtain ⟨k, hk, hin⟩ := k
 dsimp only at hk hin ⊢
 refine Z0 (sqt 4 rfl (pur 2 rfl (sp rfl (PE.lenSl Z0n rfl) rfl (pur 1 rfl ?_))))
 refine Z2 rfl ?_ ?_ <;> intro hc0 <;> try simp only [cS] at hc0
 refine Zl (a := aS) (sz := 1) (rows := Zm s) (ne0 (by rw [Zd]; omega)) (fun b1 o1 he => ?_)
 subst he
 refine Zl (a := aT) (sz := 1) (rows := Zm t) (ne0 (by rw [Zd]; omega)) (fun b2 o2 he => ?_)
 subst he
 refine Z1 (Z0 (Z3 (Z0 ?_)))
 refine Zi [0, 0, 3, 7, 0, 0, 48, 112, 255] (tks 0 3 (.ld 3 (tks 4 3 (.ld 7 (.tk 8 .done))))) ZH (by kernel_rfl) ?_
 refine Zp 2 rfl (tk rfl (PE.indexAddr Z28 rfl rfl (by omega) (by omega)) rfl (ld rfl rfl (lf0 sc3 (Z0v (Z0f (l := s) (k := k) (by omega))) rfl) rfl (Zp 2 rfl (tk rfl (PE.indexAddr Z28 rfl rfl (by omega) (by omega)) rfl (ld rfl rfl (lf0 sc3 (Z0v (Z0f (l := t) (k := k) (by omega))) rfl) rfl (Zp 1 rfl ?_))))))
 refine Z2 rfl ?_ ?_ <;> intro hc1 <;> try simp only [cS] at hc1
 have hun := Zbd (n := s.length) (s := s) (t := t) (k := k) (by omega) hc1
 refine sqt 1 rfl (pur 1 rfl (Z4 ?_))
 exact rtA rfl rfl rfl ⟨by rw [hun]; rfl, rfl, rfl⟩ idH
 have hin2 : ∀ j < k + 1, na s j ≤ na t j := fun j hj => by
   rcases Nat.lt_or_ge j k with h1 | h1
   · exact hin j h1
   · obtain rfl : j = k := by omega
     exact hc1
 refine Z1 (sqr 3 rfl (pur 1 rfl (sp rfl (PE.add rfl rfl (by omega)) rfl (pur 1 rfl ?_))))
 exact Zn ⟨k + 1, by omega, hin2⟩ idH
 obtain rfl : k = s.length := by omega
 have hun : Z1A s.length s t = true := undP_iff.2 hin
 refine Zb (Zf (Zf (ZB (sqt 1 rfl (pur 1 rfl (Z4 ?_))))))
 exact rtA rfl rfl rfl ⟨by rw [hun]; rfl, rfl, rfl⟩ idH
theorem ZbU (W : List WE) (aw : Option Addr) (cw : Nat) (hwl : W.length ≤ 1000000) (t : List Int) (aT : Option Addr) (ct : Nat) (htl : t.length ≤ 1000000) (hwn : ∀ x ∈ W, x.l.length = t.length ∧ 0 ≤ x.d ∧ x.d ≤ 20000) (H : Zg) (R : Z6) [hW : MemRows aw 2 (ZC W) R] [hN : MemF (InW W) R] [hT : MemRows aT 1 (Zm t) R] :
    FnV Tryz.prog 106 [.slice aw W.length cw, .slice aT t.length ct] H R (.int .i64 (rsV (Z1o t.length (wls W) t))) := by
 refine Zy Tryz.func106 rfl Tryz.ntmps106 rfl ?_
 refine sqt 1 rfl (pur 1 rfl (sqt 1 rfl (pur 1 rfl (Z0 (sqt 1 rfl (pur 1 rfl (Z3 ?_)))))))
 refine Zj (ι := {y : Nat × Int // y.1 ≤ W.length ∧ y.2 = Z1o t.length (wls (W.take y.1)) t ∧ (y.2 = 1000000 ∨ 0 ≤ y.2 ∧ y.2 ≤ 20000)}) (fun y => ⟨[(0, .slice aw W.length cw), (1, .slice aT t.length ct), (5, .int .i64 (rsV y.1.2)), (6, .int .i64 y.1.1)], H, R⟩) (fun y => W.length - y.1.1) ⟨(0, 1000000), Nat.zero_le _, rfl, .inl rfl⟩ ?_ (fun y => ?_)
 exact Zr idH
 obtain ⟨⟨i, m⟩, hi, hm, hmr⟩ := y
 dsimp only at hi hm hmr ⊢
 have hrs : (m = 1000000 ∧ rsV m = -1) ∨ (m ≤ 20000 ∧ rsV m = m) := by
   unfold rsV
   by_cases h : m = 1000000
   · rw [dT h]; exact .inl ⟨h, rfl⟩
   · rw [dF h]; exact .inr ⟨by omega, rfl⟩
 refine Z0 (sqt 4 rfl (pur 2 rfl (sp rfl (PE.lenSl Z9d rfl) rfl (pur 1 rfl ?_))))
 refine Z2 rfl ?_ ?_ <;> intro hc0 <;> try simp only [cS] at hc0
 obtain ⟨x, hx⟩ : ∃ x, W[i]? = some x := ⟨_, List.getElem?_eq_getElem (by omega)⟩
 have hxm := List.mem_of_getElem? hx
 obtain ⟨hxl, hxd⟩ := hwn x hxm
 have hnx : Z1o t.length (wls (W.take (i + 1))) t = bif Z1A t.length t x.l then min m x.d else m := by rw [ZK hx, Z3U, show wls [x] = [(x.l, x.d)] from rfl, Z7w, ← hm]; rfl
 refine Zl (a := aw) (sz := 2) (rows := ZC W) (ne0 (by rw [ZM]; omega)) (fun bw ow he => ?_)
 subst he
 refine Sy.heap (fun w h => St.inwAt (x := x) h hxm) ?_
 refine Z1 (Z0 (Z3 (sqt 20 rfl (pur 3 rfl (sp rfl (PE.indexAddr Z6v rfl rfl (by omega) (by omega)) rfl (sp rfl (PE.fA Z5Q rfl) rfl (spL rfl rfl (lf (j := 0) (row := Z0y x) Z2g (Z0r hx) rfl) rfl ?_)))))))
 refine clV rfl Zfn rfl rfl (Zd7 t aT ct x.l x.a x.c (by omega) htl _ _) ?_
 refine pur 1 rfl ?_
 refine Zh 20 rfl ?_ ?_ <;> intro g20
 rw [show Z1A t.length t x.l = true from g20, cond_true] at hnx
 refine pur 3 rfl ?_
 refine Zh 23 rfl ?_ ?_ <;> intro g23
 simp only [decide_eq_true_eq] at g23
 have hfin : Z1o t.length (wls (W.take (i + 1))) t = x.d ∧ rsV x.d = x.d := ⟨by rw [hnx]; omega, by unfold rsV; rw [dF (by omega)]; rfl⟩
 refine pur 9 rfl ?_
 refine Zq rfl ?_
 refine sqr 6 rfl (pur 2 rfl (sp rfl (PE.indexAddr Z6v rfl rfl (by omega) (by omega)) rfl (sp rfl (PE.fA Z4y rfl) rfl (spL rfl rfl (lf (j := 1) (row := Z0y x) sc3 (Z0r hx) rfl) rfl (pur 1 rfl (sqr 3 rfl (pur 1 rfl (sp rfl (PE.add rfl rfl (by omega)) rfl (pur 1 rfl ?_)))))))))
 first
   | exact ZW ⟨(i + 1, x.d), by dsimp only; omega, hfin.1.symm, by dsimp only; omega⟩ (by dsimp only; omega) (by dsimp only; rw [hfin.2]; exact (by repeat' first | exact Sub.nil | apply Sub.cons | rfl | (simp [lk]; omega))) (fun w h => h.ftail)
   | exact Ze ⟨(i + 1, m), by dsimp only; omega, (hnx.trans (by first | rfl | omega)).symm, hmr⟩ (by dsimp only; omega) (fun w h => h.ftail)
 simp only [decide_eq_false_iff_not] at g23
 refine pur 2 rfl ?_
 refine spG rfl rfl rfl rfl (PE.indexAddr Z6v rfl rfl (by omega) (by omega)) rfl ?_
 refine spG rfl rfl rfl rfl (PE.fA Z4y rfl) rfl ?_
 refine Z0o rfl rfl rfl rfl rfl (lf (j := 1) (row := Z0y x) sc3 (Z0r hx) rfl) rfl (pur 4 rfl ?_)
 refine Z2 rfl ?_ ?_ <;> intro hc1 <;> try simp only [cS] at hc1
 have hfin : Z1o t.length (wls (W.take (i + 1))) t = x.d ∧ rsV x.d = x.d := ⟨by rw [hnx]; omega, by unfold rsV; rw [dF (by omega)]; rfl⟩
 refine sqr 6 rfl (pur 2 rfl (sp rfl (PE.indexAddr Z6v rfl rfl (by omega) (by omega)) rfl (sp rfl (PE.fA Z4y rfl) rfl (spL rfl rfl (lf (j := 1) (row := Z0y x) sc3 (Z0r hx) rfl) rfl (pur 1 rfl (sqr 3 rfl (pur 1 rfl (sp rfl (PE.add rfl rfl (by omega)) rfl (pur 1 rfl ?_)))))))))
 first
   | exact ZW ⟨(i + 1, x.d), by dsimp only; omega, hfin.1.symm, by dsimp only; omega⟩ (by dsimp only; omega) (by dsimp only; rw [hfin.2]; exact (by repeat' first | exact Sub.nil | apply Sub.cons | rfl | (simp [lk]; omega))) (fun w h => h.ftail)
   | exact Ze ⟨(i + 1, m), by dsimp only; omega, (hnx.trans (by first | rfl | omega)).symm, hmr⟩ (by dsimp only; omega) (fun w h => h.ftail)
 have hfin : Z1o t.length (wls (W.take (i + 1))) t = m := by rw [hnx]; omega
 refine Z1 (sqr 3 rfl (pur 1 rfl (sp rfl (PE.add rfl rfl (by omega)) rfl (pur 1 rfl ?_))))
 first
   | exact ZW ⟨(i + 1, x.d), by dsimp only; omega, hfin.1.symm, by dsimp only; omega⟩ (by dsimp only; omega) (by dsimp only; rw [hfin.2]; exact (by repeat' first | exact Sub.nil | apply Sub.cons | rfl | (simp [lk]; omega))) (fun w h => h.ftail)
   | exact Ze ⟨(i + 1, m), by dsimp only; omega, (hnx.trans (by first | rfl | omega)).symm, hmr⟩ (by dsimp only; omega) (fun w h => h.ftail)
 rw [show Z1A t.length t x.l = false from g20, cond_false] at hnx
 refine pur 3 rfl ?_
 repeat refine spU rfl rfl rfl rfl rfl rfl rfl ?_
 refine pur 2 rfl ?_
 refine ZG rfl ?_
 refine Z1 (sqr 3 rfl (pur 1 rfl (sp rfl (PE.add rfl rfl (by omega)) rfl (pur 1 rfl ?_))))
 first
   | exact ZW ⟨(i + 1, x.d), by dsimp only; omega, hfin.1.symm, by dsimp only; omega⟩ (by dsimp only; omega) (by dsimp only; rw [hfin.2]; exact (by repeat' first | exact Sub.nil | apply Sub.cons | rfl | (simp [lk]; omega))) (fun w h => h.ftail)
   | exact Ze ⟨(i + 1, m), by dsimp only; omega, (hnx.trans (by first | rfl | omega)).symm, hmr⟩ (by dsimp only; omega) (fun w h => h.ftail)
 obtain rfl : i = W.length := by omega
 rw [List.take_length] at hm
 subst hm
 refine Zb (Zf (Zf (ZB (sqt 2 rfl (pur 2 rfl (Z4 ?_))))))
 exact rtA rfl rfl rfl ⟨rfl, rfl, rfl⟩ idH
theorem Zde : cal Tryz.prog 106 = true := by kernel_rfl
theorem Zgm {n lo hi : Int} (h : nin n lo hi = true) : inB n lo hi = false := by
  cases hb : inB n lo hi with
  | false => rfl
  | true => rw [Z1t, hb] at h; cases h
theorem Zgt {n lo hi : Int} (h : nin n lo hi = false) : inB n lo hi = true := by
  cases hb : inB n lo hi with
  | true => rfl
  | false => rw [Z1t, hb] at h; cases h
theorem Z7g {m : Int} (h : m = 1000000 ∨ m ≤ 20000) : (m = 1000000 ∧ rsV m = -1) ∨ (m ≠ 1000000 ∧ rsV m = m) := by
  unfold rsV
  by_cases h1 : m = 1000000
  · rw [decide_eq_true h1]; exact .inl ⟨h1, rfl⟩
  · rw [decide_eq_false h1]; exact .inr ⟨h1, rfl⟩
theorem Z67 {b : Barn} {W : WL} (h : ∀ y ∈ W, Z1w b y = 0) (n : Nat) (t : List Int) : 0 ≤ Z1o n W t ∧ (Z1o n W t = 1000000 ∨ Z1o n W t ≤ 20000) := by
  by_cases h0 : Z1o n W t = 1000000
  · exact ⟨by omega, .inl h0⟩
  · obtain ⟨s, hs, _, h2⟩ := Z87 h0
    have := (Z0D (h s hs)).2.1
    omega
theorem Z72 (W : List WE) (aw : Option Addr) (cw : Nat) (hwl : W.length ≤ 1000000) (t : List Int) (n : Nat) (hn : t.length = n) (aT : Option Addr) (ct : Nat) (htl : n ≤ 1000000) (hwn : ∀ x ∈ W, x.l.length = n ∧ 0 ≤ x.d ∧ x.d ≤ 20000) (H : Zg) (R : Z6) [hW : MemRows aw 2 (ZC W) R] [hN : MemF (InW W) R] [hT : MemRows aT 1 (Zm t) R] : FnV Tryz.prog 106 [.slice aw W.length cw, .slice aT n ct] H R (.int .i64 (rsV (Z1o n (wls W) t))) := by
  subst hn; exact ZbU W aw cw hwl t aT ct htl hwn H R
theorem Z90 (b : Barn) (ab : Option Addr) (cb : Nat) (hok : b.ok) (W : List WE) (aw : Option Addr) (cw : Nat) (hwl : W.length ≤ 1000000) (hwx : ∀ x ∈ W, x.l.length ≤ 1000000) (H : Zg) (R : Z6) [hB : MemRows ab 4 (Z7 b.bins) R] [hW : MemRows aw 2 (ZC W) R] [hN : MemF (InW W) R] :
    FnV Tryz.prog 73 [b.v (b.sl ab cb), .slice aw W.length cw] H R (.tuple #[.int .i64 (Z3E b (wls W)).1, .int .i64 (Z3E b (wls W)).2]) := by
 have hmn := hok.many
 have hdk := b.dsk_ok hok
 have hp16 := Z4h hmn.2
 refine Zy Tryz.func73 rfl Tryz.ntmps73 rfl ?_
 refine sqt 3 rfl (bx rfl rfl rfl (fun b2 => pur 2 rfl (Z0 (sqt 3 rfl ?_))))
 obtain ⟨z0, hx⟩ : ∃ x, b.bins[0]? = some x := ⟨_, List.getElem?_eq_getElem (by omega)⟩
 refine Zl (a := ab) (sz := 4) (rows := Z7 b.bins) (by intro h0; simp [Z7] at h0; simp [h0] at hx) (fun ba oa he => ?_)
 subst he
 clear hx
 refine pur 1 rfl (sp rfl (PE.lenSl Z9d rfl) rfl ?_)
 refine clV rfl Z4g rfl rfl (Z49 _ _ _ _ _) ?_
 refine Z2 rfl ?_ ?_ <;> intro hc0
 have hil : inB ((wls W).length : Int) 1 20000 = false := by rw [Z0F]; exact Zgm hc0
 have he2 := Z7D (b := b) hil
 have hsv : Z3E b (wls W) = (0, 2) := by rw [Z6D (by rw [he2]; decide), he2]
 refine sqt 2 rfl (pur 2 rfl (Z4 ?_))
 exact rtB rfl rfl rfl rfl ⟨by rw [hsv]; rfl, rfl, rfl⟩ drp
 have hil : inB ((wls W).length : Int) 1 20000 = true := by rw [Z0F]; exact Zgt hc0
 have hil2 : 1 ≤ W.length ∧ W.length ≤ 20000 := by rw [Z0F] at hil; simp [inB] at hil; omega
 refine Zl (a := aw) (sz := 2) (rows := ZC W) (ne0 (by rw [ZM]; omega)) (fun bw ow he => ?_)
 subst he
 refine Z1 (Z0 (sqt 1 rfl (pur 1 rfl (Z3 ?_))))
 refine Zj (ι := {i : Nat // i ≤ W.length ∧ ∀ y ∈ (wls W).take i, Z1w b y = 0}) (fun i => ⟨[(1, .slice (some ⟨bw, ow, none⟩) W.length cw), (2, .pointer (some ⟨b2, 0, none⟩)), (6, .int .i64 i.1)], (b2, cel 84 (btl b (b.sl (some ⟨ba, oa, none⟩) cb))) :: H, R⟩) (fun i => W.length - i.1) ⟨0, Nat.zero_le _, by simp⟩ ?_ (fun i => ?_)
 exact Zr idH
 obtain ⟨i, hi, hpre⟩ := i
 dsimp only at hi hpre ⊢
 refine Z0 (sqt 4 rfl (pur 2 rfl (sp rfl (PE.lenSl Z9d rfl) rfl (pur 1 rfl ?_))))
 refine Z2 rfl ?_ ?_ <;> intro hc1 <;> try simp only [cS] at hc1
 obtain ⟨x, hx⟩ : ∃ x, W[i]? = some x := ⟨_, List.getElem?_eq_getElem (by omega)⟩
 have hxm := List.mem_of_getElem? hx
 have hxl9 := hwx x hxm
 have hpe : ∀ e, Z1w b (x.l, x.d) = e → e ≠ 0 → Z3E b (wls W) = (0, e) := fun e h1 h2 => by
   have h3 := Z9x hil (Z1f hx) hpre (by rw [h1]; exact h2)
   rw [Z6D (by rw [h3, h1]; exact h2), h3, h1]
 refine Z1 (Z0 (Z3 (Z0 (Z0 ?_))))
 refine Zi [0, 0, 3, 7, 15, 31, 0, 64, 192, 511] (tks 0 4 (.ld 4 (.tk 5 (.tk 6 (.ld 7 (.tk 8 (.tk 9 .done))))))) ZH (by kernel_rfl) ?_
 refine Zp 2 rfl (tk rfl (PE.indexAddr Z6v rfl rfl (by omega) (by omega)) rfl (tk rfl (PE.fA Z5Q rfl) rfl (ld rfl rfl (lf (j := 0) (row := Z0y x) Z2g (Z0r hx) rfl) rfl (tk rfl (PE.lenSl Z0n rfl) rfl (tk rfl (PE.fA Z0J rfl) rfl (ld rfl rfl (lh Z4C rfl rfl) rfl (tk rfl (PE.lenSl Z5i rfl) rfl (Zp 1 rfl ?_))))))))
 refine Z2 rfl ?_ ?_ <;> intro hc2 <;> try simp only [cS] at hc2
 have hsv := hpe 2 (Z6R (s := (x.l, x.d)) (by dsimp only; omega)) (by decide)
 refine sqt 2 rfl (pur 2 rfl (Z4 ?_))
 exact rtB rfl rfl rfl rfl ⟨by rw [hsv]; rfl, rfl, rfl⟩ drp
 have hxl : x.l.length = b.bins.length := by omega
 refine Z1 (Z0 (sqt 6 rfl (pur 2 rfl (sp rfl (PE.indexAddr Z6v rfl rfl (by omega) (by omega)) rfl (sp rfl (PE.fA Z4y rfl) rfl (spL rfl rfl (lf (j := 1) (row := Z0y x) sc3 (Z0r hx) rfl) rfl ?_))))))
 refine clV rfl Z4g rfl rfl (Z49 _ _ _ _ _) ?_
 refine Z2 rfl ?_ ?_ <;> intro hc3
 have hsv := hpe 3 (Z5r (s := (x.l, x.d)) hxl (Zgm hc3)) (by decide)
 refine sqt 2 rfl (pur 2 rfl (Z4 ?_))
 exact rtB rfl rfl rfl rfl ⟨by rw [hsv]; rfl, rfl, rfl⟩ drp
 have hxd : inB x.d 0 20000 = true := Zgt hc3
 refine Sy.heap (fun w h => St.inwAt (x := x) h hxm) ?_
 refine Zl (a := x.a) (sz := 1) (rows := Zm x.l) (ne0 (by rw [Zd]; omega)) (fun bx ox he => ?_)
 rw [he]
 refine Z1 (sqt 1 rfl (pur 1 rfl (Z3 ?_)))
 refine Zj (ι := {k : Nat // k ≤ b.bins.length ∧ ∀ j < k, Z2X b j (na x.l j) = false}) (fun k => ⟨[(1, .slice (some ⟨bw, ow, none⟩) W.length cw), (2, .pointer (some ⟨b2, 0, none⟩)), (6, .int .i64 i), (7, .int .i64 k.1)], (b2, cel 84 (btl b (b.sl (some ⟨ba, oa, none⟩) cb))) :: H, Z5 (some ⟨bx, ox, none⟩) 1 (Zm x.l) :: R⟩) (fun k => b.bins.length - k.1) ⟨0, Nat.zero_le _, fun j hj => absurd hj (Nat.not_lt_zero _)⟩ ?_ (fun k => ?_)
 exact Zr idH
 obtain ⟨k, hk, hbl⟩ := k
 dsimp only at hk hbl ⊢
 refine Z0 (sqt 5 rfl (pur 1 rfl (sp rfl (PE.fA Z0J rfl) rfl (spL rfl rfl (lh Z4C rfl rfl) rfl (sp rfl (PE.lenSl Z5i rfl) rfl (pur 1 rfl ?_))))))
 refine Z2 rfl ?_ ?_ <;> intro hc4 <;> try simp only [cS] at hc4
 obtain ⟨z, hz⟩ : ∃ z, b.bins[k]? = some z := ⟨_, List.getElem?_eq_getElem (by omega)⟩
 have hzo := hok.bins z (List.mem_of_getElem? hz)
 have hbd : Z2X b k (na x.l k) = bif decide (na b.rise z.hi.toNat = 0) then decide (na x.l k ≠ 1000000) else !(inB (na x.l k) 0 10) := by unfold Z2X; rw [Z07 hz]; rfl
 have hm : ∀ j < k + 1, Z2X b k (na x.l k) = false → Z2X b j (na x.l j) = false := fun j hj h => by
   rcases Nat.lt_or_ge j k with h1 | h1
   · exact hbl j h1
   · obtain rfl : j = k := by omega
     exact h
 refine Z1 (Z0 (Z3 (Z0 ?_)))
 refine Zi [0, 0, 3, 7, 15, 0, 63, 127, 0, 256, 0, 1792, 3840, 7936, 16128, 0, 65280, 130816, 261888, 255, 1048575] (tks 0 4 (.ld 4 (.tk 5 (.tk 6 (.ld 7 (.tk 8 (.ld 9 (tks 10 4 (.ld 14 (.tk 15 (.tk 16 (.ld 17 (tks 18 3 .done))))))))))))) ZH (by kernel_rfl) ?_
 refine Zp 2 rfl (tk rfl (PE.indexAddr Z6v rfl rfl (by omega) (by omega)) rfl (tk rfl (PE.fA Z5Q rfl) rfl ?_))
 refine ld rfl rfl (lf (j := 0) (row := [.slice (some ⟨bx, ox, none⟩) x.l.length x.c, .int .i64 x.d]) Z2g (by refine (Z0r hx).trans ?_; unfold Z0y; rw [he]) rfl) rfl ?_
 refine Zp 1 rfl (tk rfl (PE.indexAddr Z28 rfl rfl (by omega) (by omega)) rfl (ld rfl rfl (lf0 sc3 (Z0v (Z0f (l := x.l) (k := k) (by omega))) rfl) rfl (tk rfl (PE.fA Z0J rfl) rfl (ld rfl rfl (lh Z4C rfl rfl) rfl (Zp 1 rfl (tk rfl (PE.indexAddr Zac rfl rfl (by omega) (by omega)) rfl (tk rfl (PE.fA Z2B rfl) rfl (tk rfl (PE.fA Z0e rfl) rfl (ld rfl rfl (lf (j := 3) sc3 (Z01 hz) rfl) rfl (tk rfl (PE.fA Z3u rfl) rfl (tk rfl (PE.indexArr Z5a rfl rfl (by omega) (by omega)) rfl (ld rfl rfl (lh sc3 rfl (ZdP (by omega))) rfl (Zp 3 rfl (sqt 13 rfl (pur 2 rfl ?_)))))))))))))))
 refine Zh 67 rfl ?_ ?_ <;> intro g67
 rw [show decide (na b.rise z.hi.toNat = 0) = true from g67, cond_true] at hbd
 refine pur 4 rfl ?_
 refine Zh 71 rfl ?_ ?_ <;> intro g71
 have hbv : Z2X b k (na x.l k) = true := hbd.trans g71
 refine pur 3 rfl ?_
 repeat refine spU rfl rfl rfl rfl rfl rfl rfl ?_
 refine pur 2 rfl ?_
 refine Zq rfl ?_
 refine sqt 2 rfl ?_
 have hsv := hpe 3 (Z3o (s := (x.l, x.d)) hxl hxd (k := k) (by omega) hbv) (by decide)
 refine pur 2 rfl (Z4 ?_)
 exact rtB rfl rfl rfl rfl ⟨by rw [hsv]; rfl, rfl, rfl⟩ (fun w h => (h.del b2).facts (fun g hg => by simp [hg]))
 have hbv : Z2X b k (na x.l k) = false := hbd.trans g71
 refine pur 3 rfl ?_
 refine Zh 74 rfl ?_ ?_ <;> intro g74
 exact absurd g74 (by rw [show decide (na b.rise z.hi.toNat = 0) = true from g67]; simp)
 refine pur 4 rfl ?_
 refine ZG rfl ?_
 refine Z1 (sqr 3 rfl (pur 1 rfl (sp rfl (PE.add rfl rfl (by omega)) rfl (pur 1 rfl ?_))))
 exact Zn ⟨k + 1, by omega, fun j hj => hm j hj hbv⟩ idH
 rw [show decide (na b.rise z.hi.toNat = 0) = false from g67, cond_false] at hbd
 refine pur 7 rfl ?_
 refine Zh 74 rfl ?_ ?_ <;> intro g74
 refine pur 1 rfl ?_
 refine Z0K rfl rfl rfl rfl Z4g rfl rfl (Z49 _ _ _ _ _) ?_
 refine pur 2 rfl ?_
 refine Z2 rfl ?_ ?_ <;> intro hc5
 have hbv : Z2X b k (na x.l k) = true := by rw [hbd, ← Z1t]; exact hc5
 refine sqt 2 rfl ?_
 have hsv := hpe 3 (Z3o (s := (x.l, x.d)) hxl hxd (k := k) (by omega) hbv) (by decide)
 refine pur 2 rfl (Z4 ?_)
 exact rtB rfl rfl rfl rfl ⟨by rw [hsv]; rfl, rfl, rfl⟩ (fun w h => (h.del b2).facts (fun g hg => by simp [hg]))
 have hbv : Z2X b k (na x.l k) = false := by rw [hbd, ← Z1t]; exact hc5
 refine Z1 (sqr 3 rfl (pur 1 rfl (sp rfl (PE.add rfl rfl (by omega)) rfl (pur 1 rfl ?_))))
 exact Zn ⟨k + 1, by omega, fun j hj => hm j hj hbv⟩ idH
 exact absurd g74 (by rw [show decide (na b.rise z.hi.toNat = 0) = false from g67]; simp)
 obtain rfl : k = b.bins.length := by omega
 have hst := Z6c (s := (x.l, x.d)) hxl hxd hbl
 refine Zb (Zf (Zf (ZB (sqr 3 rfl (pur 1 rfl (sp rfl (PE.add rfl rfl (by omega)) rfl (pur 1 rfl ?_)))))))
 exact Zn ⟨i + 1, by omega, Z3w (Z1f hx) hpre hst⟩ (fun w h => h.ftail)
 obtain rfl : i = W.length := by omega
 rw [List.take_of_length_le (by rw [Z0F]; exact Nat.le_refl _)] at hpre
 have hwe := Z6E hil hpre
 have hwz : ∀ x ∈ W, x.l.length = b.bins.length ∧ (0 ≤ x.d ∧ x.d ≤ 20000) ∧ ∀ k < b.bins.length, Z2X b k (na x.l k) = false := fun x hx => Z0D (hpre _ (Z1q hx))
 refine Zb (Zf (Zf (ZB (Z0 (sqt 1 rfl (pur 1 rfl (Z3 ?_)))))))
 refine Zj (ι := {i : Nat // i ≤ W.length ∧ ∀ y ∈ (wls W).take i, Z6Q b.dsk (wls W) y = true}) (fun i => ⟨[(1, .slice (some ⟨bw, ow, none⟩) W.length cw), (2, .pointer (some ⟨b2, 0, none⟩)), (10, .int .i64 i.1)], (b2, cel 84 (btl b (b.sl (some ⟨ba, oa, none⟩) cb))) :: H, R⟩) (fun i => W.length - i.1) ⟨0, Nat.zero_le _, by simp⟩ ?_ (fun i => ?_)
 exact Zr idH
 obtain ⟨i, hi, hws⟩ := i
 dsimp only at hi hws ⊢
 refine Z0 (sqt 4 rfl (pur 2 rfl (sp rfl (PE.lenSl Z9d rfl) rfl (pur 1 rfl ?_))))
 refine Z2 rfl ?_ ?_ <;> intro hc6 <;> try simp only [cS] at hc6
 obtain ⟨x, hx⟩ : ∃ x, W[i]? = some x := ⟨_, List.getElem?_eq_getElem (by omega)⟩
 have hxm := List.mem_of_getElem? hx
 obtain ⟨hxl, hxd, hxb⟩ := hwz x hxm
 have hxn : ∀ k < b.bins.length, 0 ≤ na x.l k ∧ na x.l k ≤ 1000000 := fun k hk => by
   have := Z84 (hxb k hk)
   by_cases h0 : b.worst (b.bins.getD k hb0) = 0
   · have := this.1 h0; omega
   · have := this.2 h0; omega
 have hsti := Zcm hdk (Z1C b) (W := wls W) (s := (x.l, x.d)) hxl
 refine Sy.heap (fun w h => St.inwAt (x := x) h hxm) ?_
 refine Z1 (Z0 (Z3 (sqt 1 rfl (pur 1 rfl (Z3 ?_)))))
 refine Zj (ι := {u : Nat // u ≤ 2 ^ b.bins.length ∧ ∀ v < u, ∀ t, rS b.dsk.n b.dsk.gangs (laL b) x.l v = some t → Z1o b.dsk.n (wls W) t < x.d}) (fun u => ⟨[(1, .slice (some ⟨bw, ow, none⟩) W.length cw), (2, .pointer (some ⟨b2, 0, none⟩)), (10, .int .i64 i), (11, .int .i64 u.1)], (b2, cel 84 (btl b (b.sl (some ⟨ba, oa, none⟩) cb))) :: H, Z5 x.a 1 (Zm x.l) :: R⟩) (fun u => 2 ^ b.bins.length - u.1) ⟨0, Nat.zero_le _, fun v hv => absurd hv (Nat.not_lt_zero _)⟩ ?_ (fun u => ?_)
 exact Zr idH
 obtain ⟨u, hu, hus⟩ := u
 dsimp only at hu hus ⊢
 refine Z0 (sqt 4 rfl (pur 1 rfl (spL rfl rfl (lhA (btl b (b.sl (some ⟨ba, oa, none⟩) cb)) Z1n rfl rfl rfl) rfl ?_)))
 refine clV rfl ZeO rfl rfl (Z83 b (some ⟨ba, oa, none⟩) cb hmn.2 _ _) ?_
 refine pur 1 rfl ?_
 refine Z2 rfl ?_ ?_ <;> intro hc7 <;> try simp only [cS] at hc7
 have hu16 : u < 16 := by omega
 have hum : (∀ t, rS b.dsk.n b.dsk.gangs (laL b) x.l u = some t → Z1o b.dsk.n (wls W) t < x.d) → ∀ v < u + 1, ∀ t, rS b.dsk.n b.dsk.gangs (laL b) x.l v = some t → Z1o b.dsk.n (wls W) t < x.d := fun h v hv => by
   rcases Nat.lt_or_ge v u with h1 | h1
   · exact hus v h1
   · obtain rfl : v = u := by omega
     exact h
 refine Z1 (Z0 (Z3 (Z0 ?_)))
 refine Zi [0, 0, 0, 6, 14, 30, 0, 127, 255] (.ld 0 (tks 1 4 (.ld 5 (.tk 6 (.big 7 (.tk 8 .done)))))) ZH (by kernel_rfl) ?_
 refine ld rfl rfl (lhA (btl b (b.sl (some ⟨ba, oa, none⟩) cb)) Z1n rfl rfl rfl) rfl (Zp 2 rfl (tk rfl (PE.indexAddr Z6v rfl rfl (by omega) (by omega)) rfl (tk rfl (PE.fA Z5Q rfl) rfl (ld rfl rfl (lf (j := 0) (row := Z0y x) Z2g (Z0r hx) rfl) rfl (Zp 1 rfl ?_)))))
 refine cl rfl ZeE rfl rfl (Z8d b (some ⟨ba, oa, none⟩) cb hok x.l x.a x.c hxl hxn u hu16 _ _) ?_
 rintro _ _ R1 ⟨rfl, (⟨hnx, rfl, hR1⟩ | ⟨t, bo, c, hnx, rfl, hR1⟩)⟩ <;> obtain rfl := hR1.symm <;> clear hR1
 refine bgT (Zp 1 rfl (Z0 (Z0 ?_)))
 refine Zi [0, 1, 3, 7, 15, 7, 39, 127, 255] (tks 0 4 (.tk 5 (.ld 6 (.big 4 (.tk 7 (.tk 8 .done)))))) ZH (by kernel_rfl) ?_
 refine Zp 1 rfl ?_
 have hsk : ∀ t, rS b.dsk.n b.dsk.gangs (laL b) x.l u = some t → Z1o b.dsk.n (wls W) t < x.d := fun t ht => by
   unfold rS at ht
   rw [show rNx (laL b) x.l u b.dsk.n = none from hnx] at ht
   cases h : decide (((Z04 4 u).length : Int) ≤ b.dsk.gangs) <;> rw [h] at ht <;> cases ht
 refine tk rfl (PE.eqlNil Z0n rfl rfl) rfl (Zp 3 rfl ?_)
 refine ldN rfl rfl rfl rfl rfl rfl rfl rfl ?_
 refine spN rfl rfl rfl rfl rfl rfl rfl rfl ?_
 refine bg (fun w hs => ⟨((fun _ _ => True.intro)) w hs, trivial⟩) ?_
 refine Zp 2 rfl ?_
 refine Zq rfl ?_
 refine Zb (Zf (ZB (sqr 3 rfl (pur 1 rfl (sp rfl (PE.add rfl rfl (by omega)) rfl (pur 1 rfl ?_))))))
 exact Zn ⟨u + 1, by omega, hum hsk⟩ (fun w h => h.facts SubF.sub)
 refine bgT (Zp 1 rfl (Z0 (Z0 ?_)))
 refine Zi [0, 1, 3, 7, 15, 7, 39, 127, 255] (tks 0 4 (.tk 5 (.ld 6 (.big 4 (.tk 7 (.tk 8 .done)))))) ZH (by kernel_rfl) ?_
 refine Zp 1 rfl ?_
 have htl : t.length = b.bins.length := Z33 hnx
 rw [htl]
 refine tk rfl (PE.eqlNil Z0n rfl rfl) rfl (Zp 2 rfl ?_)
 refine tkG rfl rfl rfl rfl (PE.fA Z2m rfl) rfl ?_
 refine ldG rfl rfl rfl rfl rfl (lh sc3 rfl rfl) rfl ?_
 refine Z0K rfl rfl rfl rfl Zc0 rfl rfl (Z65 u hu16 _ _) ?_
 refine bg (fun w hs => ⟨(lh sc3 rfl rfl) w hs, trivial⟩) ?_
 refine Zp 2 rfl ?_
 refine Z2 rfl ?_ ?_ <;> intro hc8 <;> try simp only [cS] at hc8
 have hsk : ∀ t, rS b.dsk.n b.dsk.gangs (laL b) x.l u = some t → Z1o b.dsk.n (wls W) t < x.d := fun t ht => by rw [ZeK (show b.dsk.gangs < _ from hc8)] at ht; cases ht
 refine Zb (Zf (ZB (sqr 3 rfl (pur 1 rfl (sp rfl (PE.add rfl rfl (by omega)) rfl (pur 1 rfl ?_))))))
 exact Zn ⟨u + 1, by omega, hum hsk⟩ (fun w h => h.facts SubF.sub)
 have hrs : rS b.dsk.n b.dsk.gangs (laL b) x.l u = some t := (Zb5 (show ¬ b.dsk.gangs < _ from Int.not_lt.2 hc8)).trans hnx
 have hrr := Z67 hpre b.bins.length t
 have hrc := Z7g hrr.2
 have hno : ¬ Z1o b.bins.length (wls W) t < x.d → Z3E b (wls W) = (0, 8) := fun h => ZdB hwe (Z1q hxm) (by
   cases hw : Z6Q b.dsk (wls W) (x.l, x.d) with
   | false => rfl
   | true => exact absurd (hsti.1 hw u (by show u < 2 ^ b.bins.length; omega) t hrs) h)
 refine Z1 (sqt 4 rfl (pur 2 rfl ?_))
 refine clV rfl Zde rfl rfl (Z72 W (some ⟨bw, ow, none⟩) cw hwl t b.bins.length htl (some ⟨bo, 0, none⟩) c (by omega) (fun y hy => by have := hwz y hy; omega) _ _) ?_
 refine pur 1 rfl (sqt 11 rfl (pur 3 rfl ?_))
 refine Zh 113 rfl ?_ ?_ <;> intro g113
 simp only [decide_eq_true_eq] at g113
 have hsv := hno (by omega)
 refine pur 8 rfl ?_
 refine Zq rfl ?_
 refine sqt 2 rfl (pur 2 rfl (Z4 ?_))
 exact rtB rfl rfl rfl rfl ⟨by rw [hsv]; rfl, rfl, rfl⟩ (fun w h => (h.del b2).facts (fun g hg => by simp [hg]))
 simp only [decide_eq_false_iff_not] at g113
 refine pur 3 rfl ?_
 refine spG rfl rfl rfl rfl (PE.indexAddr Z6v rfl rfl (by omega) (by omega)) rfl ?_
 refine spG rfl rfl rfl rfl (PE.fA Z4y rfl) rfl ?_
 refine Z0o rfl rfl rfl rfl rfl (lf (j := 1) (row := Z0y x) sc3 (Z0r hx) rfl) rfl (pur 2 rfl ?_)
 refine Z2 rfl ?_ ?_ <;> intro hc9 <;> try simp only [cS] at hc9
 have hsv := hno (by omega)
 refine sqt 2 rfl (pur 2 rfl (Z4 ?_))
 exact rtB rfl rfl rfl rfl ⟨by rw [hsv]; rfl, rfl, rfl⟩ (fun w h => (h.del b2).facts (fun g hg => by simp [hg]))
 have hsk : ∀ t, rS b.dsk.n b.dsk.gangs (laL b) x.l u = some t → Z1o b.dsk.n (wls W) t < x.d := fun t2 ht2 => by rw [hrs] at ht2; cases ht2; show Z1o b.bins.length (wls W) _ < x.d; omega
 refine Z1 (sqr 3 rfl (pur 1 rfl (sp rfl (PE.add rfl rfl (by omega)) rfl (pur 1 rfl ?_))))
 exact Zn ⟨u + 1, by omega, hum hsk⟩ (fun w h => h.facts SubF.sub)
 obtain rfl : u = 2 ^ b.bins.length := by omega
 refine Zb (Zf (Zf (ZB (sqr 3 rfl (pur 1 rfl (sp rfl (PE.add rfl rfl (by omega)) rfl (pur 1 rfl ?_)))))))
 exact Zn ⟨i + 1, by omega, Z3w (Z1f hx) hws (hsti.2 hus)⟩ (fun w h => h.ftail)
 obtain rfl : i = W.length := by omega
 rw [List.take_of_length_le (by rw [Z0F]; exact Nat.le_refl _)] at hws
 refine Zb (Zf (Zf (ZB (sqt 5 rfl (pur 1 rfl (spL rfl rfl (lhA (btl b (b.sl (some ⟨ba, oa, none⟩) cb)) Z1n rfl rfl rfl) rfl ?_))))))
 refine cl rfl ZdT rfl rfl (Z6F b (some ⟨ba, oa, none⟩) cb hok _ _) ?_
 rintro _ _ R1 ⟨ax, cx, rfl, rfl, hR1⟩
 obtain rfl := hR1.symm
 clear hR1
 have hbl := Z2t b
 have hrr := Z67 hpre b.bins.length (bgL b)
 have hrc := Z7g hrr.2
 have hpd : Z1o b.dsk.n (wls W) b.state = Z1o b.bins.length (wls W) (bgL b) := Z61 _ _ _
 refine clV rfl Zde rfl rfl (Z72 W (some ⟨bw, ow, none⟩) cw hwl (bgL b) b.bins.length hbl ax cx (by omega) (fun y hy => by have := hwz y hy; omega) _ _) ?_
 refine pur 1 rfl (Z0 (sqt 2 rfl (pur 2 rfl ?_)))
 refine Z2 rfl ?_ ?_ <;> intro hc10 <;> try simp only [cS] at hc10
 have hsv : Z3E b (wls W) = (0, 8) := Z6o hwe (by rw [hpd]; omega)
 refine sqt 2 rfl (pur 2 rfl (Z4 ?_))
 exact rtB rfl rfl rfl rfl ⟨by rw [hsv]; rfl, rfl, rfl⟩ (fun w h => (h.del b2).facts (fun g hg => by simp [hg]))
 have hsv : Z3E b (wls W) = (rsV (Z1o b.bins.length (wls W) (bgL b)), 0) := by
   rw [Z6q hwe hws (by rw [hpd]; omega), hpd]
   rcases hrc with h1 | h1
   · omega
   · rw [h1.2]
 refine Z1 (sqt 3 rfl (pur 3 rfl (Z4 ?_)))
 exact rtB rfl rfl rfl rfl ⟨by rw [hsv]; rfl, rfl, rfl⟩ (fun w h => (h.del b2).facts (fun g hg => by simp [hg]))
theorem Zdc : Z5G Tryz.prog 37 = some 2 := by kernel_rfl
theorem Zh9 : apT Tryz.prog 128 = some (149, 2, 32) := by kernel_rfl
theorem Zef : Z1h Tryz.prog 37 = some 2 := by kernel_rfl
theorem Z68 : elN Tryz.prog 32 = some 2 := by kernel_rfl
theorem Z1R : Z2R Tryz.prog 37 0 = some 0 := by kernel_rfl
theorem Z2j : Z2R Tryz.prog 37 1 = some 1 := by kernel_rfl
theorem Z2f : Z7W Tryz.prog 32 = true := by kernel_rfl
theorem Zhg : slE Tryz.prog 128 = some (149, 2) := by kernel_rfl
theorem Zh3 : Z0x Tryz.prog 149 = some ([.slice none 0 0, .int .i64 0]) := by kernel_rfl
theorem Z7c : Z0x Tryz.prog 37 = some ([.slice none 0 0, .int .i64 0]) := by kernel_rfl
theorem ZhJ {x : Bool} (h : (!x) = true) : x = false := by cases x <;> simp at h ⊢
theorem ZhC {x : Bool} (h : (!x) = false) : x = true := by cases x <;> simp at h ⊢
theorem Zf1 {b : Barn} {k : Nat} {v : Int} {z : HBin} (hz : b.bins[k]? = some z) (h : (decide (v = 1000000) != decide (b.worst z = 0)) = true) : Z2X b k v = true := by
  unfold Z2X
  rw [Z07 hz]
  by_cases h0 : b.worst z = 0 <;> by_cases h1 : v = 1000000 <;> simp [h0, h1] at h ⊢
  all_goals rfl
theorem ZeZ {b : Barn} {k : Nat} {v : Int} {z : HBin} (hz : b.bins[k]? = some z) (h : (decide (v = 1000000) != decide (b.worst z = 0)) = false) (hv : v = 1000000) : Z2X b k v = false := by
  unfold Z2X
  rw [Z07 hz]
  by_cases h0 : b.worst z = 0
  · rw [decide_eq_true h0, cond_true]; exact decide_eq_false (by simpa using hv)
  · rw [decide_eq_true hv, decide_eq_false h0] at h; cases h
theorem Zfl {b : Barn} {k : Nat} {v : Int} {z : HBin} (hz : b.bins[k]? = some z) (h : (decide (v = 1000000) != decide (b.worst z = 0)) = false) (hv : v ≠ 1000000) : Z2X b k v = !(inB v 0 10) := by
  unfold Z2X
  rw [Z07 hz]
  by_cases h0 : b.worst z = 0
  · rw [decide_eq_false hv, decide_eq_true h0] at h; cases h
  · rw [decide_eq_false h0]; rfl
theorem Z96 (W : List WE) (aw : Option Addr) (cw : Nat) (hwl : W.length ≤ 1000000) (H : Zg) (R : Z6) [hW : MemRows aw 2 (ZC W) R] :
    Fn Tryz.prog 74 [.slice aw W.length cw] H R (fun v H' R' => ∃ (a : Option Addr) (c : Nat), v = .slice a W.length c ∧ H' = H ∧ R' = Z5 a 2 (ZC W) :: R) := by
 refine Zy Tryz.func74 rfl Tryz.ntmps74 rfl ?_
 refine sqt 1 rfl (pur 1 rfl (sqt 1 rfl (pur 1 rfl (Z0 (sqt 3 rfl (pur 1 rfl (sp rfl (PE.lenSl Z2f rfl) rfl (pur 1 rfl (Z3 ?_)))))))))
 refine Zj (ι := (i : {i : Nat // i ≤ W.length}) × OSl 149 2 (ZC (W.take i.1))) (fun y => ⟨[(3, y.2.fs), (6, .slice aw W.length cw), (7, .int .i64 W.length), (8, .int .i64 y.1.1)], y.2.G ++ H, R⟩) (fun y => W.length - y.1.1) ⟨⟨0, Nat.zero_le _⟩, OSl.nil _ _⟩ ?_ (fun y => ?_)
 exact Zr idH
 obtain ⟨⟨i, hi⟩, o⟩ := y
 dsimp only at hi o ⊢
 refine sqt 1 rfl (pur 1 rfl (Z0 ?_))
 refine Z2 rfl ?_ ?_ <;> intro hc0 <;> try simp only [cS] at hc0
 obtain ⟨x, hx⟩ : ∃ x, W[i]? = some x := ⟨_, List.getElem?_eq_getElem (by omega)⟩
 have hxm := List.mem_of_getElem? hx
 refine Zl (a := aw) (sz := 2) (rows := ZC W) (ne0 (by rw [ZM]; omega)) (fun bw ow he => ?_)
 subst he
 refine Z1 (Z0 (Z3 (sqt 4 rfl (sp rfl (PE.indexAddr Z68 rfl rfl (by omega) (by omega)) rfl (spL rfl rfl (lfA Zdc (row := Z0y x) (Z0r hx) rfl) rfl (alc rfl Z7c rfl (fun b5 => ?_)))))))
 refine Z1b (l' := Z0y x) rfl rfl rfl Zef rfl rfl rfl rfl (nl rfl) ?_
 refine sqr 5 rfl (pur 1 rfl (spL rfl rfl (lhA (Z0y x) Zdc rfl rfl rfl) rfl ?_))
 refine bsl (out := [_, _]) rfl Zhg Zh3 rfl rfl rfl rfl rfl rfl (fun b14 => ?_)
 refine apO (o) rfl Zh9 rfl rfl (Z0W (row := Z0y x) rfl) rfl rfl ((by rw [ZM, List.length_take]; simp only [List.length_singleton]; omega)) rfl (fun o15 => ?_)
 refine pur 1 rfl (sqr 2 rfl (sp rfl (PE.add rfl rfl (by omega)) rfl (pur 1 rfl ?_)))
 exact Zn ⟨⟨i + 1, by omega⟩, o15.cast (by rw [ZK hx, Z1T]; rfl)⟩ (fun w h => (h.del b14).del b5)
 obtain rfl : i = W.length := by omega
 obtain ⟨a9, c9, he, hf⟩ := o.freeze
 rw [he, ZM, List.length_take, Nat.min_self]
 refine Sy.heap (fun w h => hf h) ?_
 clear he hf
 rw [List.take_length]
 refine Zb (Zf (Zf (ZB (sqt 2 rfl (pur 2 rfl (Z4 ?_))))))
 exact rtA rfl rfl rfl ⟨a9, c9, rfl, rfl, rfl⟩ idH
theorem Zea (b : Barn) (hok : b.ok) (ab : Option Addr) (cb bd m : Nat) (s t : HSt) (hs : s.length = 4) (ht : t.length = 4) (H : Zg) (R : Z6) [hD : MemRows (some ⟨bd, 0, none⟩) 18 [dcs b (b.sl ab cb) b.lasts b.most m] R] :
    FnV Tryz.prog 109 [.pointer (some ⟨bd, 0, none⟩), stv s, stv t] H R (.bool (Z1A b.bins.length s t)) := by
 have hmn := hok.many
 refine Zy Tryz.func109 rfl Tryz.ntmps109 rfl ?_
 refine sqt 3 rfl (bx rfl rfl rfl (fun b4 => bx rfl rfl rfl (fun b5 => pur 1 rfl (Z0 (sqt 7 rfl (pur 1 rfl (sp rfl (PE.nilCheck rfl) rfl (sp rfl (PE.fA Z1N rfl) rfl (sp rfl (PE.fA ZE rfl) rfl (spL rfl rfl (lfB (sz := 18) Z0C rfl) rfl (sp rfl (PE.lenSl Z0M rfl) rfl (pur 1 rfl (Z3 ?_)))))))))))))
 refine Zj (ι := {k : Nat // k ≤ b.bins.length ∧ ∀ j < k, na s j ≤ na t j}) (fun k => ⟨[(4, .pointer (some ⟨b4, 0, none⟩)), (5, .pointer (some ⟨b5, 0, none⟩)), (13, .int .i64 b.bins.length), (14, .int .i64 k.1)], (b5, cel 54 (ZI t)) :: (b4, cel 54 (ZI s)) :: H, R⟩) (fun k => b.bins.length - k.1) ⟨0, Nat.zero_le _, fun j hj => absurd hj (Nat.not_lt_zero _)⟩ ?_ (fun k => ?_)
 exact Zr idH
 obtain ⟨k, hk, hin⟩ := k
 dsimp only at hk hin ⊢
 refine sqt 1 rfl (pur 1 rfl (Z0 ?_))
 refine Z2 rfl ?_ ?_ <;> intro hc0 <;> try simp only [cS] at hc0
 refine Z1 (Z0 (Z3 (sqt 2 rfl (pur 2 rfl (Z0 ?_)))))
 refine Zi [0, 1, 3, 0, 8, 24, 63] (.tk 0 (.tk 1 (.ld 2 (.tk 3 (.tk 4 (.ld 5 (.tk 6 .done))))))) ZH (by kernel_rfl) ?_
 refine Zp 1 rfl (tk rfl (PE.indexArr Z2G rfl rfl (by omega) (by omega)) rfl (ld rfl rfl (lh sc3 rfl (Z3O (k := k) hs (by omega) (by show 0 + ((k : Nat) : Int).toNat * 1 = _; omega))) rfl (Zp 1 rfl (tk rfl (PE.indexArr Z2G rfl rfl (by omega) (by omega)) rfl (ld rfl rfl (lh sc3 rfl (Z3O (k := k) ht (by omega) (by show 0 + ((k : Nat) : Int).toNat * 1 = _; omega))) rfl (Zp 1 rfl ?_))))))
 refine Z2 rfl ?_ ?_ <;> intro hc1 <;> try simp only [cS] at hc1
 have hun := Zbd (n := b.bins.length) (s := s) (t := t) (k := k) (by omega) hc1
 refine sqt 1 rfl (pur 1 rfl (Z4 ?_))
 exact rtA rfl rfl rfl ⟨by rw [hun]; rfl, rfl, rfl⟩ (fun w h => (h.del b5).del b4)
 have hin2 : ∀ j < k + 1, na s j ≤ na t j := fun j hj => by
   rcases Nat.lt_or_ge j k with h1 | h1
   · exact hin j h1
   · obtain rfl : j = k := by omega
     exact hc1
 refine Z1 (sqr 2 rfl (sp rfl (PE.add rfl rfl (by omega)) rfl (pur 1 rfl ?_)))
 exact Zn ⟨k + 1, by omega, hin2⟩ idH
 obtain rfl : k = b.bins.length := by omega
 have hun : Z1A b.bins.length s t = true := undP_iff.2 hin
 refine Zb (Zf (Zf (ZB (sqt 1 rfl (pur 1 rfl (Z4 ?_))))))
 exact rtA rfl rfl rfl ⟨by rw [hun]; rfl, rfl, rfl⟩ (fun w h => (h.del b5).del b4)
theorem ZdZ (b : Barn) (hok : b.ok) (ab : Option Addr) (cb bd m : Nat) (W : List WE) (aw : Option Addr) (cw : Nat) (hwl : W.length ≤ 1000000) (hwx : ∀ x ∈ W, x.l.length ≤ 1000000) (H : Zg) (R : Z6) [hB : MemRows ab 4 (Z7 b.bins) R] [hD : MemRows (some ⟨bd, 0, none⟩) 18 [dcs b (b.sl ab cb) b.lasts b.most m] R] [hW : MemRows aw 2 (ZC W) R] [hN : MemF (InW W) R] :
    FnV Tryz.prog 107 [.pointer (some ⟨bd, 0, none⟩), .slice aw W.length cw] H R (.int .i64 (Z1H b (wls W))) := by
 have hmn := hok.many
 refine Zy Tryz.func107 rfl Tryz.ntmps107 rfl ?_
 refine sqt 1 rfl (pur 1 rfl (Z0 (sqt 4 rfl ?_)))
 obtain ⟨z0, hx⟩ : ∃ x, b.bins[0]? = some x := ⟨_, List.getElem?_eq_getElem (by omega)⟩
 refine Zl (a := ab) (sz := 4) (rows := Z7 b.bins) (by intro h0; simp [Z7] at h0; simp [h0] at hx) (fun ba oa he => ?_)
 subst he
 clear hx
 refine pur 1 rfl (sp rfl (PE.lenSl Z2f rfl) rfl ?_)
 refine clV rfl Z3R rfl rfl (Z9T _ _ _ _ _) ?_
 refine pur 1 rfl ?_
 refine Z2 rfl ?_ ?_ <;> intro hc0
 have hil : inB ((wls W).length : Int) 1 20000 = false := by rw [Z0F]; exact ZhJ hc0
 have hsv := Z7D (b := b) hil
 refine sqt 1 rfl (pur 1 rfl (Z4 ?_))
 exact rtA rfl rfl rfl ⟨by rw [hsv]; rfl, rfl, rfl⟩ idH
 have hil : inB ((wls W).length : Int) 1 20000 = true := by rw [Z0F]; exact ZhC hc0
 have hil2 : 1 ≤ W.length ∧ W.length ≤ 20000 := by rw [Z0F] at hil; simp [inB] at hil; omega
 refine Zl (a := aw) (sz := 2) (rows := ZC W) (ne0 (by rw [ZM]; omega)) (fun bw ow he => ?_)
 subst he
 refine Z1 (Z0 (sqt 3 rfl (pur 1 rfl (sp rfl (PE.lenSl Z2f rfl) rfl (pur 1 rfl (Z3 ?_))))))
 refine Zj (ι := {i : Nat // i ≤ W.length ∧ ∀ y ∈ (wls W).take i, Z1w b y = 0}) (fun i => ⟨[(0, .pointer (some ⟨bd, 0, none⟩)), (13, .slice (some ⟨bw, ow, none⟩) W.length cw), (14, .int .i64 W.length), (15, .int .i64 i.1)], H, R⟩) (fun i => W.length - i.1) ⟨0, Nat.zero_le _, by simp⟩ ?_ (fun i => ?_)
 exact Zr idH
 obtain ⟨i, hi, hpre⟩ := i
 dsimp only at hi hpre ⊢
 refine sqt 1 rfl (pur 1 rfl (Z0 ?_))
 refine Z2 rfl ?_ ?_ <;> intro hc1 <;> try simp only [cS] at hc1
 obtain ⟨x, hx⟩ : ∃ x, W[i]? = some x := ⟨_, List.getElem?_eq_getElem (by omega)⟩
 have hxm := List.mem_of_getElem? hx
 have hxl9 := hwx x hxm
 have hpe : ∀ e, Z1w b (x.l, x.d) = e → e ≠ 0 → Z1H b (wls W) = e := fun e h1 h2 => by
   have h3 := Z9x hil (Z1f hx) hpre (by rw [h1]; exact h2)
   rw [h3, h1]
 refine Z1 (Z0 (Z3 (sqt 4 rfl (sp rfl (PE.indexAddr Z68 rfl rfl (by omega) (by omega)) rfl (spL rfl rfl (lfA Zdc (row := Z0y x) (Z0r hx) rfl) rfl (alc rfl Z7c rfl (fun b6 => ?_)))))))
 refine Z1b (l' := Z0y x) rfl rfl rfl Zef rfl rfl rfl rfl (nl rfl) ?_
 refine Z0 (Z0 ?_)
 refine Zi [0, 1, 3, 0, 8, 24, 56, 120, 248, 511] (.tk 0 (.ld 1 (tks 2 5 (.ld 7 (.tk 8 (.tk 9 .done)))))) ZH (by kernel_rfl) ?_
 refine tk rfl (PE.fA Z1R rfl) rfl (ld rfl rfl (lh Z2g rfl rfl) rfl (tk rfl (PE.lenSl Z0n rfl) rfl (Zp 1 rfl (tk rfl (PE.nilCheck rfl) rfl (tk rfl (PE.fA Z1N rfl) rfl (tk rfl (PE.fA ZE rfl) rfl (ld rfl rfl (lfB (sz := 18) Z0C rfl) rfl (tk rfl (PE.lenSl Z0M rfl) rfl (Zp 1 rfl ?_)))))))))
 refine Z2 rfl ?_ ?_ <;> intro hc2 <;> try simp only [cS] at hc2
 have hsv := hpe 2 (Z6R (s := (x.l, x.d)) (by dsimp only; omega)) (by decide)
 refine sqt 1 rfl (pur 1 rfl (Z4 ?_))
 exact rtA rfl rfl rfl ⟨by rw [hsv]; rfl, rfl, rfl⟩ (fun w h => h.del b6)
 have hxl : x.l.length = b.bins.length := by omega
 refine Z1 (Z0 (sqt 4 rfl (sp rfl (PE.fA Z2j rfl) rfl (spL rfl rfl (lh sc3 rfl rfl) rfl ?_))))
 refine clV rfl Z3R rfl rfl (Z9T _ _ _ _ _) ?_
 refine pur 1 rfl ?_
 refine Z2 rfl ?_ ?_ <;> intro hc3
 have hsv := hpe 3 (Z5r (s := (x.l, x.d)) hxl (ZhJ hc3)) (by decide)
 refine sqt 1 rfl (pur 1 rfl (Z4 ?_))
 exact rtA rfl rfl rfl ⟨by rw [hsv]; rfl, rfl, rfl⟩ (fun w h => h.del b6)
 have hxd : inB x.d 0 20000 = true := ZhC hc3
 refine Sy.heap (H' := (b6, cel 37 [.slice x.a x.l.length x.c, .int .i64 x.d]) :: H) (fun w h => St.inwAt (x := x) h hxm) ?_
 refine Zl (a := x.a) (sz := 1) (rows := Zm x.l) (ne0 (by rw [Zd]; omega)) (fun bx ox he => ?_)
 rw [he]
 refine Z1 (sqt 4 rfl (sp rfl (PE.fA Z1R rfl) rfl (spL rfl rfl (lh Z2g rfl rfl) rfl (sp rfl (PE.lenSl Z0n rfl) rfl (pur 1 rfl (Z3 ?_))))))
 refine Zj (ι := {k : Nat // k ≤ b.bins.length ∧ ∀ j < k, Z2X b j (na x.l j) = false}) (fun k => ⟨[(0, .pointer (some ⟨bd, 0, none⟩)), (13, .slice (some ⟨bw, ow, none⟩) W.length cw), (14, .int .i64 W.length), (15, .int .i64 i), (34, .slice (some ⟨bx, ox, none⟩) x.l.length x.c), (35, .int .i64 x.l.length), (36, .int .i64 k.1)], (b6, cel 37 [.slice (some ⟨bx, ox, none⟩) x.l.length x.c, .int .i64 x.d]) :: H, Z5 (some ⟨bx, ox, none⟩) 1 (Zm x.l) :: R⟩) (fun k => b.bins.length - k.1) ⟨0, Nat.zero_le _, fun j hj => absurd hj (Nat.not_lt_zero _)⟩ ?_ (fun k => ?_)
 exact Zr idH
 obtain ⟨k, hk, hbl⟩ := k
 dsimp only at hk hbl ⊢
 refine sqt 1 rfl (pur 1 rfl (Z0 ?_))
 refine Z2 rfl ?_ ?_ <;> intro hc4 <;> try simp only [cS] at hc4
 obtain ⟨z, hz⟩ : ∃ z, b.bins[k]? = some z := ⟨_, List.getElem?_eq_getElem (by omega)⟩
 have hzo := hok.bins z (List.mem_of_getElem? hz)
 have hm2 : ∀ j < k + 1, Z2X b k (na x.l k) = false → Z2X b j (na x.l j) = false := fun j hj h => by
   rcases Nat.lt_or_ge j k with h1 | h1
   · exact hbl j h1
   · obtain rfl : j = k := by omega
     exact h
 refine Z1 (Z0 (Z3 (sqt 5 rfl (pur 1 rfl (sp rfl (PE.indexAddr Z28 rfl rfl (by omega) (by omega)) rfl (spL rfl rfl (lf0 sc3 (Z0v (Z0f (l := x.l) (k := k) (by omega))) rfl) rfl (pur 2 rfl (sqt 19 rfl (pur 3 rfl (sp rfl (PE.nilCheck rfl) rfl (sp rfl (PE.fA Z1N rfl) rfl (spL rfl rfl (ZhB (sz := 18) (btl b (b.sl (some ⟨ba, oa, none⟩) cb)) ZD rfl rfl) rfl (pur 1 rfl ?_)))))))))))))
 refine clV rfl Z9I rfl rfl (Z3S b (some ⟨ba, oa, none⟩) cb k z hz hzo.2.2.2 _ _) ?_
 refine pur 1 rfl (sp rfl (PE.neqBool ub4 rfl rfl) rfl (pur 1 rfl ?_))
 refine Zh 51 rfl ?_ ?_ <;> intro g51
 have hbv := Zf1 hz g51
 refine pur 3 rfl ?_
 repeat refine spU rfl rfl rfl rfl rfl rfl rfl ?_
 refine pur 2 rfl ?_
 refine Zq rfl ?_
 refine sqt 1 rfl ?_
 have hsv := hpe 3 (Z3o (s := (x.l, x.d)) hxl hxd (k := k) (by omega) hbv) (by decide)
 refine pur 1 rfl (Z4 ?_)
 first | exact rtA rfl rfl rfl ⟨by rw [hsv]; rfl, rfl, rfl⟩ (fun w h => (h.del b6).ftail) | exact rtA rfl rfl rfl ⟨by rw [hsv]; rfl, rfl, rfl⟩ idH
 refine pur 3 rfl ?_
 refine Zh 54 rfl ?_ ?_ <;> intro g54
 have hnum := Zfl hz g51 (of_decide_eq_true g54)
 refine pur 1 rfl ?_
 refine Z0K rfl rfl rfl rfl Z3R rfl rfl (Z9T _ _ _ _ _) ?_
 refine pur 3 rfl ?_
 refine Z2 rfl ?_ ?_ <;> intro hc5
 have hbv : Z2X b k (na x.l k) = true := hnum.trans hc5
 refine sqt 1 rfl ?_
 have hsv := hpe 3 (Z3o (s := (x.l, x.d)) hxl hxd (k := k) (by omega) hbv) (by decide)
 refine pur 1 rfl (Z4 ?_)
 first | exact rtA rfl rfl rfl ⟨by rw [hsv]; rfl, rfl, rfl⟩ (fun w h => (h.del b6).ftail) | exact rtA rfl rfl rfl ⟨by rw [hsv]; rfl, rfl, rfl⟩ idH
 have hbv : Z2X b k (na x.l k) = false := hnum.trans hc5
 refine Z1 (sqr 2 rfl (sp rfl (PE.add rfl rfl (by omega)) rfl (pur 1 rfl ?_)))
 exact Zn ⟨k + 1, by omega, fun j hj => hm2 j hj hbv⟩ idH
 have hbv := ZeZ hz g51 (by have := of_decide_eq_false g54; omega)
 refine pur 5 rfl ?_
 refine ZG rfl ?_
 refine Z1 (sqr 2 rfl (sp rfl (PE.add rfl rfl (by omega)) rfl (pur 1 rfl ?_)))
 exact Zn ⟨k + 1, by omega, fun j hj => hm2 j hj hbv⟩ idH
 obtain rfl : k = b.bins.length := by omega
 have hst := Z6c (s := (x.l, x.d)) hxl hxd hbl
 refine Zb (Zf (Zf (ZB (sqr 2 rfl (sp rfl (PE.add rfl rfl (by omega)) rfl (pur 1 rfl ?_))))))
 exact Zn ⟨i + 1, by omega, Z3w (Z1f hx) hpre hst⟩ (fun w h => (h.del b6).ftail)
 obtain rfl : i = W.length := by omega
 rw [List.take_of_length_le (by rw [Z0F]; exact Nat.le_refl _)] at hpre
 have hsv := Z6E hil hpre
 refine Zb (Zf (Zf (ZB (sqt 1 rfl (pur 1 rfl (Z4 ?_))))))
 first | exact rtA rfl rfl rfl ⟨by rw [hsv]; rfl, rfl, rfl⟩ (fun w h => (h.del b6).ftail) | exact rtA rfl rfl rfl ⟨by rw [hsv]; rfl, rfl, rfl⟩ idH
theorem Zgd : cal Tryz.prog 107 = true := by kernel_rfl
theorem Zdm : cal Tryz.prog 108 = true := by kernel_rfl
theorem Zg7 : cal Tryz.prog 109 = true := by kernel_rfl
theorem Zhm : Z1h Tryz.prog 153 = some 1 := by kernel_rfl
theorem Zg0 : Z1h Tryz.prog 33 = some 1 := by kernel_rfl
theorem ZgH : Tryz.prog.eqGuardType Tryz.prog.depth 54 = false := by kernel_rfl
theorem ZeX : Z45 Tryz.prog 153 = true := by kernel_rfl
theorem Ze6 : Z45 Tryz.prog 32 = true := by kernel_rfl
theorem Zf4 : Z45 Tryz.prog 33 = true := by kernel_rfl
theorem ZgN : Z0x Tryz.prog 153 = some ([.nilFunc]) := by kernel_rfl
theorem Zi6 : Z0x Tryz.prog 33 = some ([.int .i64 0]) := by kernel_rfl
section
variable {P : Program} {r : Option Nat} {ops : Array Oper} {n : Nat} {L : ZL} {D : List Deferred} {H : Zg} {R : Z6} {K : Act → World → Prop}
  {i d : Nat} {ty : TypeId} {pos : String} {af : Array Edge}
theorem ZgF {T T2 e s od : Nat} {x y : Operand} {b dl dc sc e2 : Nat} {l : List Value} {ax : Option Addr} {rows : List (List Value)} {H' : Zg}
    (ho : ops[i]? = some ⟨some d, .call { callee := .builtin .copy, args := #[x, y], argTypes := #[T, T2] }, ty, pos, af, none⟩) (hT : slE P T = some (e, s))
    (hx : ev L x = some (.slice (some ⟨b, od, none⟩) dl dc)) (hy : ev L y = some (.slice ax rows.length sc)) [mr : MemRows ax s rows R] (hl : ∀ q ∈ rows, q.length = s) (hle : rows.length ≤ dl)
    (h1 : rows.flatten.all (·.oneCell') = true) (hb : od + rows.flatten.length ≤ l.length) (hd : Nat.blt d n = true)
    [m : Mem1 b (cel e2 l) H] [rp : Rep [(b, cel e2 l)] [(b, cel e2 (spl l od rows.flatten))] H H']
    (h : Sy n ((d, .int .i64 rows.length) :: L) D H' R K) : Sy n L D H R (stp P r ops i K) := fun a w ha hD hs => by
  obtain ⟨ie, hu, hi, rfl⟩ := Z35 hT
  have hr := Z99 (P := P) (sc := sc) (hs.now mr.mem) hl hle
  have hst := Z5J (P := P) (e := e2) h1 hb (hs.held _ m.mem)
  refine Z00 ho (ZA _ rfl _) (v := .int .i64 rows.length) (w' := { w with heap := w.heap.setIfInBounds b (cel e2 (spl l od rows.flatten)) }) ?_
    (h _ _ (ha.put (by simpa using hd) _) hD (hs.rep (F := [(b, cel e2 l)]) (F' := [(b, cel e2 (spl l od rows.flatten))]) fun T hT => St.set hT))
  simp only [execOp, resolve, invoke, builtin, Sem.run_bind, Sem.run_pure, Result.andThen, List.map_toArray, List.map_cons, List.map_nil, ha.reads _ _ hx, ha.reads _ _ hy]
  have e1 : (Builtin.copy_ #[T, T2] ty #[.slice (some ⟨b, od, none⟩) dl dc, .slice ax rows.length sc]).run P w = .ok (goInt (rows.length : Nat)) { w with heap := w.heap.setIfInBounds b (cel e2 (spl l od rows.flatten)) } := by
    have e3 : (Builtin.firstCells ie.size rows.length (.slice ax rows.length sc)).run P w = .ok rows.flatten.toArray w := by
      rw [show Nat.min rows.length dl = rows.length from Nat.min_eq_left hle] at hr; exact hr
    simp [Builtin.copy_, run_underlying hu, Builtin.lenOf, sizeOf, typeInfo, hi, e3, hst, Nat.min_eq_left hle]
  rw [e1]
  rfl
end
def wpd (W : List WE) : List HSt := W.map fun x => pad x.l
theorem Z62 (W : List WE) : (wpd W).length = W.length := List.length_map _
theorem Zbx {W : List WE} {i : Nat} {x : WE} (h : W[i]? = some x) : (wpd W)[i]? = some (pad x.l) := by unfold wpd; rw [List.getElem?_map, h]; rfl
theorem st4 {l : List HSt} (h : ∀ s ∈ l, s.length = 4) : ∀ r ∈ Zx l, r.length = 4 := fun r hr => by
  obtain ⟨s, hs, rfl⟩ := List.mem_map.1 hr
  rw [Z8]; exact h s hs
def ZbJ (W : List WE) (i : Nat) : List Value := (Zx (wpd (W.take i))).flatten ++ (List.replicate (W.length - i) [Value.int .i64 0, .int .i64 0, .int .i64 0, .int .i64 0]).flatten
theorem Z5R {W : List WE} {n : Nat} (hn : n ≤ 4) (h : ∀ x ∈ W, x.l.length = n) : ∀ s ∈ wpd W, s.length = 4 := fun s hs => by
  obtain ⟨x, hx, rfl⟩ := List.mem_map.1 hs
  have := h x hx
  exact Z0Y (by omega)
theorem ZdR {p rest : List Value} {l : List Int} (hl : l.length ≤ 4) : spl (p ++ ([Value.int .i64 0, .int .i64 0, .int .i64 0, .int .i64 0] ++ rest)) p.length (ZI l) = p ++ (ZI (pad l) ++ rest) := by
  unfold spl
  rw [List.take_left, Z8, List.append_assoc]
  congr 1
  rw [show p.length + l.length = (p ++ ([] : List Value)).length + l.length by simp, List.append_nil, List.drop_append, List.drop_of_length_le (by omega), List.nil_append, show p.length + l.length - p.length = l.length by omega,
    List.drop_append_of_le_length (by simpa using hl)]
  rw [← List.append_assoc]
  congr 1
  have e : ([Value.int .i64 0, .int .i64 0, .int .i64 0, .int .i64 0] : List Value) = List.replicate 4 (.int .i64 0) := rfl
  rw [e, List.drop_replicate]
  unfold pad ZI
  rw [List.map_append, List.map_replicate]
theorem ZcK {W : List WE} {n i : Nat} {x : WE} (hn : n ≤ 4) (h : ∀ x ∈ W, x.l.length = n) (hx : W[i]? = some x) {o : Nat} (e : o = i * 4) : spl (ZbJ W i) o (Zm x.l).flatten = ZbJ W (i + 1) := by
  have hi := (List.getElem?_eq_some_iff.1 hx).1
  have hp : (Zx (wpd (W.take i))).flatten.length = i * 4 := by
    rw [Z0i (sz := 4) (st4 (Z5R hn fun x hx => h x (List.mem_of_mem_take hx))), ZT, Z62, List.length_take, Nat.min_eq_left (by omega)]
  unfold ZbJ
  rw [e, ← hp, show W.length - i = (W.length - (i + 1)) + 1 by omega, List.replicate_succ, List.flatten_cons, show (Zm x.l).flatten = ZI x.l from Z06 x.l, ZdR (by have := h x (List.mem_of_getElem? hx); omega), ZK hx]
  unfold wpd Zx
  rw [List.map_append, List.map_append, List.flatten_append, List.append_assoc]
  simp
theorem Zd9 {W : List WE} {n i : Nat} (hn : n ≤ 4) (h : ∀ x ∈ W, x.l.length = n) (hi : i ≤ W.length) : (ZbJ W i).length = W.length * 4 := by
  unfold ZbJ
  rw [List.length_append, Z0i (sz := 4) (st4 (Z5R hn fun x hx => h x (List.mem_of_mem_take hx))), ZT, Z62, List.length_take, Nat.min_eq_left hi, Z0i (sz := 4) (fun r hr => by rw [(List.mem_replicate.1 hr).2]; rfl), List.length_replicate]
  omega
theorem Z9W (l : List Int) : (Zm l).flatten.all (·.oneCell') = true := by rw [Z06]; exact Zu l
def Z7E (b : Barn) (W : WL) : Int × Int := bif decide (b.check = 0) then Z3E b W else (0, b.check)
theorem ZaB (n : Nat) (s : List Int) : Z1A n s s = true := undP_iff.2 fun _ _ => Int.le_refl _
theorem Z9e (b : Barn) (hok : b.ok) (ab : Option Addr) (cb bd m : Nat) (W : List WE) (aw : Option Addr) (cw : Nat) (bl b1 b2 b3 : Nat) (hwl : W.length ≤ 1000000) (hwz : ∀ x ∈ W, x.l.length = b.bins.length ∧ (0 ≤ x.d ∧ x.d ≤ 20000)) (t : HSt) (ht : t.length = 4) (H : Zg) (R : Z6) [hD : MemRows (some ⟨bd, 0, none⟩) 18 [dcs b (b.sl ab cb) b.lasts b.most m] R] [hW : MemRows aw 2 (ZC W) R] [h1 : MemRows (some ⟨b1, 0, none⟩) 1 [[.slice (some ⟨bl, 0, none⟩) W.length W.length]] R] [h2 : MemRows (some ⟨b2, 0, none⟩) 1 [[.pointer (some ⟨bd, 0, none⟩)]] R] [h3 : MemRows (some ⟨b3, 0, none⟩) 1 [[.slice aw W.length cw]] R] [h4 : MemRows (some ⟨bl, 0, none⟩) 4 (Zx (wpd W)) R] :
    FnV Tryz.prog 108 [stv t, .pointer (some ⟨b1, 0, none⟩), .pointer (some ⟨b2, 0, none⟩), .pointer (some ⟨b3, 0, none⟩)] H R (.int .i64 (Z1o b.bins.length (wls W) t)) := by
 have hmn := hok.many
 refine Zy Tryz.func108 rfl Tryz.ntmps108 rfl ?_
 refine sqt 2 rfl (bx rfl rfl rfl (fun b4 => pur 1 rfl (sqt 1 rfl (pur 1 rfl (Z0 (sqt 3 rfl (spL rfl rfl (lfB (sz := 1) Z2U rfl) rfl (sp rfl (PE.lenSl Z78 rfl) rfl (pur 1 rfl (Z3 ?_))))))))))
 refine Zj (ι := {y : Nat × Int // y.1 ≤ W.length ∧ y.2 = Z1o b.bins.length (wls (W.take y.1)) t}) (fun y => ⟨[(1, .pointer (some ⟨b1, 0, none⟩)), (2, .pointer (some ⟨b2, 0, none⟩)), (3, .pointer (some ⟨b3, 0, none⟩)), (4, .pointer (some ⟨b4, 0, none⟩)), (6, .int .i64 y.1.2), (9, .slice (some ⟨bl, 0, none⟩) W.length W.length), (10, .int .i64 W.length), (11, .int .i64 y.1.1)], (b4, cel 54 (ZI t)) :: H, R⟩) (fun y => W.length - y.1.1) ⟨(0, 1000000), Nat.zero_le _, rfl⟩ ?_ (fun y => ?_)
 exact Zr idH
 obtain ⟨⟨i, mi⟩, hi, hm⟩ := y
 dsimp only at hi hm ⊢
 refine sqt 1 rfl (pur 1 rfl (Z0 ?_))
 refine Z2 rfl ?_ ?_ <;> intro hc0 <;> try simp only [cS] at hc0
 obtain ⟨x, hx⟩ : ∃ x, W[i]? = some x := ⟨_, List.getElem?_eq_getElem (by omega)⟩
 have hxm := List.mem_of_getElem? hx
 obtain ⟨hxl, hxd⟩ := hwz x hxm
 have hpl : (pad x.l).length = 4 := Z0Y (by omega)
 have hnx : Z1o b.bins.length (wls (W.take (i + 1))) t = bif Z1A b.bins.length t (pad x.l) then min mi x.d else mi := by rw [ZK hx, Z3U, show wls [x] = [(x.l, x.d)] from rfl, Z7w, ← hm, Z6M]; rfl
 have hsr : (Zx (wpd W)).length = W.length := by rw [ZT, Z62]
 refine Zl (a := aw) (sz := 2) (rows := ZC W) (ne0 (by rw [ZM]; omega)) (fun bw ow he => ?_)
 subst he
 refine Z1 (Z0 (Z3 (sqt 6 rfl (pur 1 rfl (sp rfl (PE.indexAddr ZaZ rfl rfl (by omega) (by omega)) rfl (spL rfl rfl (lfA ZV (row := ZI (pad x.l)) (Z2E (Zbx hx)) (by rw [Z8]; exact hpl)) rfl (alc rfl Z1G rfl (fun b8 => pur 1 rfl ?_))))))))
 refine Z1I rfl rfl rfl Z1e rfl (by rw [Z8]; exact hpl) rfl (Zu _) ?_
 refine sqt 9 rfl (spL rfl rfl (lhI t ZV rfl rfl (ht)) rfl (spL rfl rfl (lhI (pad x.l) ZV rfl rfl (hpl)) rfl (sp rfl (PE.eqlAgg t (pad x.l) (Z1X 10000 54 true 4 Z0L) ZgH rfl rfl ht hpl) rfl (pur 1 rfl ?_))))
 refine Zh 19 rfl ?_ ?_ <;> intro g19
 have hun : Z1A b.bins.length t (pad x.l) = true := by rw [← of_decide_eq_true g19]; exact ZaB _ _
 refine pur 5 rfl ?_
 refine Zq rfl ?_
 refine sqr 8 rfl ?_
 rw [hun, cond_true] at hnx
 refine pur 1 rfl (spL rfl rfl (lfB (sz := 1) Ze6 rfl) rfl (pur 1 rfl (sp rfl (PE.indexAddr Z68 rfl rfl (by omega) (by omega)) rfl (sp rfl (PE.fA Z2j rfl) rfl (spL rfl rfl (lf (j := 1) (row := Z0y x) sc3 (Z0r hx) rfl) rfl (sp rfl (PE.min rfl rfl) rfl (pur 1 rfl (sqr 2 rfl (sp rfl (PE.add rfl rfl (by omega)) rfl (pur 1 rfl ?_))))))))))
 first
   | exact Ze ⟨(i + 1, min mi x.d), by dsimp only; omega, hnx.symm⟩ (by dsimp only; omega) (fun w h => h.del b8)
   | exact Ze ⟨(i + 1, mi), by dsimp only; omega, hnx.symm⟩ (by dsimp only; omega) (fun w h => h.del b8)
 refine Z0o rfl rfl rfl rfl rfl (lfB (sz := 1) Z0U rfl) rfl (Z0o rfl rfl rfl rfl rfl (lhI t ZV rfl rfl (ht)) rfl (Z0o rfl rfl rfl rfl rfl (lhI (pad x.l) ZV rfl rfl (hpl)) rfl ?_))
 refine Z0K rfl rfl rfl rfl Zg7 rfl rfl (Zea b hok ab cb bd m t (pad x.l) ht hpl _ _) ?_
 refine pur 1 rfl ?_
 refine Z2 rfl ?_ ?_ <;> intro hc1
 have hun : Z1A b.bins.length t (pad x.l) = true := hc1
 refine sqr 8 rfl ?_
 rw [hun, cond_true] at hnx
 refine pur 1 rfl (spL rfl rfl (lfB (sz := 1) Ze6 rfl) rfl (pur 1 rfl (sp rfl (PE.indexAddr Z68 rfl rfl (by omega) (by omega)) rfl (sp rfl (PE.fA Z2j rfl) rfl (spL rfl rfl (lf (j := 1) (row := Z0y x) sc3 (Z0r hx) rfl) rfl (sp rfl (PE.min rfl rfl) rfl (pur 1 rfl (sqr 2 rfl (sp rfl (PE.add rfl rfl (by omega)) rfl (pur 1 rfl ?_))))))))))
 first
   | exact Ze ⟨(i + 1, min mi x.d), by dsimp only; omega, hnx.symm⟩ (by dsimp only; omega) (fun w h => h.del b8)
   | exact Ze ⟨(i + 1, mi), by dsimp only; omega, hnx.symm⟩ (by dsimp only; omega) (fun w h => h.del b8)
 have hun : Z1A b.bins.length t (pad x.l) = false := hc1
 rw [hun, cond_false] at hnx
 refine Z1 (sqr 2 rfl (sp rfl (PE.add rfl rfl (by omega)) rfl (pur 1 rfl ?_)))
 first
   | exact Ze ⟨(i + 1, min mi x.d), by dsimp only; omega, hnx.symm⟩ (by dsimp only; omega) (fun w h => h.del b8)
   | exact Ze ⟨(i + 1, mi), by dsimp only; omega, hnx.symm⟩ (by dsimp only; omega) (fun w h => h.del b8)
 obtain rfl : i = W.length := by omega
 rw [List.take_length] at hm
 subst hm
 refine Zb (Zf (Zf (ZB (sqt 2 rfl (pur 2 rfl (Z4 ?_))))))
 exact rtA rfl rfl rfl ⟨rfl, rfl, rfl⟩ (fun w h => h.del b4)
theorem Zed (b : Barn) (ab : Option Addr) (cb : Nat) (hl : b.bins.length ≤ 9223372036854775807) (hr : b.rise.length = 6) (W : List WE) (aw : Option Addr) (cw : Nat) (hwl : W.length ≤ 1000000) (hwx : ∀ x ∈ W, x.l.length ≤ 1000000) (H : Zg) (R : Z6) [hB : MemRows ab 4 (Z7 b.bins) R] [hW : MemRows aw 2 (ZC W) R] [hN : MemF (InW W) R] :
    FnV Tryz.prog 75 [b.v (b.sl ab cb), .slice aw W.length cw] H R (.tuple #[.int .i64 (Z7E b (wls W)).1, .int .i64 (Z7E b (wls W)).2]) := by
 refine Z5C Tryz.func75 rfl Tryz.ntmps75 rfl ?_
 refine sqt 4 rfl (bx rfl rfl rfl (fun b2 => bx rfl rfl rfl (fun b3 => alc rfl zl3 rfl (fun b4 => alc rfl Zi6 rfl (fun b5 => sqt 8 rfl (spL rfl rfl (lhA (btl b (b.sl ab cb)) ZD rfl rfl rfl) rfl ?_))))))
 refine cl rfl Z9V rfl rfl (Z2H b ab cb hl hr _ _) ?_
 rintro _ _ _ (⟨hck, rfl, rfl, rfl⟩ | ⟨hck, bd, m, rfl, rfl, rfl⟩)
 refine pur 3 rfl (alc rfl Zf9 rfl (fun b6 => ?_))
 refine sto rfl rfl rfl Zf7 rfl rfl rfl rfl ?_
 refine pur 1 rfl (Z0 (sqt 2 rfl (pur 2 rfl ?_)))
 refine Zq (congrArg (fun b => some (Value.bool b)) (dT hck)) ?_
 refine sqt 3 rfl (pur 1 rfl ?_)
 refine sto rfl rfl rfl cn3 rfl rfl rfl rfl ?_
 refine sto rfl rfl rfl Zg0 rfl rfl rfl rfl ?_
 refine Z4 ?_
 have hsv : Z7E b (wls W) = (0, b.check) := by unfold Z7E; rw [dF hck]; rfl
 exact ZY [] idH rfl (.cons (RV.cell rfl (lh sc3 rfl rfl)) (.cons (RV.cell rfl (lh Zf4 rfl rfl)) .nil)) rfl ⟨by rw [hsv]; rfl, rfl, rfl⟩ (fun w h => ((((h.del b6).del b5).del b4).del b3).del b2)
 ·
  have hok := Barn.ok_of hr hck
  have hdk := b.dsk_ok hok
  have hl4 := hdk.lasts.len
  have hm4 := hdk.most.len
  refine pur 3 rfl (alc rfl Zf9 rfl (fun b6 => ?_))
  refine sto rfl rfl rfl Zf7 rfl rfl rfl rfl ?_
  refine pur 1 rfl (Z0 (sqt 2 rfl (pur 2 rfl ?_)))
  refine ZG (rfl) ?_
  refine Z1 (Z0 (sqt 4 rfl (spL rfl rfl (lh Z0U rfl rfl) rfl (spL rfl rfl (lh Ze6 rfl rfl) rfl ?_))))
  refine clV rfl Zgd rfl rfl (ZdZ b hok ab cb bd m W aw cw hwl hwx _ _) ?_
  refine pur 1 rfl (sqt 2 rfl (pur 2 rfl ?_))
  refine Z2 rfl ?_ ?_ <;> intro hc1 <;> try simp only [cS] at hc1
  have hsv : Z7E b (wls W) = (0, Z1H b (wls W)) := by unfold Z7E; rw [dT hck, cond_true, Z6D (by omega)]
  refine sqt 3 rfl (pur 1 rfl ?_)
  refine sto rfl rfl rfl cn3 rfl rfl rfl rfl ?_
  refine sto rfl rfl rfl Zg0 rfl rfl rfl rfl ?_
  refine Z4 ?_
  exact ZY [] idH rfl (.cons (RV.cell rfl (lh sc3 rfl rfl)) (.cons (RV.cell rfl (lh Zf4 rfl rfl)) .nil)) rfl ⟨by rw [hsv]; rfl, rfl, rfl⟩ (fun w h => St.sub (((((h.del b6).del m).del b5).del b4).del b3 |>.del b2))
  ·
   have hmn := hok.many
   have hwe : Z1H b (wls W) = 0 := by omega
   have hpre := (Z0O hwe).2
   have hwlz := (Z0O hwe).1
   rw [Z0F] at hwlz
   have hwz : ∀ x ∈ W, x.l.length = b.bins.length ∧ (0 ≤ x.d ∧ x.d ≤ 20000) := fun x hx => by have := Z0D (hpre _ (Z1q hx)); exact ⟨this.1, this.2.1⟩
   have hwb : ∀ x ∈ W, ∀ k < b.bins.length, Z2X b k (na x.l k) = false := fun x hx => (Z0D (hpre _ (Z1q hx))).2.2
   have hws4 : ∀ x ∈ W, x.l.length = b.bins.length := fun x hx => (hwz x hx).1
   have hE : ∀ p, Z3E b (wls W) = p → Z7E b (wls W) = p := fun p hp => by unfold Z7E; rw [dT hck]; exact hp
   refine Zl (a := aw) (sz := 2) (rows := ZC W) (ne0 (by rw [ZM]; omega)) (fun bw ow he => ?_)
   subst he
   refine Z1 (sqt 5 rfl (spL rfl rfl (lh Ze6 rfl rfl) rfl (sp rfl (PE.lenSl Z2f rfl) rfl ?_)))
   refine mkS rfl ZeT Z1G rfl rfl (Nat.le_refl _) ⟨by omega, by omega⟩ rfl (fun b35 => ?_)
   refine alc rfl Zfv rfl (fun b9 => ?_)
   refine sto rfl rfl rfl Za9 rfl rfl rfl rfl ?_
   refine Z0 (sqt 3 rfl (spL rfl rfl (lh Ze6 rfl rfl) rfl (sp rfl (PE.lenSl Z2f rfl) rfl (pur 1 rfl (Z3 ?_)))))
   refine Sy.heap (H' := (b9, cel 60 [.slice (some ⟨b35, 0, none⟩) W.length W.length]) :: (b35, cel 54 (ZbJ W 0)) :: (b6, cel 50 [.pointer (some ⟨bd, 0, none⟩)]) :: (m, Z0g true []) :: (b5, cel 33 [.int .i64 0]) :: (b4, cel 3 [.int .i64 0]) :: (b3, cel 32 [.slice (some ⟨bw, ow, none⟩) W.length cw]) :: (b2, cel 27 (btl b (b.sl ab cb))) :: H) (fun w h => by
     have e : ZbJ W 0 = Z2N W.length [Value.int .i64 0, .int .i64 0, .int .i64 0, .int .i64 0] := by unfold ZbJ; rw [Z1E]; rfl
     rw [e]; exact h) ?_
   refine Zj (ι := {i : Nat // i ≤ W.length}) (fun i => ⟨[(2, .pointer (some ⟨b2, 0, none⟩)), (3, .pointer (some ⟨b3, 0, none⟩)), (4, .pointer (some ⟨b4, 0, none⟩)), (5, .pointer (some ⟨b5, 0, none⟩)), (6, .pointer (some ⟨b6, 0, none⟩)), (9, .pointer (some ⟨b9, 0, none⟩)), (36, .slice (some ⟨bw, ow, none⟩) W.length cw), (37, .int .i64 W.length), (38, .int .i64 i.1)], (b9, cel 60 [.slice (some ⟨b35, 0, none⟩) W.length W.length]) :: (b35, cel 54 (ZbJ W i.1)) :: (b6, cel 50 [.pointer (some ⟨bd, 0, none⟩)]) :: (m, Z0g true []) :: (b5, cel 33 [.int .i64 0]) :: (b4, cel 3 [.int .i64 0]) :: (b3, cel 32 [.slice (some ⟨bw, ow, none⟩) W.length cw]) :: (b2, cel 27 (btl b (b.sl ab cb))) :: H, Z5 (some ⟨bd, 0, none⟩) 18 [dcs b (b.sl ab cb) b.lasts b.most m] :: R⟩) (fun i => W.length - i.1) ⟨0, Nat.zero_le _⟩ ?_ (fun i => ?_)
   exact Zr idH
   ·
    obtain ⟨i, hi⟩ := i
    dsimp only at hi ⊢
    refine sqt 1 rfl (pur 1 rfl (Z0 ?_))
    refine Z2 rfl ?_ ?_ <;> intro hc2 <;> try simp only [cS] at hc2
    obtain ⟨x, hx⟩ : ∃ x, W[i]? = some x := ⟨_, List.getElem?_eq_getElem (by omega)⟩
    have hxm := List.mem_of_getElem? hx
    have hgl := Zd9 hmn.2 hws4 (i := i) hi
    have hxl := hws4 x hxm
    refine Sy.heap (fun w h => St.inwAt (x := x) h hxm) ?_
    refine Z1 (Z0 (Z3 (sqt 6 rfl (pur 1 rfl (sp rfl (PE.indexAddr Z68 rfl rfl (by omega) (by omega)) rfl (spL rfl rfl (lfA Zdc (row := Z0y x) (Z0r hx) rfl) rfl (alc rfl Z7c rfl (fun b11 => pur 1 rfl ?_))))))))
    refine Z1b (l' := Z0y x) rfl rfl rfl Zef rfl rfl rfl rfl (nl rfl) ?_
    refine Zi [0, 0, 3, 7, 0, 16, 63] (.ld 0 (tks 1 4 (.ld 5 (.big 6 .done)))) ZH (by kernel_rfl) ?_
    refine ld rfl rfl (lh Z2U rfl rfl) rfl (Zp 1 rfl (tk rfl (PE.indexAddr ZaZ rfl rfl (by omega) (by omega)) rfl (tk rfl (PE.slArr Z2G rfl) rfl (tk rfl (PE.fA Z1R rfl) rfl (ld rfl rfl (lh Z2g rfl rfl) rfl ?_)))))
    refine ZgF (rows := Zm x.l) rfl Z1u rfl (by rw [Zd]; rfl) (Z3r x.l) (by rw [Zd]; omega) (Z9W _) (by rw [show (Zm x.l).flatten = ZI x.l from Z06 x.l, Z8, hgl]; show 0 + ((i : Nat) : Int).toNat * 4 + _ ≤ _; omega) rfl ?_
    rw [ZcK hmn.2 hws4 hx (by show 0 + ((i : Nat) : Int).toNat * 4 = _; omega)]
    refine bgT (sqr 2 rfl (sp rfl (PE.add rfl rfl (by omega)) rfl (pur 1 rfl ?_)))
    exact Zn ⟨i + 1, by omega⟩ (fun w h => (h.del b11).ftail)
    ·
     obtain rfl : i = W.length := by omega
     refine Zb (Zf (Zf (ZB (sqt 3 rfl (sp rfl (PE.makeFunc rfl rfl) rfl (alc rfl ZgN rfl (fun b12 => ?_)))))))
     refine sto rfl rfl rfl Zhm rfl rfl rfl rfl ?_
     refine Z0 (sqt 3 rfl (spL rfl rfl (lh Z2U rfl rfl) rfl (sp rfl (PE.lenSl Z78 rfl) rfl (pur 1 rfl (Z3 ?_)))))
     refine Sy.heap (fun w h => St.blkRows (rows := Zx (wpd W)) (junk := []) (st4 (Z5R hmn.2 hws4)) (show St ((b35, cel 54 ((Zx (wpd W)).flatten ++ [])) :: _) _ w from by
       have e : (Zx (wpd W)).flatten ++ [] = ZbJ W W.length := by unfold ZbJ; rw [List.take_length, Nat.sub_self]; rfl
       rw [e]; exact h.pull b35)) ?_
     refine Sy.heap (fun w h => St.rows (sz := 1) (rows := [[.slice (some ⟨b35, 0, none⟩) W.length W.length]]) (rest := []) (h.pull b9) (by simp)) ?_
     refine Sy.heap (fun w h => St.rows (sz := 1) (rows := [[.pointer (some ⟨bd, 0, none⟩)]]) (rest := []) (h.pull b6) (by simp)) ?_
     refine Sy.heap (fun w h => St.rows (sz := 1) (rows := [[.slice (some ⟨bw, ow, none⟩) W.length cw]]) (rest := []) (h.pull b3) (by simp)) ?_
     refine Z3j (ι := {y : Nat × List Nat // y.1 ≤ W.length ∧ ∀ s ∈ (wls W).take y.1, Z6Q b.dsk (wls W) s = true}) (fun y => ⟨[(2, .pointer (some ⟨b2, 0, none⟩)), (3, .pointer (some ⟨b3, 0, none⟩)), (4, .pointer (some ⟨b4, 0, none⟩)), (5, .pointer (some ⟨b5, 0, none⟩)), (6, .pointer (some ⟨b6, 0, none⟩)), (12, .pointer (some ⟨b12, 0, none⟩)), (52, .slice (some ⟨b35, 0, none⟩) W.length W.length), (53, .int .i64 W.length), (54, .int .i64 y.1.1)], mks y.1.2, (b12, cel 153 [.func (.func 108) #[] #[.pointer (some ⟨b9, 0, none⟩), .pointer (some ⟨b6, 0, none⟩), .pointer (some ⟨b3, 0, none⟩)]]) :: (m, Z0g true []) :: (b5, cel 33 [.int .i64 0]) :: (b4, cel 3 [.int .i64 0]) :: (b2, cel 27 (btl b (b.sl ab cb))) :: (mkh y.1.2 ++ H), Z5 (some ⟨b35, 0, none⟩) 4 (Zx (wpd W)) :: Z5 (some ⟨b9, 0, none⟩) 1 [[.slice (some ⟨b35, 0, none⟩) W.length W.length]] :: Z5 (some ⟨b6, 0, none⟩) 1 [[.pointer (some ⟨bd, 0, none⟩)]] :: Z5 (some ⟨b3, 0, none⟩) 1 [[.slice (some ⟨bw, ow, none⟩) W.length cw]] :: Z5 (some ⟨bd, 0, none⟩) 18 [dcs b (b.sl ab cb) b.lasts b.most m] :: R⟩) (fun y => W.length - y.1.1) ⟨(0, []), Nat.zero_le _, by simp⟩ ?_ (fun y => ?_)
     exact Z7t (by repeat' first | exact Sub.nil | apply Sub.cons | rfl | (simp [lk]; omega)) rfl (fun w h => St.sub h)
     ·
      obtain ⟨⟨i, mk⟩, hi, hws⟩ := y
      dsimp only at hi hws ⊢
      refine sqt 1 rfl (pur 1 rfl (Z0 ?_))
      refine Z2 rfl ?_ ?_ <;> intro hc3 <;> try simp only [cS] at hc3
      ·
       obtain ⟨x, hx⟩ : ∃ x, W[i]? = some x := ⟨_, List.getElem?_eq_getElem (by omega)⟩
       have hxm := List.mem_of_getElem? hx
       obtain ⟨hxl, hxd⟩ := hwz x hxm
       have hpl : (pad x.l).length = 4 := Z0Y (by omega)
       have hsr : (Zx (wpd W)).length = W.length := by rw [ZT, Z62]
       refine Z1 (Z0 (Z3 (sqt 7 rfl (pur 1 rfl (sp rfl (PE.indexAddr ZaZ rfl rfl (by omega) (by omega)) rfl (spL rfl rfl (lfA ZV (row := ZI (pad x.l)) (Z2E (Zbx hx)) (by rw [Z8]; exact hpl)) rfl (alc rfl zl3 rfl (fun b13 => alc rfl Z1G rfl (fun b14 => ?_)))))))))
       refine sto rfl rfl rfl cn3 rfl rfl rfl rfl ?_
       refine Z1I rfl rfl rfl Z1e rfl (by rw [Z8]; exact hpl) rfl (Zu _) ?_
       refine sqt 2 rfl (spL rfl rfl (lfB (sz := 1) Z0U rfl) rfl ?_)
       refine cl rfl Z8o rfl rfl (Z1j bd false _ _) ?_
       rintro _ _ _ ⟨xb, xf, rfl, rfl, rfl⟩
       refine Z3 ?_
       refine Z1x rfl Z8s (fun c0 bl0 bd0 hcp0 hca0 hcb0 hck0 => ?_)
       refine ⟨fun st pend T R' => (st = .ready ∧ pend = none ∧ Z6Q b.dsk (wls W) (x.l, x.d) = true ∧ T = (bd0, .deferred (some [])) :: (b14, cel 54 (ZI (pad x.l))) :: (b13, cel 3 [.int .i64 i]) :: (b12, cel 153 [.func (.func 108) #[] #[.pointer (some ⟨b9, 0, none⟩), .pointer (some ⟨b6, 0, none⟩), .pointer (some ⟨b3, 0, none⟩)]]) :: (m, Z0g true []) :: (b5, cel 33 [.int .i64 0]) :: (b4, cel 3 [.int .i64 0]) :: (b2, cel 27 (btl b (b.sl ab cb))) :: (mkh mk ++ H) ∧ R' = Z5 (some ⟨xf, 0, none⟩) 1 [[.bool false]] :: Z5 (some ⟨xb, 0, none⟩) 1 [[.pointer (some ⟨bd, 0, none⟩)]] :: Z5 (some ⟨b35, 0, none⟩) 4 (Zx (wpd W)) :: Z5 (some ⟨b9, 0, none⟩) 1 [[.slice (some ⟨b35, 0, none⟩) W.length W.length]] :: Z5 (some ⟨b6, 0, none⟩) 1 [[.pointer (some ⟨bd, 0, none⟩)]] :: Z5 (some ⟨b3, 0, none⟩) 1 [[.slice (some ⟨bw, ow, none⟩) W.length cw]] :: Z5 (some ⟨bd, 0, none⟩) 18 [dcs b (b.sl ab cb) b.lasts b.most m] :: R) ∨
           (st = .done ∧ pend = some .ret ∧ Z6Q b.dsk (wls W) (x.l, x.d) = false ∧ T = (bd0, .deferred (some [])) :: (b14, cel 54 (ZI (pad x.l))) :: (b13, cel 3 [.int .i64 i]) :: (b12, cel 153 [.func (.func 108) #[] #[.pointer (some ⟨b9, 0, none⟩), .pointer (some ⟨b6, 0, none⟩), .pointer (some ⟨b3, 0, none⟩)]]) :: (m, Z0g true []) :: (b5, cel 33 [.int .i64 8]) :: (b4, cel 3 [.int .i64 0]) :: (b2, cel 27 (btl b (b.sl ab cb))) :: (mkh mk ++ H) ∧ R' = Z5 (some ⟨xf, 0, none⟩) 1 [[.bool false]] :: Z5 (some ⟨xb, 0, none⟩) 1 [[.pointer (some ⟨bd, 0, none⟩)]] :: Z5 (some ⟨b35, 0, none⟩) 4 (Zx (wpd W)) :: Z5 (some ⟨b9, 0, none⟩) 1 [[.slice (some ⟨b35, 0, none⟩) W.length W.length]] :: Z5 (some ⟨b6, 0, none⟩) 1 [[.pointer (some ⟨bd, 0, none⟩)]] :: Z5 (some ⟨b3, 0, none⟩) 1 [[.slice (some ⟨bw, ow, none⟩) W.length cw]] :: Z5 (some ⟨bd, 0, none⟩) 18 [dcs b (b.sl ab cb) b.lasts b.most m] :: R),
         Fn.mono (Z10 b hok ab cb bd m false xb xf bl0 (fun k H' R' => (∀ i l, i < k → (b.dsk.trs false)[i]? = some l → (fun l => !wlL b.dsk (wls W) (x.l, x.d) l) l = false) ∧ H' = (bl0, lob c0 .ready none) :: (bd0, .deferred (some [])) :: (b14, cel 54 (ZI (pad x.l))) :: (b13, cel 3 [.int .i64 i]) :: (b12, cel 153 [.func (.func 108) #[] #[.pointer (some ⟨b9, 0, none⟩), .pointer (some ⟨b6, 0, none⟩), .pointer (some ⟨b3, 0, none⟩)]]) :: (m, Z0g true []) :: (b5, cel 33 [.int .i64 0]) :: (b4, cel 3 [.int .i64 0]) :: (b2, cel 27 (btl b (b.sl ab cb))) :: (mkh mk ++ H) ∧ R' = Z5 (some ⟨xf, 0, none⟩) 1 [[.bool false]] :: Z5 (some ⟨xb, 0, none⟩) 1 [[.pointer (some ⟨bd, 0, none⟩)]] :: Z5 (some ⟨b35, 0, none⟩) 4 (Zx (wpd W)) :: Z5 (some ⟨b9, 0, none⟩) 1 [[.slice (some ⟨b35, 0, none⟩) W.length W.length]] :: Z5 (some ⟨b6, 0, none⟩) 1 [[.pointer (some ⟨bd, 0, none⟩)]] :: Z5 (some ⟨b3, 0, none⟩) 1 [[.slice (some ⟨bw, ow, none⟩) W.length cw]] :: Z5 (some ⟨bd, 0, none⟩) 18 [dcs b (b.sl ab cb) b.lasts b.most m] :: R)
           (fun H' R' => Z6Q b.dsk (wls W) (x.l, x.d) = false ∧ H' = (bl0, lob c0 .done (some .ret)) :: (bd0, .deferred (some [])) :: (b14, cel 54 (ZI (pad x.l))) :: (b13, cel 3 [.int .i64 i]) :: (b12, cel 153 [.func (.func 108) #[] #[.pointer (some ⟨b9, 0, none⟩), .pointer (some ⟨b6, 0, none⟩), .pointer (some ⟨b3, 0, none⟩)]]) :: (m, Z0g true []) :: (b5, cel 33 [.int .i64 8]) :: (b4, cel 3 [.int .i64 0]) :: (b2, cel 27 (btl b (b.sl ab cb))) :: (mkh mk ++ H) ∧ R' = Z5 (some ⟨xf, 0, none⟩) 1 [[.bool false]] :: Z5 (some ⟨xb, 0, none⟩) 1 [[.pointer (some ⟨bd, 0, none⟩)]] :: Z5 (some ⟨b35, 0, none⟩) 4 (Zx (wpd W)) :: Z5 (some ⟨b9, 0, none⟩) 1 [[.slice (some ⟨b35, 0, none⟩) W.length W.length]] :: Z5 (some ⟨b6, 0, none⟩) 1 [[.pointer (some ⟨bd, 0, none⟩)]] :: Z5 (some ⟨b3, 0, none⟩) 1 [[.slice (some ⟨bw, ow, none⟩) W.length cw]] :: Z5 (some ⟨bd, 0, none⟩) 18 [dcs b (b.sl ab cb) b.lasts b.most m] :: R)
           (fun k H' R' h => by obtain ⟨_, _, rfl⟩ := h; exact ⟨by simp, by simp, by simp⟩) (fun k l a c H' R' hk hI => ?_) _ _ ⟨fun _ _ h => absurd h (Nat.not_lt_zero _), rfl, rfl⟩) (fun v H' R' h => ?_), ?_⟩
       rotate_left
       · rcases h with ⟨hn, rfl, rfl⟩ | ⟨hh, rfl, rfl⟩
         · exact ⟨.ready, none, _, by simp, .refl _, .inl ⟨rfl, rfl, by rw [Z8J, ZbE hn]; rfl, rfl, rfl⟩⟩
         · exact ⟨.done, some .ret, _, by simp, .refl _, .inr ⟨rfl, rfl, hh, rfl, rfl⟩⟩
       rotate_left
       have hlm := List.mem_of_getElem? hk
       have hlt := b.dsk.trs_lt hlm
       have hll : l.length ≤ 1000000 := by
         obtain ⟨i, _, rfl⟩ := List.mem_map.1 (List.mem_filter.1 hlm).1
         have := Z18 b.dsk.n i
         have := hdk.n
         omega
       obtain ⟨hno, rfl, rfl⟩ := hI
       have hsm : Sml (pad x.l) := ⟨hpl, fun j hj => by
         rw [Z13]
         by_cases hjn : j < b.bins.length
         · have := Z84 (hwb x hxm j hjn)
           by_cases h0 : b.worst (b.bins.getD j hb0) = 0
           · have := this.1 h0; omega
           · have := this.2 h0; omega
         · have h1 : na x.l j = 0 := by unfold na; rw [List.getD_eq_getElem?_getD, List.getElem?_eq_none (by omega)]; rfl
           omega⟩
       refine Z5h hcp0 hca0 hcb0 hck0 rfl ?_
       refine sqr 1 rfl (pur 1 rfl ?_)
       refine Z05 ?_
       refine Z3 (sqt 10 rfl (spL rfl rfl (lfB (sz := 1) Z0U rfl) rfl (spL rfl rfl (lhI (pad x.l) ZV rfl rfl (hpl)) rfl (pur 1 rfl ?_))))
       refine cl rfl Z8k rfl rfl (Z4O b hok ab cb bd m (pad x.l) hsm l hlt hll a c _ _) ?_
       rintro _ _ _ ⟨rfl, rfl, rfl⟩
       rcases hnx : b.dsk.next (pad x.l) l with _ | t
       refine pur 3 rfl (alc rfl Z1G rfl (fun b16 => ?_))
       first | (refine Z1I rfl rfl rfl Z1e rfl rfl rfl (Zu _) ?_) | (refine Z1I rfl rfl rfl Z1e rfl (by rw [Z8]; exact htl) rfl (Zu _) ?_)
       refine pur 1 rfl (Z0 ?_)
       refine Zi [0, 1, 3, 3, 15, 3, 3, 99, 227, 483, 1023, 2047] (.tk 0 (.tk 1 (.ld 2 (.ld 3 (.ld 5 (.ld 6 (.tk 7 (.tk 8 (.ld 9 (.big 4 (.tk 10 (.tk 11 .done)))))))))))) ZH (by kernel_rfl) ?_
       have hno2 : (fun l => !wlL b.dsk (wls W) (x.l, x.d) l) l = false := by dsimp only; unfold wlL; dsimp only; rw [hnx]; rfl
       refine Zp 2 rfl ?_
       repeat refine ldN rfl rfl rfl rfl rfl rfl rfl rfl ?_
       refine Zp 2 rfl ?_
       refine ldN rfl rfl rfl rfl rfl rfl rfl rfl ?_
       refine spN rfl rfl rfl rfl rfl rfl rfl rfl ?_
       refine bg (fun w hs => ⟨((fun _ _ => True.intro)) w hs, ((fun _ _ => True.intro)) w hs, ((fun _ _ => True.intro)) w hs, trivial, trivial, trivial⟩) ?_
       refine Zp 2 rfl ?_
       refine ZG rfl ?_
       refine Z1 ?_
       exact ZF (.inl ⟨rfl, Z3W hk hno hno2, rfl, rfl⟩) (fun _ h => (h.del b16).ftail)
       refine pur 1 rfl ?_
       have htl : t.length = 4 := (b.dsk.next_sml hdk.lasts hdk.n.2 hsm hlt hnx).len
       have hwl1 : wlL b.dsk (wls W) (x.l, x.d) l = decide (Z1o b.bins.length (wls W) t < x.d) := by unfold wlL; dsimp only; rw [hnx]; rfl
       refine pur 2 rfl (alc rfl Z1G rfl (fun b16 => ?_))
       first | (refine Z1I rfl rfl rfl Z1e rfl rfl rfl (Zu _) ?_) | (refine Z1I rfl rfl rfl Z1e rfl (by rw [Z8]; exact htl) rfl (Zu _) ?_)
       refine pur 1 rfl (Z0 ?_)
       refine Zi [0, 1, 3, 3, 15, 3, 3, 99, 227, 483, 1023, 2047] (.tk 0 (.tk 1 (.ld 2 (.ld 3 (.ld 5 (.ld 6 (.tk 7 (.tk 8 (.ld 9 (.big 4 (.tk 10 (.tk 11 .done)))))))))))) ZH (by kernel_rfl) ?_
       refine Zp 2 rfl (ldG rfl rfl rfl rfl rfl (lh ZeX rfl rfl) rfl (ldG rfl rfl rfl rfl rfl (lhI t ZV rfl rfl (htl)) rfl (ldG rfl rfl rfl rfl rfl (lfB (sz := 1) Ze6 rfl) rfl (ldG rfl rfl rfl rfl rfl (lh sc3 rfl rfl) rfl ?_))))
       refine tkG rfl rfl rfl rfl (PE.indexAddr Z68 rfl rfl (by omega) (by omega)) rfl ?_
       refine tkG rfl rfl rfl rfl (PE.fA Z2j rfl) rfl ?_
       refine ldG rfl rfl rfl rfl rfl (lf (j := 1) (row := Z0y x) sc3 (Z0r hx) rfl) rfl ?_
       refine Ze4 rfl rfl rfl rfl rfl (Zdm) rfl rfl (Z9e b hok ab cb bd m W (some ⟨bw, ow, none⟩) cw b35 b9 b6 b3 hwl hwz t htl _ _) ?_
       refine bg (fun w hs => ⟨(lf (j := 1) (row := Z0y x) sc3 (Z0r hx) rfl) w hs, (lh sc3 rfl rfl) w hs, (lfB (sz := 1) Ze6 rfl) w hs, trivial, trivial, trivial⟩) ?_
       refine Zp 2 rfl ?_
       refine Z2 rfl ?_ ?_ <;> intro hc4 <;> try simp only [cS] at hc4
       have hbad : (fun l => !wlL b.dsk (wls W) (x.l, x.d) l) l = true := by dsimp only; rw [hwl1, dF (by omega)]; rfl
       refine sqt 2 rfl ?_
       refine sto rfl rfl rfl cn3 rfl rfl rfl rfl ?_
       refine sto rfl rfl rfl Zg0 rfl rfl rfl rfl ?_
       refine Z4 ?_
       exact Z30 (.inr ⟨rfl, by rw [Z8J, Zdb hk hbad]; rfl, rfl, rfl⟩) (fun _ h => (h.del b16).ftail)
       have hno2 : (fun l => !wlL b.dsk (wls W) (x.l, x.d) l) l = false := by dsimp only; rw [hwl1, dT (by omega)]; rfl
       refine Z1 ?_
       exact ZF (.inl ⟨rfl, Z3W hk hno hno2, rfl, rfl⟩) (fun _ h => (h.del b16).ftail)
       rintro _ _ _ _ (⟨rfl, rfl, hh, rfl, rfl⟩ | ⟨rfl, rfl, hh, rfl, rfl⟩)
       refine Z5k ?_
       refine sqr 2 rfl (sp rfl (PE.add rfl rfl (by omega)) rfl (pur 1 rfl ?_))
       exact Z3k ⟨(i + 1, bd0 :: mk), by dsimp only; omega, Z3w (Z1f hx) hws hh⟩ (by dsimp only; omega) (by repeat' first | exact Sub.nil | apply Sub.cons | rfl | (simp [lk]; omega)) rfl (fun w h => St.sub (((h.del b14).del b13).perm (ZO [_] [_, _, _, _, _] _)))
       refine ZeS ?_
       refine Z4 ?_
       have hsv := hE _ (ZdB hwe (Z1q hxm) hh)
       refine Sy.heap (H' := mkh (bd0 :: mk) ++ ((b5, cel 33 [.int .i64 8]) :: (b4, cel 3 [.int .i64 0]) :: H)) (R' := R) (fun w h => St.sub (((((((h.del b14).del b13).del b12).del m).del b2)).perm (List.Perm.cons _ (ZO [_, _] (mkh mk) H)))) ?_
       exact ZY (bd0 :: mk) idH rfl (.cons (RV.cell rfl (lh sc3 rfl rfl)) (.cons (RV.cell rfl (lh Zf4 rfl rfl)) .nil)) rfl ⟨by rw [hsv]; rfl, rfl, rfl⟩ (fun w h => St.sub ((h.del b5).del b4))
      obtain rfl : i = W.length := by omega
      rw [List.take_of_length_le (by rw [Z0F]; exact Nat.le_refl _)] at hws
      have hsml := (b.state_sml hok).len
      have hrr := Z67 hpre b.bins.length b.state
      refine Zb (Zf (Zf (ZB (Z0 ?_))))
      refine Zi [0, 0, 2, 7, 15] (.ld 0 (.ld 1 (.big 2 (.big 3 (.tk 4 .done))))) ZH (by kernel_rfl) ?_
      refine ld rfl rfl (lh ZeX rfl rfl) rfl (ld rfl rfl (lhA (btl b (b.sl ab cb)) ZD rfl rfl rfl) rfl ?_)
      refine clV rfl Z63 rfl rfl (Z2b b ab cb hok _ _) ?_
      refine bg (fun w hs => ⟨trivial, (lh ZeX rfl rfl) w hs, trivial⟩) ?_
      refine ZfB rfl rfl (Zdm) rfl rfl (Z9e b hok ab cb bd m W (some ⟨bw, ow, none⟩) cw b35 b9 b6 b3 hwl hwz b.state hsml _ _) ?_
      refine bgT (Zp 1 rfl (Z0 (sqt 2 rfl (pur 2 rfl ?_))))
      refine Z2 rfl ?_ ?_ <;> intro hc5 <;> try simp only [cS] at hc5
      have hsv := hE _ (Z6o hwe (show Z1o b.bins.length (wls W) b.state = 1000000 from hc5))
      refine sqt 2 rfl ?_
      refine sto rfl rfl rfl cn3 rfl rfl rfl rfl ?_
      refine sto rfl rfl rfl Zg0 rfl rfl rfl rfl ?_
      refine Z4 ?_
      first
        | (refine Sy.heap (H' := mkh mk ++ ((b5, cel 33 [.int .i64 8]) :: (b4, cel 3 [.int .i64 0]) :: H)) (R' := R) (fun w h => St.sub ((((h.del b12).del m).del b2).perm (ZO [_, _] (mkh mk) H))) ?_
           exact ZY mk idH rfl (.cons (RV.cell rfl (lh sc3 rfl rfl)) (.cons (RV.cell rfl (lh Zf4 rfl rfl)) .nil)) rfl ⟨by rw [hsv]; rfl, rfl, rfl⟩ (fun w h => St.sub ((h.del b5).del b4)))
        | (refine Sy.heap (H' := mkh mk ++ ((b5, cel 33 [.int .i64 0]) :: (b4, cel 3 [.int .i64 (Z1o b.bins.length (wls W) b.state)]) :: H)) (R' := R) (fun w h => St.sub ((((h.del b12).del m).del b2).perm (ZO [_, _] (mkh mk) H))) ?_
           exact ZY mk idH rfl (.cons (RV.cell rfl (lh sc3 rfl rfl)) (.cons (RV.cell rfl (lh Zf4 rfl rfl)) .nil)) rfl ⟨by rw [hsv]; rfl, rfl, rfl⟩ (fun w h => St.sub ((h.del b5).del b4)))
      have hsv := hE _ (Z6q hwe hws (show Z1o b.bins.length (wls W) b.state ≠ 1000000 from hc5))
      refine Z1 (sqt 3 rfl (pur 1 rfl ?_))
      refine sto rfl rfl rfl cn3 rfl rfl rfl rfl ?_
      refine sto rfl rfl rfl Zg0 rfl rfl rfl rfl ?_
      refine Z4 ?_
      first
        | (refine Sy.heap (H' := mkh mk ++ ((b5, cel 33 [.int .i64 8]) :: (b4, cel 3 [.int .i64 0]) :: H)) (R' := R) (fun w h => St.sub ((((h.del b12).del m).del b2).perm (ZO [_, _] (mkh mk) H))) ?_
           exact ZY mk idH rfl (.cons (RV.cell rfl (lh sc3 rfl rfl)) (.cons (RV.cell rfl (lh Zf4 rfl rfl)) .nil)) rfl ⟨by rw [hsv]; rfl, rfl, rfl⟩ (fun w h => St.sub ((h.del b5).del b4)))
        | (refine Sy.heap (H' := mkh mk ++ ((b5, cel 33 [.int .i64 0]) :: (b4, cel 3 [.int .i64 (Z1o b.bins.length (wls W) b.state)]) :: H)) (R' := R) (fun w h => St.sub ((((h.del b12).del m).del b2).perm (ZO [_, _] (mkh mk) H))) ?_
           exact ZY mk idH rfl (.cons (RV.cell rfl (lh sc3 rfl rfl)) (.cons (RV.cell rfl (lh Zf4 rfl rfl)) .nil)) rfl ⟨by rw [hsv]; rfl, rfl, rfl⟩ (fun w h => St.sub ((h.del b5).del b4)))
structure OQ (e sz : Nat) (rows : List (List Value)) where
  b : Nat
  off : Nat
  cap : Nat
  pre : List Value
  junk : List Value
  len : ∀ r ∈ rows, r.length = sz
  pl : pre.length = off
  room : cap * sz ≤ rows.length * sz + junk.length
  le : rows.length ≤ cap
  mx : cap ≤ 9223372036854775807
def OQ.fs {e sz : Nat} {rows : List (List Value)} (q : OQ e sz rows) : Value := .slice (some ⟨q.b, q.off, none⟩) rows.length q.cap
def OQ.G {e sz : Nat} {rows : List (List Value)} (q : OQ e sz rows) : Zg := [(q.b, cel e (q.pre ++ (rows.flatten ++ q.junk)))]
theorem ZeY {a r j v : List Value} {o : Nat} (e : o = a.length + r.length) (h : v.length ≤ j.length) : spl (a ++ (r ++ j)) o v = a ++ ((r ++ v) ++ j.drop v.length) := by
  subst e
  unfold spl
  rw [← List.append_assoc a r j, show a.length + r.length = (a ++ r).length by simp, List.take_left, List.drop_append, List.drop_of_length_le (by omega), List.nil_append]
  simp [List.append_assoc]
theorem Zbo {P : Program} {t ty e sz by_ : Nat} (ht : apT P t = some (e, sz, by_)) {rows news : List (List Value)} (q : OQ e sz rows) {T : Zg} {R : Z6} {w : World} (hs : St (q.G ++ T) R w)
    {ax : Option Addr} {c : Nat} (hr : Z5 ax sz news w) (h0 : news ≠ []) (h1 : Z0X news = true) (hby : (rows.length + news.length) * by_ ≤ 140737488355328) (h63 : rows.length + news.length ≤ 9223372036854775807) :
    ∃ (q' : OQ e sz (rows ++ news)) (w' : World), (Builtin.append_ #[t, t] ty #[q.fs, .slice ax news.length c]).run P w = .ok q'.fs w' ∧ St (q'.G ++ T) R w' := by
  unfold apT at ht
  split at ht
  case h_2 => cases ht
  rename_i e' hu
  split at ht
  case h_2 => cases ht
  rename_i i hi
  split at ht
  case h_2 => cases ht
  rename_i z hz
  cases hzs : Nat.beq z.cells.size i.size with
  | false => rw [hzs] at ht; cases ht
  | true =>
  rw [hzs, cond_true] at ht
  cases ht
  have hzs := Nat.eq_of_beq_eq_true hzs
  have hnl := Z8C hr
  obtain ⟨b, off, cap, pre, junk, hl, hpl, hroom0, hle, hmx⟩ := q
  have hlen' : ∀ r ∈ rows ++ news, r.length = i.size := fun r h => by rcases List.mem_append.1 h with h | h; exact hl r h; exact hnl r h
  have hnf := Z0i hnl
  have hrf := Z0i hl
  obtain ⟨bx, offx, rfl⟩ := Z7o hr h0
  have hcell : ∀ j v, news.flatten[j]? = some v → w.cell? ((⟨bx, offx, none⟩ : Addr).add j) = some v := fun j v h => by rw [Z0p]; exact Z3v hr j v h
  have hn0 : 0 < news.length := List.length_pos_iff.2 h0
  have hb := hs.held (b, cel e (pre ++ (rows.flatten ++ junk))) (by simp [OQ.G])
  by_cases hroom : rows.length + news.length ≤ cap
  · have hm2 : (rows.length + news.length) * i.size ≤ cap * i.size := Nat.mul_le_mul_right _ hroom
    rw [Nat.add_mul] at hm2
    have hjl : news.flatten.length ≤ junk.length := by omega
    have hst := Z5J (P := P) (e := e) (od := off + rows.length * i.size) (vs := news.flatten) (List.all_eq_true.2 (Z8A h1)) (by simp only [List.length_append, hrf, hpl]; omega) hb
    have hfc := run_firstCells_some (P := P) w i.size news.length ⟨bx, offx, none⟩ news.length c news.flatten hnf hcell
    have hsp : spl (pre ++ (rows.flatten ++ junk)) (off + rows.length * i.size) news.flatten = pre ++ ((rows ++ news).flatten ++ junk.drop news.flatten.length) := by
      rw [ZeY (by rw [hpl, hrf]) hjl, List.flatten_append]
    rw [hsp] at hst
    refine ⟨⟨b, off, cap, pre, junk.drop news.flatten.length, hlen', hpl, by rw [List.length_append, List.length_drop, Nat.add_mul]; omega, by rw [List.length_append]; exact hroom, hmx⟩, { w with heap := w.heap.setIfInBounds b (cel e (pre ++ ((rows ++ news).flatten ++ junk.drop news.flatten.length))) }, ?_, St.set hs⟩
    have e0 : (⟨b, off, none⟩ : Addr).add (rows.length * i.size) = ⟨b, off + rows.length * i.size, none⟩ := by rw [Z0p]
    simp [OQ.fs, Builtin.append_, run_underlying hu, sizeOf, typeInfo, hi, Builtin.lenOf, hroom, hfc, e0, hst]
  · have holds : ∀ j v, rows.flatten[j]? = some v → w.cell? ((⟨b, off, none⟩ : Addr).add j) = some v := fun j v h => by
      have hlt : j < rows.flatten.length := (List.getElem?_eq_some_iff.1 h).1
      rw [Z0p, Z2a hb]
      simp only [List.getElem?_toArray]
      rw [List.getElem?_append_right (by omega), show off + j - pre.length = j by omega, List.getElem?_append_left hlt]; exact h
    have h2 := run_append_grow (P := P) w t ty e i z hu hi hz ⟨b, off, none⟩ rows.length cap rows.flatten hrf holds ⟨bx, offx, none⟩ news.length c news.flatten hnf hcell (by omega) (by omega) (growslice_fits (by omega) hby)
    have hge := grownCap_ge w (rows.length + news.length) cap e
    have hcm : grownCap w (rows.length + news.length) cap e ≤ maxLen := grownCap_le_maxLen w _ cap e (by simp only [maxLen]; omega)
    refine ⟨⟨w.heap.size, 0, grownCap w (rows.length + news.length) cap e, [], (Builtin.zeroCells z.cells (grownCap w (rows.length + news.length) cap e - (rows.length + news.length))).toList, hlen', rfl, ?_, by rw [List.length_append]; exact hge, by simp only [maxLen] at hcm; omega⟩, w.drew.alloc (.cells (rows.flatten.toArray ++ news.flatten.toArray ++ Builtin.zeroCells z.cells (grownCap w (rows.length + news.length) cap e - (rows.length + news.length))) e), ?_, ?_⟩
    · simp only [Array.length_toList, size_zeroCells, hzs, List.length_append, ← Nat.add_mul]
      exact Nat.mul_le_mul_right _ (by omega)
    · exact h2.trans (by simp only [OQ.fs, List.length_append])
    · have h3 := (St.tail hs).drew.alloc (.cells (rows.flatten.toArray ++ news.flatten.toArray ++ Builtin.zeroCells z.cells (grownCap w (rows.length + news.length) cap e - (rows.length + news.length))) e)
      rw [show w.drew.heap.size = w.heap.size from rfl] at h3
      have e1 : (cel e ([] ++ ((rows ++ news).flatten ++ (Builtin.zeroCells z.cells (grownCap w (rows.length + news.length) cap e - (rows.length + news.length))).toList))) = .cells (rows.flatten.toArray ++ news.flatten.toArray ++ Builtin.zeroCells z.cells (grownCap w (rows.length + news.length) cap e - (rows.length + news.length))) e := by
        unfold cel; congr 1; apply Array.toList_inj.1; simp
      show St ((_, _) :: T) R _
      rw [e1]; exact h3
section
variable {P : Program} {r : Option Nat} {ops : Array Oper} {n : Nat} {L : ZL} {D : List Deferred} {H : Zg} {R : Z6} {K : Act → World → Prop}
  {i d : Nat} {ty : TypeId} {pos : String} {af : Array Edge}
theorem apQ {t e sz by_ c k : Nat} {s x : Operand} {rows news : List (List Value)} (q : OQ e sz rows) {ax : Option Addr} {C : Zg → Zg}
    (ho : ops[i]? = some ⟨some d, .call { callee := .builtin .append, args := #[s, x], argTypes := #[t, t] }, ty, pos, af, none⟩) (ht : apT P t = some (e, sz, by_))
    (hs : ev L s = some q.fs) (hx : ev L x = some (.slice ax k c)) (hr : ∀ w, St H R w → Z5 ax sz news w) (hk : news.length = k) (h0 : news ≠ []) (h1 : Z0X news = true)
    (hb : (rows.length + news.length) * by_ ≤ 140737488355328 ∧ rows.length + news.length ≤ 9223372036854775807) (hd : Nat.blt d n = true)
    [rp : RepF q.G H C]
    (h : ∀ q' : OQ e sz (rows ++ news), Sy n ((d, q'.fs) :: L) D (C q'.G) R K) : Sy n L D H R (stp P r ops i K) := fun a w ha hD hs0 => by
  subst hk
  obtain ⟨T, p1, p2⟩ := rp.rep
  obtain ⟨q', w', h2, h3⟩ := Zbo ht q (hs0.perm p1) (hr w hs0) h0 h1 hb.1 hb.2
  refine Z00 ho (ZA _ rfl _) (v := q'.fs) (w' := w') ?_ (h q' _ _ (ha.put (by simpa using hd) _) hD (h3.perm (p2 _)))
  simp only [execOp, resolve, invoke, builtin, Sem.run_bind, Sem.run_pure, Result.andThen, List.map_toArray, List.map_cons, List.map_nil, ha.reads _ _ hs, ha.reads _ _ hx]
  rw [show (Builtin.append_ #[t, t] ty #[q.fs, .slice ax news.length c]).run P w = _ from h2]
end
def OQ.cast {e sz : Nat} {rows rows' : List (List Value)} (q : OQ e sz rows) (h : rows = rows') : OQ e sz rows' := h ▸ q
@[simp] theorem OQ.cast_fs {e sz : Nat} {rows rows' : List (List Value)} (q : OQ e sz rows) (h : rows = rows') : (q.cast h).fs = q.fs := by subst h; rfl
@[simp] theorem OQ.cast_G {e sz : Nat} {rows rows' : List (List Value)} (q : OQ e sz rows) (h : rows = rows') : (q.cast h).G = q.G := by subst h; rfl
theorem OQ.pop {e sz : Nat} {row : List Value} {rows : List (List Value)} (q : OQ e sz (row :: rows)) : ∃ q' : OQ e sz rows, q'.fs = .slice (if q.cap = 1 then some ⟨q.b, q.off, none⟩ else some ⟨q.b, q.off + 1 * sz, none⟩) rows.length (q.cap - 1) ∧ q'.G = q.G := by
  obtain ⟨b, off, cap, pre, junk, hl, hpl, hroom, hle, hmx⟩ := q
  have hrl := hl row (by simp)
  rw [List.length_cons] at hroom hle
  rw [Nat.add_mul] at hroom
  by_cases h1 : cap = 1
  · have hr0 : rows = [] := List.length_eq_zero_iff.1 (by omega)
    subst hr0
    refine ⟨⟨b, off, cap - 1, pre, row ++ junk, by simp, hpl, by rw [h1]; simp, by simp, by omega⟩, ?_, ?_⟩
    · unfold OQ.fs; dsimp only; rw [if_pos h1]
    · unfold OQ.G; simp
  · refine ⟨⟨b, off + 1 * sz, cap - 1, pre ++ row, junk, fun r hr => hl r (by simp [hr]), by rw [List.length_append, hpl, hrl]; omega, by rw [Nat.sub_mul]; omega, by omega, by omega⟩, ?_, ?_⟩
    · unfold OQ.fs; dsimp only; rw [if_neg h1]
    · unfold OQ.G; simp [List.append_assoc]
theorem OQ.one {e sz : Nat} (b : Nat) {row : List Value} (h : row.length = sz) : ∃ q : OQ e sz [row], q.fs = .slice (some ⟨b, 0, none⟩) 1 1 ∧ q.G = [(b, cel e row)] :=
  ⟨⟨b, 0, 1, [], [], by simp [h], rfl, by simp, by simp, by decide⟩, rfl, by unfold OQ.G; simp⟩
theorem Z7j : cal Tryz.prog 15 = true := by kernel_rfl
theorem Zdo : Z45 Tryz.prog 59 = true := by kernel_rfl
structure Rz (d : Dsk) (n : Nat) (days : Int) (s t : HSt) : Prop where
  inS : d.inS t
  le : Z1A d.n s t = true
  lv : t = s ∨ d.lvl n t ≤ days
theorem Rz.same {d : Dsk} {n : Nat} {days : Int} {s : HSt} (h : d.inS s) : Rz d n days s s := ⟨h, undP_iff.2 fun _ _ => Int.le_refl _, .inl rfl⟩
def mz (d : Dsk) (s : HSt) : Int := (na d.most 0 - na s 0) + (na d.most 1 - na s 1) + (na d.most 2 - na s 2) + (na d.most 3 - na s 3)
def rzm (d : Dsk) (s : HSt) (i : Nat) : Nat := (mz d s).toNat + (d.n - i)
theorem Zhz {d : Dsk} (hd : d.ok) {s : HSt} (hs : d.inS s) : 0 ≤ mz d s := by
  have hn := hd.n
  have key : ∀ k < 4, na s k ≤ na d.most k := fun k hk => by
    have h2 := hd.most.at_ k hk
    rcases Nat.lt_or_ge k d.n with h | h
    · rcases hs.at_ k h with h1 | h1 <;> omega
    · have := hs.out k hk h; omega
  have k0 := key 0 (by omega); have k1 := key 1 (by omega); have k2 := key 2 (by omega); have k3 := key 3 (by omega)
  unfold mz; omega
theorem Zeo {s : HSt} {i j : Nat} {v : Int} (hs : s.length = 4) (hi : i < 4) : na (s.set i v) j = if i = j then v else na s j := by
  unfold na
  rw [List.getD_eq_getElem?_getD, List.getD_eq_getElem?_getD, List.getElem?_set]
  by_cases h : i = j
  · subst h; rw [if_pos rfl, if_pos (by omega), if_pos rfl]; rfl
  · rw [if_neg h, if_neg h]
theorem Zd0 {d : Dsk} (hd : d.ok) {s : HSt} (hs : d.inS s) {i : Nat} (hi : i < d.n) (h : na s i < na d.most i) :
    d.inS (s.set i (na s i + 1)) ∧ Z1A d.n s (s.set i (na s i + 1)) = true ∧ rzm d (s.set i (na s i + 1)) i < rzm d s i := by
  have hn := hd.n
  have hsl := hs.len
  have hmv := hd.ever i hi
  have hsi := hs.at_ i hi
  have ha : ∀ j, na (s.set i (na s i + 1)) j = if i = j then na s i + 1 else na s j := fun j => Zeo hsl (by omega)
  have hin : d.inS (s.set i (na s i + 1)) := by
    refine ⟨by rw [List.length_set]; exact hsl, fun k hk => ?_, fun k hk hk' => ?_⟩
    · rw [ha]
      by_cases e : i = k
      · subst e; rw [if_pos rfl]; right; omega
      · rw [if_neg e]; exact hs.at_ k hk
    · rw [ha, if_neg (by omega)]; exact hs.out k hk hk'
  refine ⟨hin, undP_iff.2 fun k hk => ?_, ?_⟩
  · rw [ha]; split
    · rename_i e; subst e; omega
    · exact Int.le_refl _
  · have h0 := Zhz hd hin
    have e : mz d (s.set i (na s i + 1)) = mz d s - 1 := by
      unfold mz
      rw [ha, ha, ha, ha]
      have hi4 : i < 4 := by omega
      match i, hi4 with
      | 0, _ => simp; omega
      | 1, _ => simp; omega
      | 2, _ => simp; omega
      | 3, _ => simp; omega
    unfold rzm
    rw [e] at h0 ⊢
    omega
theorem Rz.trans {d : Dsk} {n : Nat} {days : Int} {s u t : HSt} (h : Rz d n days u t) (hle : Z1A d.n s u = true) (hl : d.lvl n u ≤ days) : Rz d n days s t :=
  ⟨h.inS, Z5y hle h.le, .inr (by rcases h.lv with rfl | h1; exact hl; exact h1)⟩
theorem Z5U {d : Dsk} (hd : d.ok) {s t : HSt} (hs : d.inS s) {l : List Nat} (hl : l ∈ d.trs false) (hn : d.next s l = some t) {v w : Int} (hv : Kpt d s v) (hw : Kpt d t w) (h : v ≠ 1000000) : w < v := by
  have ht := d.next_inS hd hs (d.trs_lt hl) hn
  have key : ∀ j : Nat, (w = 1000000 ∨ (j : Int) ≤ w) → ((j + 1 : Nat) : Int) ≤ v := fun j hj => by
    obtain ⟨u, c, hp⟩ := (Z4w hd ht hw j).2 hj
    rcases (Z4w hd hs hv (j + 1)).1 ⟨u, _, d.pth_cons hl hn hp⟩ with h1 | h1
    · exact absurd h1 h
    · exact h1
  have h1 := Z2i hw; have h2 := Z2i hv
  by_cases h3 : w = 1000000
  · have := key 20000 (.inl h3); omega
  · have := key w.toNat (.inr (by omega)); omega
structure Bq (d : Dsk) (n : Nat) (s0 : HSt) (V : List HSt) (j : Nat) : Prop where
  nd : V.Nodup
  sts : ∀ v ∈ V, d.inS v
  lv : ∀ v ∈ V, d.lvl n v ≤ d.lvl n s0
  fst : ∃ v ∈ V, Z1A d.n s0 v = true
  cov : ∀ i v, i < j → V[i]? = some v → ∀ l ∈ d.trs false, ∀ t, d.next v l = some t → ∃ u ∈ V, Z1A d.n t u = true ∧ d.lvl n u < d.lvl n v
theorem Bq.start {d : Dsk} {n : Nat} {s0 u : HSt} (h : Rz d n (d.lvl n s0) s0 u) : Bq d n s0 [u] 0 :=
  ⟨by simp, fun v hv => by rw [List.mem_singleton.1 hv]; exact h.inS, fun v hv => by
    rw [List.mem_singleton.1 hv]
    rcases h.lv with rfl | h1
    · exact Int.le_refl _
    · exact h1, ⟨u, by simp, h.le⟩, fun i v hi => absurd hi (Nat.not_lt_zero _)⟩
theorem Bq.add {d : Dsk} {n : Nat} {s0 u : HSt} {V : List HSt} {j : Nat} (h : Bq d n s0 V j) (hj : j ≤ V.length) (hu : d.inS u) (hn : u ∉ V) (hl : d.lvl n u ≤ d.lvl n s0) : Bq d n s0 (V ++ [u]) j where
  nd := List.nodup_append.2 ⟨h.nd, by simp, fun x hx y hy e => hn (by rw [← List.mem_singleton.1 hy, ← e]; exact hx)⟩
  sts v hv := by
    rcases List.mem_append.1 hv with hv | hv
    · exact h.sts v hv
    · rw [List.mem_singleton.1 hv]; exact hu
  lv v hv := by
    rcases List.mem_append.1 hv with hv | hv
    · exact h.lv v hv
    · rw [List.mem_singleton.1 hv]; exact hl
  fst := by obtain ⟨v, hv, h1⟩ := h.fst; exact ⟨v, List.mem_append_left _ hv, h1⟩
  cov i v hi hv l hl t ht := by
    rw [List.getElem?_append_left (by omega)] at hv
    obtain ⟨w, hw, h1⟩ := h.cov i v hi hv l hl t ht
    exact ⟨w, List.mem_append_left _ hw, h1⟩
def CvK (d : Dsk) (n : Nat) (V : List HSt) (p : HSt) (k : Nat) : Prop := ∀ i l, i < k → (d.trs false)[i]? = some l → ∀ t, d.next p l = some t → ∃ u ∈ V, Z1A d.n t u = true ∧ d.lvl n u < d.lvl n p
theorem CvK.more {d : Dsk} {n : Nat} {V : List HSt} {p : HSt} {k : Nat} {l : List Nat} (h : CvK d n V p k) (hk : (d.trs false)[k]? = some l) (hl : ∀ t, d.next p l = some t → ∃ u ∈ V, Z1A d.n t u = true ∧ d.lvl n u < d.lvl n p) : CvK d n V p (k + 1) := fun i m hi hm => by
  rcases Nat.lt_or_ge i k with h1 | h1
  · exact h i m h1 hm
  · obtain rfl : i = k := by omega
    rw [hk] at hm; cases hm; exact hl
theorem CvK.add {d : Dsk} {n : Nat} {V : List HSt} {p : HSt} {k : Nat} (h : CvK d n V p k) (u : HSt) : CvK d n (V ++ [u]) p k := fun i l hi hl t ht => by
  obtain ⟨w, hw, h1⟩ := h i l hi hl t ht
  exact ⟨w, List.mem_append_left _ hw, h1⟩
theorem Bq.next {d : Dsk} {n : Nat} {s0 p : HSt} {V : List HSt} {j : Nat} (h : Bq d n s0 V j) (hp : V[j]? = some p) (hc : CvK d n V p (d.trs false).length) : Bq d n s0 V (j + 1) :=
  ⟨h.nd, h.sts, h.lv, h.fst, fun i v hi hv l hl t ht => by
    rcases Nat.lt_or_ge i j with h1 | h1
    · exact h.cov i v h1 hv l hl t ht
    · obtain rfl : i = j := by omega
      rw [hp] at hv; cases hv
      obtain ⟨k, hk⟩ := List.getElem?_of_mem hl
      exact hc k l (List.getElem?_eq_some_iff.1 hk).1 hk t ht⟩
theorem Bq.few {d : Dsk} (hd : d.ok) {n : Nat} {s0 : HSt} {V : List HSt} {j : Nat} (h : Bq d n s0 V j) : V.length ≤ d.nst := by
  have := Z3y h.nd (m := d.sts) fun t ht => (d.mem_sts hd t).2 (h.sts t ht)
  rw [d.sts_len] at this
  exact this
def wlV (d : Dsk) (n : Nat) (V : List HSt) : WL := V.map fun v => (v.take d.n, d.lvl n v)
theorem Zd2 {d : Dsk} {s : HSt} (hn : d.n ≤ 4) (h : d.inS s) : pad (s.take d.n) = s := by
  have hl := h.len
  refine Z9s (Z0Y (by rw [List.length_take]; omega)) hl fun k hk => ?_
  rw [Z13]
  by_cases hkn : k < d.n
  · unfold na; rw [List.getD_eq_getElem?_getD, List.getD_eq_getElem?_getD, List.getElem?_take, if_pos hkn]
  · rw [h.out k hk (by omega)]
    unfold na
    rw [List.getD_eq_getElem?_getD, List.getElem?_eq_none (by rw [List.length_take]; omega)]; rfl
theorem Z7n {n : Nat} {s t : List Int} : Z1A n s (t.take n) = Z1A n s t := by
  rw [Bool.eq_iff_iff, undP_iff, undP_iff]
  have key : ∀ k < n, na (t.take n) k = na t k := fun k hk => by unfold na; rw [List.getD_eq_getElem?_getD, List.getD_eq_getElem?_getD, List.getElem?_take, if_pos hk]
  exact ⟨fun h k hk => by rw [← key k hk]; exact h k hk, fun h k hk => by rw [key k hk]; exact h k hk⟩
theorem Bq.wall {b : Barn} (hok : b.ok) {n : Nat} (hn : n ≤ 14641) (hfx : b.dsk.alive (n + 1) = b.dsk.alive n) {V : List HSt} (h : Bq b.dsk n b.state V V.length) (hm : b.dsk.lvl n b.state ≠ 1000000) :
    Z3E b (wlV b.dsk n V) = (b.dsk.lvl n b.state, 0) := by
  have hd := b.dsk_ok hok
  have hmn := hok.many
  have hdn : b.dsk.n = b.bins.length := rfl
  have hks := Z1r (b.state_sts hok) hn hfx
  have hk : ∀ v ∈ V, Kpt b.dsk v (b.dsk.lvl n v) := fun v hv => Z1r ((b.dsk.mem_sts hd v).2 (h.sts v hv)) hn hfx
  have hr : ∀ v ∈ V, 0 ≤ b.dsk.lvl n v ∧ b.dsk.lvl n v ≤ 14641 := fun v hv => by
    have h1 := Z2i (hk v hv); have h2 := Z2i hks; have h3 := h.lv v hv; omega
  have hf := h.few hd
  have hn14 := (b.dsk.nst_le hd).2
  have hwe : Z1H b (wlV b.dsk n V) = 0 := by
    obtain ⟨v0, hv0, _⟩ := h.fst
    have hpos := List.length_pos_of_mem hv0
    refine Z6E (by unfold wlV; rw [List.length_map]; simp [inB]; omega) fun y hy => ?_
    obtain ⟨v, hv, rfl⟩ := List.mem_map.1 hy
    have hi := h.sts v hv
    have hvl := hi.len
    have hvr := hr v hv
    refine Z6c (by dsimp only; rw [List.length_take]; omega) (by simp [inB]; omega) fun k hk => ?_
    obtain ⟨x, hx⟩ : ∃ x, b.bins[k]? = some x := ⟨_, List.getElem?_eq_getElem hk⟩
    have he := (b.most_ever hok hx).1
    have hev := (hd.ever k hk).2.1
    have hna : na (v.take b.dsk.n) k = na v k := by unfold na; rw [List.getD_eq_getElem?_getD, List.getD_eq_getElem?_getD, List.getElem?_take, if_pos (hdn ▸ hk)]
    dsimp only
    rw [hna]
    unfold Z2X
    rw [Z07 hx]
    rcases hi.at_ k hk with ⟨h1, h2⟩ | ⟨h1, h2, h3⟩
    · rw [decide_eq_true (he.1 h1), h2]; rfl
    · rw [decide_eq_false (fun h0 => h1 (he.2 h0)), cond_false]
      have : inB (na v k) 0 10 = true := by simp [inB]; omega
      rw [this]; rfl
  have hmem : ∀ v ∈ V, (v.take b.dsk.n, b.dsk.lvl n v) ∈ wlV b.dsk n V := fun v hv => List.mem_map.2 ⟨v, hv, rfl⟩
  have hws : ∀ s ∈ wlV b.dsk n V, Z6Q b.dsk (wlV b.dsk n V) s = true := fun s hs => by
    obtain ⟨v, hv, rfl⟩ := List.mem_map.1 hs
    unfold Z6Q
    rw [List.all_eq_true]
    intro l hl
    unfold wlL
    dsimp only
    rw [Zd2 hd.n.2 (h.sts v hv)]
    cases hnx : b.dsk.next v l with
    | none => rfl
    | some t =>
      obtain ⟨i, hi⟩ := List.getElem?_of_mem hv
      obtain ⟨u, hu, h1, h2⟩ := h.cov i v (List.getElem?_eq_some_iff.1 hi).1 hi l hl t hnx
      have := Z8z (n := b.dsk.n) (t := t) (hmem u hu) (by dsimp only; rw [Z7n]; exact h1)
      exact decide_eq_true (by dsimp only at this; omega)
  obtain ⟨v0, hv0, hu0⟩ := h.fst
  have hle : Z1o b.dsk.n (wlV b.dsk n V) b.state ≤ b.dsk.lvl n b.state := by
    have := Z8z (n := b.dsk.n) (t := b.state) (hmem v0 hv0) (by dsimp only; rw [Z7n]; exact hu0)
    have h3 := h.lv v0 hv0
    dsimp only at this; omega
  have hkn := Z2i hks
  have hne : Z1o b.dsk.n (wlV b.dsk n V) b.state ≠ 1000000 := by omega
  have hy := Z6q hwe hws hne
  have hs := Z9R hok (W := wlV b.dsk n V) (by rw [hy]) hks
  rw [hy] at hs ⊢
  congr 1
  dsimp only at hs
  omega
def kvL (d : Dsk) (n : Nat) (V : List HSt) : KV := V.map fun s => (s, .int .i64 (d.lvl n s))
theorem Z12 {d : Dsk} {n : Nat} {V : List HSt} (h : ∀ s ∈ V, s.length = 4) : ∀ e ∈ kvL d n V, e.1.length = 4 := fun e he => by
  obtain ⟨s, hs, rfl⟩ := List.mem_map.1 he
  exact h s hs
theorem Z60 {d : Dsk} {n : Nat} : ∀ {V : List HSt} {s : HSt}, s ∉ V → (kvL d n V).put s (.int .i64 (d.lvl n s)) = kvL d n (V ++ [s])
  | [], s, _ => rfl
  | v :: V, s, h => by
    have h1 : ¬ v = s := fun e => h (by simp [e])
    have ih := Z60 (d := d) (n := n) (V := V) (s := s) (fun hm => h (by simp [hm]))
    show KV.put ((v, _) :: kvL d n V) s _ = _
    unfold KV.put
    rw [decide_eq_false h1, cond_false, ih]; rfl
theorem Z0T {d : Dsk} {n : Nat} : ∀ {V : List HSt} {s : HSt}, s ∈ V → (kvL d n V).get s = some (.int .i64 (d.lvl n s))
  | [], s, h => by cases h
  | v :: V, s, h => by
    show KV.get ((v, _) :: kvL d n V) s = _
    unfold KV.get
    rw [List.find?_cons]
    dsimp only
    by_cases e : v = s
    · rw [decide_eq_true e, e]; rfl
    · rw [decide_eq_false e]
      have hm : s ∈ V := by rcases List.mem_cons.1 h with h1 | h1; exact absurd h1.symm e; exact h1
      exact Z0T hm
theorem Z9k {d : Dsk} {n : Nat} : ∀ {V : List HSt} {s : HSt}, s ∉ V → (kvL d n V).get s = none
  | [], s, _ => rfl
  | v :: V, s, h => by
    show KV.get ((v, _) :: kvL d n V) s = _
    unfold KV.get
    rw [List.find?_cons]
    dsimp only
    rw [decide_eq_false (fun e => h (by simp [e]))]
    exact Z9k (d := d) (n := n) (V := V) (s := s) (fun hm => h (by simp [hm]))
theorem PE.slArrHi {P : Program} {L : ZL} {d : Option Tmp} {ty : TypeId} {pos : String} {af : Array Edge} {g : Option (Nat × Bool)} {T m n b off h : Nat} {x y : Operand} {k : IntKind} (hT : arN P T = some (m, n)) (hx : ev L x = some (.pointer (some ⟨b, off, none⟩))) (hy : ev L y = some (.int k h)) (hh : h ≤ m) :
    PE P L ⟨d, .slice T x none (some y) none, ty, pos, af, g⟩ (.slice (some ⟨b, off, none⟩) h m) := fun ρ hρ w => by
  obtain ⟨e, i, hu, hi, rfl⟩ := Zat hT
  have ha : (⟨b, off, none⟩ : Addr).add (0 * i.size) = ⟨b, off, none⟩ := by rw [Z0p]; simp
  have hb : ∀ c w, (Instr.sliceBound (.int k (h : Int)) m c).run P w = .ok h w := fun c w => by rw [Z2p (by omega)]; simp
  simp only [execOp, hρ _ _ hx, hρ _ _ hy, Option.map_none, Option.map_some, Instr.sliceAt, Sem.run_bind, run_underlying hu, Result.andThen, Instr.sureAddr, Sem.run_pure, Instr.sliceBounds, hb, sizeOf, typeInfo, program, hi, Sem.run]
  rw [ha]
  by_cases h0 : m = 0 <;> simp [h0]
theorem ZgW {b e n : Nat} {l : List Int} {H : Zg} {R : Z6} [m : Mem1 b (cel e (ZI l)) H] : ∀ w, St H R w → Z5 (some ⟨b, 0, none⟩) 1 (Zm (l.take n)) w := fun w hs i q hi => by
  rw [List.getElem?_map] at hi
  obtain ⟨v, hv, rfl⟩ := Option.map_eq_some_iff.1 hi
  refine ⟨rfl, b, 0, rfl, fun j x hx => ?_⟩
  have hj : j = 0 := by
    have := (List.getElem?_eq_some_iff.1 hx).1
    simp at this; exact this
  subst hj
  rw [Z2a (hs.held _ m.mem)]
  have hl : l[i]? = some v := by
    rw [List.getElem?_take] at hv
    split at hv
    · exact hv
    · cases hv
  simp only [List.getElem?_cons_zero, Option.some.injEq] at hx
  subst hx
  have h1 := Z3m hl
  simpa using h1
theorem Z8y (b : Barn) (hok : b.ok) (ab : Option Addr) (cb bd m : Nat) (n : Nat) (hn : n ≤ 14641) (kv : KV) (hkv : KvOk b.dsk n kv) (x4 x6 : Nat) (days : Int) (s : HSt) (hs : b.dsk.inS s) (i : Nat) (hi : i ≤ b.bins.length)
    (ih : ∀ (s' : HSt) (i' : Nat) (H : Zg) (R : Z6) [hD : MemRows (some ⟨bd, 0, none⟩) 18 [dcs b (b.sl ab cb) b.lasts b.most m] R] [hX : MemRows (some ⟨x4, 0, none⟩) 1 [[.pointer (some ⟨bd, 0, none⟩)]] R] [hY : MemRows (some ⟨x6, 0, none⟩) 1 [[.func (.func 15) #[] #[.pointer (some ⟨x4, 0, none⟩), .pointer (some ⟨x6, 0, none⟩)]]] R] [hK : MemF (KpF m kv) R], b.dsk.inS s' → i' ≤ b.bins.length → rzm b.dsk s' i' < rzm b.dsk s i → Fn Tryz.prog 15 [stv s', .int .i64 days, .int .i64 i', .pointer (some ⟨x4, 0, none⟩), .pointer (some ⟨x6, 0, none⟩)] H R (fun v H' R' => ∃ t, Rz b.dsk n days s' t ∧ v = stv t ∧ H' = H ∧ R' = R)) (H : Zg) (R : Z6) [hD : MemRows (some ⟨bd, 0, none⟩) 18 [dcs b (b.sl ab cb) b.lasts b.most m] R] [hX : MemRows (some ⟨x4, 0, none⟩) 1 [[.pointer (some ⟨bd, 0, none⟩)]] R] [hY : MemRows (some ⟨x6, 0, none⟩) 1 [[.func (.func 15) #[] #[.pointer (some ⟨x4, 0, none⟩), .pointer (some ⟨x6, 0, none⟩)]]] R] [hK : MemF (KpF m kv) R] :
    Fn Tryz.prog 15 [stv s, .int .i64 days, .int .i64 i, .pointer (some ⟨x4, 0, none⟩), .pointer (some ⟨x6, 0, none⟩)] H R (fun v H' R' => ∃ t, Rz b.dsk n days s t ∧ v = stv t ∧ H' = H ∧ R' = R) := by
 have hmn := hok.many
 have hdk := b.dsk_ok hok
 have hl4 := hdk.lasts.len
 have hm4 := hdk.most.len
 refine Zy Tryz.func15 rfl Tryz.ntmps15 rfl ?_
 refine sqt 2 rfl (bx rfl rfl rfl (fun b5 => alc rfl Z1G rfl (fun b8 => Z0 (sqt 8 rfl (pur 1 rfl (spL rfl rfl (lfB (sz := 1) Z0U rfl) rfl (sp rfl (PE.nilCheck rfl) rfl (sp rfl (PE.fA Z1N rfl) rfl (sp rfl (PE.fA ZE rfl) rfl (spL rfl rfl (lfB (sz := 18) Z0C rfl) rfl (sp rfl (PE.lenSl Z0M rfl) rfl (pur 1 rfl ?_))))))))))))
 refine Z2 rfl ?_ ?_ <;> intro hc0 <;> try simp only [cS] at hc0
 refine sqt 2 rfl (spL rfl rfl (lhI s ZV rfl rfl (hs.len)) rfl ?_)
 refine Z1I rfl rfl rfl Z1e rfl (by rw [Z8]; exact hs.len) rfl (Zu _) ?_
 refine Z4 ?_
 exact Zk (vs := [_]) rfl (.cons (RV.cell rfl (lhI s ZV rfl rfl (hs.len))) .nil) rfl ⟨s, Rz.same hs, rfl, rfl, rfl⟩ (fun w h => (h.del b8).del b5)
 refine Z1 (Z0 (sqt 3 rfl (spL rfl rfl (lhI s ZV rfl rfl (hs.len)) rfl (alc rfl Z1G rfl (fun b9 => ?_)))))
 refine Z1I rfl rfl rfl Z1e rfl (by rw [Z8]; exact hs.len) rfl (Zu _) ?_
 refine Z0 ?_
 refine Zi [0, 1, 3, 0, 0, 8, 40, 120, 248, 511] (.tk 0 (.tk 1 (.ld 2 (.ld 3 (tks 4 4 (.ld 8 (.tk 9 .done))))))) ZH (by kernel_rfl) ?_
 refine Zp 1 rfl (tk rfl (PE.indexArr Z2G rfl rfl (by omega) (by omega)) rfl (ld rfl rfl (lh sc3 rfl (Z3O (s := s) (k := i) (hs.len) (by omega) (by show 0 + ((i : Nat) : Int).toNat * 1 = _; omega))) rfl (ld rfl rfl (lfB (sz := 1) Z0U rfl) rfl (Zp 1 rfl (tk rfl (PE.nilCheck rfl) rfl (tk rfl (PE.fA Z7l rfl) rfl (tk rfl (PE.indexArr Z2G rfl rfl (by omega) (by omega)) rfl (ld rfl rfl (lfB (sz := 18) (x := .int .i64 (na b.most i)) sc3 (Z4k (k := i) hl4 hm4 (by omega) (by show 0 + 13 + ((i : Nat) : Int).toNat * 1 = _; omega))) rfl (Zp 1 rfl ?_)))))))))
 refine Z2 rfl ?_ ?_ <;> intro hc1 <;> try simp only [cS] at hc1
 have hmi := (b.dsk.inS_sml hdk hs).at_ i (by omega)
 have hmi2 := hdk.most.at_ i (by omega)
 obtain ⟨hup, hule, hum⟩ := Zd0 hdk hs (i := i) (show i < b.bins.length by omega) hc1
 have hkt := hkv.get _ ((b.dsk.mem_sts hdk _).2 hup)
 refine sqt 6 rfl (pur 1 rfl (sp rfl (PE.indexArr Z2G rfl rfl (by omega) (by omega)) rfl (spL rfl rfl (lh sc3 rfl (Z3O (s := s) (k := i) (hs.len) (by omega) (by show 0 + ((i : Nat) : Int).toNat * 1 = _; omega))) rfl (sp rfl (PE.add rfl rfl (by omega)) rfl (sp rfl (PE.indexArr Z2G rfl rfl (by omega) (by omega)) rfl ?_)))))
 refine Z1b (l' := ZI (s.set i (na s i + 1))) rfl rfl rfl cn3 rfl rfl rfl (Z50 (k := i) hs.len (by omega) (by show 0 + ((i : Nat) : Int).toNat * 1 = i; omega)) (by rw [Z8, hs.len]; show 0 + ((i : Nat) : Int).toNat * 1 + 1 ≤ 4; omega) ?_
 refine Z0 ?_
 refine Zi [0, 1, 3, 7, 0, 31, 0, 127] (.ld 0 (.tk 1 (.tk 2 (.ld 3 (.ld 4 (.ld 5 (.tk 6 (.tk 7 .done)))))))) ZH (by kernel_rfl) ?_
 refine ld rfl rfl (lfB (sz := 1) Z0U rfl) rfl (tk rfl (PE.nilCheck rfl) rfl (tk rfl (PE.fA Z16 rfl) rfl (ld rfl rfl (lfB (sz := 18) Z1s (ZU hl4 hm4)) rfl (ld rfl rfl (lhA (rest := []) (ZI (s.set i (na s i + 1))) ZV rfl (by rw [List.append_nil]; rfl) (by rw [Z8]; exact hup.len)) rfl ?_))))
 refine ldK rfl rfl rfl (Z59 (b := true) kv (s.set i (na s i + 1)) Z1g (KeyT.of Z0L Z0P) (Z1O zv3) hup.len hkv.len (fun w hs => hs.now hK.mem) false) rfl ?_
 rw [hkt]
 refine Zp 2 rfl ?_
 refine Z2 rfl ?_ ?_ <;> intro hc2 <;> try simp only [cS] at hc2
 refine sqt 6 rfl (spL rfl rfl (lfB (sz := 1) Zdo rfl) rfl (spL rfl rfl (lhA (rest := []) (ZI (s.set i (na s i + 1))) ZV rfl (by rw [List.append_nil]; rfl) (by rw [Z8]; exact hup.len)) rfl (pur 2 rfl ?_)))
 refine clF rfl rfl (Z7j) rfl rfl (ih (s.set i (na s i + 1)) i _ _ hup hi hum) ?_
 rintro _ _ _ ⟨t, ht, rfl, rfl, rfl⟩
 refine Z1I rfl rfl rfl Z1e rfl (by rw [Z8]; exact ht.inS.len) rfl (Zu _) ?_
 refine Z4 ?_
 exact Zk (vs := [_]) rfl (.cons (RV.cell rfl (lhI t ZV rfl rfl (ht.inS.len))) .nil) rfl ⟨t, ht.trans hule hc2, rfl, rfl, rfl⟩ (fun w h => ((h.del b9).del b8).del b5)
 refine Z1 (sqt 7 rfl (spL rfl rfl (lfB (sz := 1) Zdo rfl) rfl (spL rfl rfl (lhI s ZV rfl rfl (hs.len)) rfl (pur 2 rfl (sp rfl (PE.add rfl rfl (by omega)) rfl ?_)))))
 rw [show (i : Int) + 1 = ((i + 1 : Nat) : Int) by omega]
 refine clF rfl rfl (Z7j) rfl rfl (ih s (i + 1) _ _ hs (by omega) (by unfold rzm; have e : b.dsk.n = b.bins.length := rfl; omega)) ?_
 rintro _ _ _ ⟨t, ht, rfl, rfl, rfl⟩
 refine Z1I rfl rfl rfl Z1e rfl (by rw [Z8]; exact ht.inS.len) rfl (Zu _) ?_
 refine Z4 ?_
 exact Zk (vs := [_]) rfl (.cons (RV.cell rfl (lhI t ZV rfl rfl (ht.inS.len))) .nil) rfl ⟨t, ht, rfl, rfl, rfl⟩ (fun w h => ((h.del b9).del b8).del b5)
 refine Z1 (sqt 7 rfl (spL rfl rfl (lfB (sz := 1) Zdo rfl) rfl (spL rfl rfl (lhI s ZV rfl rfl (hs.len)) rfl (pur 2 rfl (sp rfl (PE.add rfl rfl (by omega)) rfl ?_)))))
 rw [show (i : Int) + 1 = ((i + 1 : Nat) : Int) by omega]
 refine clF rfl rfl (Z7j) rfl rfl (ih s (i + 1) _ _ hs (by omega) (by unfold rzm; have e : b.dsk.n = b.bins.length := rfl; omega)) ?_
 rintro _ _ _ ⟨t, ht, rfl, rfl, rfl⟩
 refine Z1I rfl rfl rfl Z1e rfl (by rw [Z8]; exact ht.inS.len) rfl (Zu _) ?_
 refine Z4 ?_
 exact Zk (vs := [_]) rfl (.cons (RV.cell rfl (lhI t ZV rfl rfl (ht.inS.len))) .nil) rfl ⟨t, ht, rfl, rfl, rfl⟩ (fun w h => ((h.del b9).del b8).del b5)
theorem ZbZ (b : Barn) (hok : b.ok) (ab : Option Addr) (cb bd m : Nat) (n : Nat) (hn : n ≤ 14641) (kv : KV) (hkv : KvOk b.dsk n kv) (x4 x6 : Nat) (days : Int) : ∀ (N : Nat) (s : HSt) (i : Nat) (H : Zg) (R : Z6) [hD : MemRows (some ⟨bd, 0, none⟩) 18 [dcs b (b.sl ab cb) b.lasts b.most m] R] [hX : MemRows (some ⟨x4, 0, none⟩) 1 [[.pointer (some ⟨bd, 0, none⟩)]] R] [hY : MemRows (some ⟨x6, 0, none⟩) 1 [[.func (.func 15) #[] #[.pointer (some ⟨x4, 0, none⟩), .pointer (some ⟨x6, 0, none⟩)]]] R] [hK : MemF (KpF m kv) R], b.dsk.inS s → i ≤ b.bins.length → rzm b.dsk s i ≤ N → Fn Tryz.prog 15 [stv s, .int .i64 days, .int .i64 i, .pointer (some ⟨x4, 0, none⟩), .pointer (some ⟨x6, 0, none⟩)] H R (fun v H' R' => ∃ t, Rz b.dsk n days s t ∧ v = stv t ∧ H' = H ∧ R' = R) := by
  intro N
  induction N with
  | zero => intro s i H R _ _ _ _ hs hi hm; exact Z8y b hok ab cb bd m n hn kv hkv x4 x6 days s hs i hi (fun s' i' H R _ _ _ _ _ _ h => absurd h (by omega)) H R
  | succ N ih => intro s i H R _ _ _ _ hs hi hm; exact Z8y b hok ab cb bd m n hn kv hkv x4 x6 days s hs i hi (fun s' i' H R _ _ _ _ h1 h2 h3 => ih s' i' H R h1 h2 (by omega)) H R
theorem Z56 (b : Barn) (hok : b.ok) (ab : Option Addr) (cb bd m : Nat) (n : Nat) (hn : n ≤ 14641) (kv : KV) (hkv : KvOk b.dsk n kv) (x4 x6 : Nat) (days : Int) (s : HSt) (hs : b.dsk.inS s) (H : Zg) (R : Z6) [hD : MemRows (some ⟨bd, 0, none⟩) 18 [dcs b (b.sl ab cb) b.lasts b.most m] R] [hX : MemRows (some ⟨x4, 0, none⟩) 1 [[.pointer (some ⟨bd, 0, none⟩)]] R] [hY : MemRows (some ⟨x6, 0, none⟩) 1 [[.func (.func 15) #[] #[.pointer (some ⟨x4, 0, none⟩), .pointer (some ⟨x6, 0, none⟩)]]] R] [hK : MemF (KpF m kv) R] : Fn Tryz.prog 15 [stv s, .int .i64 days, .int .i64 0, .pointer (some ⟨x4, 0, none⟩), .pointer (some ⟨x6, 0, none⟩)] H R (fun v H' R' => ∃ t, Rz b.dsk n days s t ∧ v = stv t ∧ H' = H ∧ R' = R) :=
  ZbZ b hok ab cb bd m n hn kv hkv x4 x6 days _ s 0 H R hs (Nat.zero_le _) (Nat.le_refl _)
theorem Z7U (bk e n c : Nat) (l : List Int) (hn : n ≤ l.length) (hl : l.length ≤ 1000000) (H : Zg) (R : Z6) [hM : Mem1 bk (cel e (ZI l)) H] :
    Fn Tryz.prog 16 [.slice (some ⟨bk, 0, none⟩) n c] H R (fun v H' R' => ∃ o : OSl 3 1 (Zm (l.take n)), v = o.fs ∧ H' = o.G ++ H ∧ R' = R) := by
 refine Zy Tryz.func16 rfl Tryz.ntmps16 rfl ?_
 refine sqt 1 rfl (pur 1 rfl (Z0 (sqt 2 rfl (pur 1 rfl (sp rfl (PE.eqlNil Z0n rfl rfl) rfl ?_)))))
 refine ZG rfl ?_
 refine Z1 (sqt 4 rfl ?_)
 refine ZgB rfl Z1u rfl (fun o5 ho5 => ?_)
 refine pur 1 rfl ?_
 refine apO o5 rfl Z7F rfl rfl (ZgW (n := n) (l := l) (e := e)) (by rw [Zd, List.length_take]; omega) (by unfold Z0X; rw [List.all_eq_true]; intro r hr; obtain ⟨x, _, rfl⟩ := List.mem_map.1 hr; rfl) (by rw [Zd, List.length_take]; simp only [List.length_nil]; omega) rfl (fun o7 => ?_)
 refine pur 1 rfl (Z4 ?_)
 exact rtA rfl rfl rfl ⟨o7.cast (List.nil_append _), rfl, rfl, rfl⟩ idH
def ZgM (b : Barn) (H : Zg) (R : Z6) : Value → Zg → Z6 → Prop := fun v H' R' => H' = H ∧
  ((b.check ≠ 0 ∧ v = .tuple #[.slice none 0 0, .int .i64 b.check] ∧ R' = R) ∨
   (b.check = 0 ∧ Kpt b.dsk b.state 1000000 ∧ v = .tuple #[.slice none 0 0, .int .i64 6] ∧ R' = R) ∨
   (b.check = 0 ∧ ∃ (m : Int) (W : List WE) (aw : Option Addr) (cw : Nat), m ≠ 1000000 ∧ Kpt b.dsk b.state m ∧ Z3E b (wls W) = (m, 0) ∧ W.length ≤ b.dsk.nst ∧ W.length ≤ cw ∧ (∀ x ∈ W, x.d ≤ m) ∧ v = .tuple #[.slice aw W.length cw, .int .i64 0] ∧
      R' = Z5 aw 2 (ZC W) :: InW W :: R))
theorem Z6u {d : Dsk} (hd : d.ok) {n : Nat} (hn : n ≤ 14641) (hf : d.alive (n + 1) = d.alive n) {s t : HSt} (hs : d.inS s) (ht : d.inS t) (h : Z1A d.n s t = true) : d.lvl n s ≤ d.lvl n t :=
  (Les.kpt (d := d) (d' := d) ⟨rfl, Int.le_refl _, fun _ _ => Int.le_refl _⟩ hd hd hs ht (undP_iff.1 h) (Z1r ((d.mem_sts hd s).2 hs) hn hf) (Z1r ((d.mem_sts hd t).2 ht) hn hf)).1
theorem Z6B {d : Dsk} {n : Nat} {V : List HSt} {j : Nat} {p : HSt} (h : V[j]? = some p) : wlV d n (V.take (j + 1)) = wlV d n (V.take j) ++ [(p.take d.n, d.lvl n p)] := by
  rw [ZK h]; unfold wlV; rw [List.map_append]; rfl
theorem ZS {V : List HSt} {j : Nat} {p : HSt} (h : V[j]? = some p) : Zx (V.drop j) = ZI p :: Zx (V.drop (j + 1)) := by
  rw [List.drop_eq_getElem_cons (List.getElem?_eq_some_iff.1 h).1, (List.getElem?_eq_some_iff.1 h).2]; rfl
theorem Z3K {V : List HSt} {j : Nat} (h : j ≤ V.length) (u : HSt) : Zx (V.drop j) ++ [ZI u] = Zx ((V ++ [u]).drop j) := by
  rw [List.drop_append_of_le_length h]; unfold Zx; rw [List.map_append]; rfl
theorem ZP {H : Zg} {R : Z6} {kv : KV} {s : HSt} {v : Value} {m : Nat} (hs : s.length = 4) (hk : ∀ e ∈ kv, e.1.length = 4) (hg : kv.get s = some v) (hm : ∀ w, St H R w → w.heap[m]? = some (Z0g true kv)) :
    ∀ w, St H R w → Lkp Tryz.prog 55 (.map (some m)) (mkv true s) false v w := fun w hw => by
  have h := Z59 (b := true) kv s Z1g (KeyT.of Z0L Z0P) (Z1O zv3) hs hk hm false w hw
  rw [hg] at h
  exact h
theorem Zes (W : List WE) : (ZC W).flatten.length = W.length * 2 := by rw [Z0i (Zb8 W), ZM]
theorem Zf5 {W : List WE} {junk : List Value} {k i j : Nat} {x : WE} {v : Value} (hx : W[k]? = some x) (hv : (Z0y x)[j]? = some v) (hj : j < 2) (e : i = k * 2 + j) : ((ZC W).flatten ++ junk)[i]? = some v := by
  have hk := (List.getElem?_eq_some_iff.1 hx).1
  rw [List.getElem?_append_left (by rw [Zes]; omega), e]
  exact Z3e (sz := 2) (rows := ZC W) (Zb8 W) (Z0r hx) hv
structure WO where
  b : Nat
  cap : Nat
  l : List Int
  junk : List Value
  d : Int
def WO.we (x : WO) : WE := ⟨some ⟨x.b, 0, none⟩, x.cap, x.l, x.d⟩
def wos (l : List WO) : List WE := l.map WO.we
theorem Z2u (l : List WO) : (wos l).length = l.length := List.length_map _
theorem Z3G (l k : List WO) : wos (l ++ k) = wos l ++ wos k := by unfold wos; rw [List.map_append]
def WO.blk (x : WO) : Nat × Obj := (x.b, cel 3 (ZI x.l ++ x.junk))
def wob (l : List WO) : Zg := l.map WO.blk
theorem ZeD (l k : List WO) : wob (l ++ k) = wob l ++ wob k := by unfold wob; rw [List.map_append]
theorem St.wobs : ∀ {l : List WO} {H : Zg} {R : Z6} {w : World}, St (wob l ++ H) R w → St H (InW (wos l) :: R) w
  | [], H, R, w, h => St.inw0 h
  | x :: l, H, R, w, h => by
    have h1 : St (wob l ++ H) (Z5 (some ⟨x.b, 0, none⟩) 1 (Zm x.l) :: R) w := St.rows (e := 3) (sz := 1) (rows := Zm x.l) (rest := x.junk) (by rw [show (Zm x.l).flatten = ZI x.l from Z06 x.l]; exact h) (Z3r x.l)
    have h2 := St.wobs (l := l) h1
    have h3 := h2.also (f := InW (wos (x :: l))) (fun w' hw y hy => by
      rcases List.mem_cons.1 hy with rfl | hy
      · exact hw (Z5 (some ⟨x.b, 0, none⟩) 1 (Zm x.l)) (by simp)
      · exact hw (InW (wos l)) (by simp) y hy)
    exact h3.facts (fun g hg => by rcases List.mem_cons.1 hg with h4 | h4 <;> simp [h4])
theorem OSl.wo (l : List Int) (d : Int) (o : OSl 3 1 (Zm l)) (h : o.here) : ∃ x : WO, x.l = l ∧ x.d = d ∧ o.fs = .slice (some ⟨x.b, 0, none⟩) x.l.length x.cap ∧ o.G = [x.blk] := by
  obtain ⟨b, c, hf⟩ := h
  rcases o.is with ⟨_, h2, _⟩ | ⟨b', cap, junk, h1, h2, _⟩
  · rw [h2] at hf; cases hf
  · refine ⟨⟨b', cap, l, junk, d⟩, rfl, rfl, by rw [h1, Zd], ?_⟩
    rw [h2, show (Zm l).flatten = ZI l from Z06 l]; rfl
theorem ZaI {G : Zg} {l : List WO} {x : WO} {T : Zg} : (x.blk :: (G ++ (wob l ++ T))).Perm (G ++ (wob (l ++ [x]) ++ T)) := by
  refine (List.perm_middle (l₁ := G)).symm.trans (List.Perm.append_left _ ?_)
  rw [ZeD, List.append_assoc]
  exact (List.perm_middle (l₁ := wob l)).symm
theorem Zc3 (n : Nat) (hn : n ≤ 3) (H : Zg) (R : Z6) :
    Fn Tryz.prog 4 [.int .i64 n] H R (fun v H' R' => ∃ ba, v = (thr n).v (.slice (some ⟨ba, 0, none⟩) n 3) ∧ H' = (ba, cel 40 (Z7 (thr 3).bins).flatten) :: H ∧ R' = R) := by
 refine Zy Tryz.func4 rfl Tryz.ntmps4 rfl ?_
 refine sqt 1 rfl (alc rfl Z0w rfl (fun b2 => sqt 8 rfl (sp rfl (PE.build (out := [_, _]) Z4r Z2C rfl rfl) rfl (sp rfl (PE.build (out := [_, _, _, _]) Zdk Z4M rfl rfl) rfl (sp rfl (PE.build (out := [_, _]) Z4r Z2C rfl rfl) rfl (sp rfl (PE.build (out := [_, _, _, _]) Zdk Z4M rfl rfl) rfl (sp rfl (PE.build (out := [_, _]) Z4r Z2C rfl rfl) rfl (sp rfl (PE.build (out := [_, _, _, _]) Zdk Z4M rfl rfl) rfl ?_))))))))
 refine bsl (out := [_, _, _, _, _, _, _, _, _, _, _, _]) rfl Z9Q Z4M rfl rfl rfl rfl rfl rfl (fun b10 => ?_)
 refine pur 1 rfl (sqt 10 rfl (sp rfl (PE.buildArr (out := [_, _, _, _, _, _]) Z5a Zhq rfl rfl) rfl (pur 3 rfl (sp rfl (PE.lenSl Z0M rfl) rfl (sp rfl (PE.min rfl rfl) rfl (sp rfl (PE.max rfl rfl) rfl (sp rfl (PE.slHi (h := n) Z9Q rfl (by rw [show (max (0 : Int) (min (n : Int) ((3 : Nat) : Int))) = (n : Int) by omega]; rfl) (by omega)) rfl (sp rfl (PE.build (out := [_, _, _, _, _, _, _, _, _]) Z6p Z0w rfl rfl) rfl ?_))))))))
 refine sto rfl rfl rfl Z03 rfl rfl rfl rfl ?_
 refine Z4 ?_
 exact Zk (vs := [_]) rfl (.cons (RV.cell rfl (lhA [_, _, _, _, _, _, _, _, _] ZD rfl rfl rfl)) .nil) rfl ⟨b10, rfl, rfl, rfl⟩ (fun w h => h.del b2)
def Zi1 (b : Barn) (days : Int) (H : Zg) (R : Z6) : Value → Zg → Z6 → Prop := fun v H' R' =>
  ((Z09 b days ≠ 0 ∧ v = .tuple #[.slice none 0 0, .int .i64 0, .int .i64 (Z09 b days)] ∧ H' = H ∧ R' = R) ∨
   (Z09 b days = 0 ∧ ∃ (pl : List PL) (bp : Nat), lls pl = Z3B b days ∧ v = .tuple #[.slice (some ⟨bp, 0, none⟩) days.toNat days.toNat, .int .i64 (Z0l b days), .int .i64 0] ∧ H' = (bp, cel 22 (Z9 pl).flatten) :: H ∧ R' = Inn pl :: R))
def ZgX (b : Barn) (days : Int) (H : Zg) (R : Z6) : Value → Zg → Z6 → Prop := fun v H' R' =>
  ((Z09 b days ≠ 0 ∧ v = .tuple #[.slice none 0 0, .int .i64 (Z09 b days)] ∧ H' = H ∧ R' = R) ∨
   (Z09 b days = 0 ∧ ∃ (pl : List PL) (bp : Nat), lls pl = Z3B b days ∧ v = .tuple #[.slice (some ⟨bp, 0, none⟩) days.toNat days.toNat, .int .i64 0] ∧ H' = (bp, cel 22 (Z9 pl).flatten) :: H ∧ R' = Inn pl :: R))
theorem ZcH (b : Barn) (ab : Option Addr) (cb : Nat) (hl : b.bins.length ≤ 9223372036854775807) (hr : b.rise.length = 6) (days : Int) (H : Zg) (R : Z6) [hB : MemRows ab 4 (Z7 b.bins) R] :
    Fn Tryz.prog 24 [b.v (b.sl ab cb), .int .i64 days] H R (Zi1 b days H R) := by
 refine Zy Tryz.func24 rfl Tryz.ntmps24 rfl ?_
 refine sqt 4 rfl (bx rfl rfl rfl (fun b2 => pur 3 rfl (sqt 7 rfl (spL rfl rfl (lhA (btl b (b.sl ab cb)) ZD rfl rfl rfl) rfl ?_))))
 refine cl rfl Z9V rfl rfl (Z2H b ab cb hl hr _ _) ?_
 rintro _ _ _ (⟨hck, rfl, rfl, rfl⟩ | ⟨hck, bd, m, rfl, rfl, rfl⟩)
 refine pur 5 rfl (Z0 (Z3 (sqt 3 rfl (pur 3 rfl ?_))))
 refine Zq (congrArg (fun b => some (Value.bool b)) (dT hck)) ?_
 refine sqt 4 rfl ?_
 have ese : Z09 b days = b.check := by unfold Z09; rw [dF hck]; rfl
 refine pur 4 rfl (Z4 ?_)
 exact rtC rfl rfl rfl rfl rfl (.inl ⟨by rw [ese]; exact hck, by rw [ese]; rfl, rfl, rfl⟩) drp
 have hok := Barn.ok_of hr hck
 have hdk := b.dsk_ok hok
 have hl4 := hdk.lasts.len
 have hm4 := hdk.most.len
 refine pur 5 rfl (Z0 (Z3 (sqt 3 rfl (pur 3 rfl ?_))))
 refine ZG (rfl) ?_
 refine sqt 4 rfl (pur 1 rfl ?_)
 refine clV rfl Z3R rfl rfl (Z9T _ _ _ _ _) ?_
 refine pur 2 rfl ?_
 refine Z2 rfl ?_ ?_ <;> intro hc1
 have ese : Z09 b days = 3 := by unfold Z09; rw [dT hck, hc1]; rfl
 refine sqt 3 rfl (pur 3 rfl (Z4 ?_))
 exact rtC rfl rfl rfl rfl rfl (.inl ⟨by rw [ese]; decide, by rw [ese]; rfl, rfl, rfl⟩) (fun w h => ((h.del b2).del m).ftail)
 have hin := hc1
 rw [Bool.not_eq_false'] at hin
 simp only [inB, Bool.and_eq_true, decide_eq_true_eq] at hin
 obtain ⟨n, rfl⟩ : ∃ n : Nat, days = n := ⟨days.toNat, by omega⟩
 refine Z1 (sqt 10 rfl (pur 2 rfl ?_))
 refine cl rfl Zfq rfl rfl (Z71 b hok ab cb bd m n (by omega) _ _) ?_
 rintro _ _ R1 hQ
 rcases hQ with ⟨hbn, rfl, rfl, hR1⟩ | ⟨sb, nb, pl, bp, hbn, hpl, rfl, rfl, hR1⟩ <;> obtain rfl := hR1.symm
 refine pur 7 rfl (Z0 (sqt 2 rfl ?_))
 have ese : Z09 b (n : Int) = 6 := by unfold Z09; rw [dT hck, hc1, Int.toNat_natCast, hbn]; rfl
 refine pur 2 rfl ?_
 refine Zq rfl ?_
 refine sqt 3 rfl (pur 3 rfl (Z4 ?_))
 exact rtC rfl rfl rfl rfl rfl (.inl ⟨by rw [ese]; decide, by rw [ese]; rfl, rfl, rfl⟩) (fun w h => ((h.del b2).del m).ftail)
 refine pur 7 rfl (Z0 (sqt 2 rfl ?_))
 have ese : Z09 b (n : Int) = 0 := by unfold Z09; rw [dT hck, hc1, Int.toNat_natCast, hbn]; rfl
 have etv : Z0l b (n : Int) = nb := by unfold Z0l; rw [decide_eq_true ese, Int.toNat_natCast, hbn]; rfl
 refine pur 2 rfl ?_
 refine ZG rfl ?_
 refine Z1 (sqt 5 rfl (pur 5 rfl (Z4 ?_)))
 exact rtC rfl rfl rfl rfl rfl (.inr ⟨ese, pl, bp, by unfold Z3B; rw [Int.toNat_natCast, hbn]; exact hpl, by rw [etv]; rfl, rfl, rfl⟩) (fun w h => St.sub ((h.del b2).del m))
theorem ZdG (b : Barn) (ab : Option Addr) (cb : Nat) (hl : b.bins.length ≤ 9223372036854775807) (hr : b.rise.length = 6) (days : Int) (H : Zg) (R : Z6) [hB : MemRows ab 4 (Z7 b.bins) R] :
    Fn Tryz.prog 7 [b.v (b.sl ab cb), .int .i64 days] H R (ZgX b days H R) := by
 refine Zy Tryz.func7 rfl Tryz.ntmps7 rfl ?_
 refine sqt 3 rfl (bx rfl rfl rfl (fun b2 => pur 2 rfl (sqt 10 rfl (spL rfl rfl (lhA (btl b (b.sl ab cb)) ZD rfl rfl rfl) rfl (pur 1 rfl ?_)))))
 refine cl rfl ZeF rfl rfl (ZcH b ab cb hl hr days _ _) ?_
 rintro _ _ R1 hQ
 rcases hQ with ⟨hpe, rfl, rfl, hR1⟩ | ⟨hpe, pl, bp, hpl, rfl, rfl, hR1⟩ <;> obtain rfl := hR1.symm
 refine pur 7 rfl (sqt 4 rfl (pur 4 rfl (Z4 ?_)))
 exact rtB rfl rfl rfl rfl (.inl ⟨hpe, rfl, rfl, rfl⟩) drp
 refine pur 7 rfl (sqt 4 rfl (pur 4 rfl (Z4 ?_)))
 exact rtB rfl rfl rfl rfl (.inr ⟨hpe, pl, bp, hpl, rfl, rfl, rfl⟩) (fun w h => h.del b2)
end Go.Proofs.YtnifcjgnageniaaGreat
