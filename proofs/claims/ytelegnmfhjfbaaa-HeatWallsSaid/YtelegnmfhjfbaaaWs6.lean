/- Walks of the functions of the program, and the laws that join them: what the last theorem of this claim needs, in order. -/
import Derived.Test.YtelegnmfhjfbaaaWs5
namespace Go.Proofs.Ytelegnmfhjfbaaa
set_option linter.unusedSimpArgs false
set_option linter.unusedVariables false
open Go
theorem cal132 : cal Try.prog 132 = true := by kernel_rfl
theorem el96 : elN Try.prog 96 = some 2 := by kernel_rfl
theorem fo153_0 : fOff Try.prog 153 0 = some 0 := by kernel_rfl
theorem fo153_1 : fOff Try.prog 153 1 = some 1 := by kernel_rfl
theorem isl96 : isSl Try.prog 96 = true := by kernel_rfl
abbrev WL := List (List Int × Int)
def undP (n : Nat) (s t : List Int) : Bool := (List.range n).all fun k => decide (na s k ≤ na t k)
theorem undP_iff {n : Nat} {s t : List Int} : undP n s t = true ↔ ∀ k < n, na s k ≤ na t k := by
  unfold undP
  rw [List.all_eq_true]
  exact ⟨fun h k hk => of_decide_eq_true (h k (List.mem_range.2 hk)), fun h k hk => decide_eq_true (h k (List.mem_range.1 hk))⟩
theorem undP_no {n : Nat} {s t : List Int} {k : Nat} (hk : k < n) (h : na t k < na s k) : undP n s t = false := by
  rw [Bool.eq_false_iff]
  intro h1
  have := undP_iff.1 h1 k hk
  omega
theorem undP_pad (n : Nat) (s t : List Int) : undP n (pad s) t = undP n s t := by unfold undP; simp only [pad_na]
theorem undP_padR (n : Nat) (s t : List Int) : undP n s (pad t) = undP n s t := by unfold undP; simp only [pad_na]
theorem undP_trans {n : Nat} {s t u : List Int} (h1 : undP n s t = true) (h2 : undP n t u = true) : undP n s u = true := undP_iff.2 fun k hk => Int.le_trans (undP_iff.1 h1 k hk) (undP_iff.1 h2 k hk)
def shnS (n : Nat) (t : List Int) (m : Int) (s : List Int × Int) : Int := bif undP n t s.1 then min m s.2 else m
def shnV (n : Nat) (W : WL) (t : List Int) : Int := W.foldl (shnS n t) 1000000
theorem shnV_snoc (n : Nat) (W : WL) (s : List Int × Int) (t : List Int) : shnV n (W ++ [s]) t = shnS n t (shnV n W t) s := by unfold shnV; rw [List.foldl_append]; rfl
theorem shnV_pad (n : Nat) (W : WL) (t : List Int) : shnV n W (pad t) = shnV n W t := by
  unfold shnV
  have e : shnS n (pad t) = shnS n t := by funext m s; unfold shnS; rw [undP_pad]
  rw [e]
theorem shn_fold {n : Nat} {t : List Int} : ∀ (W : WL) (m : Int), W.foldl (shnS n t) m ≤ m ∧ (∀ s ∈ W, undP n t s.1 = true → W.foldl (shnS n t) m ≤ s.2) ∧ (W.foldl (shnS n t) m = m ∨ ∃ s ∈ W, undP n t s.1 = true ∧ W.foldl (shnS n t) m = s.2)
  | [], m => ⟨Int.le_refl _, by simp, .inl rfl⟩
  | x :: W, m => by
    obtain ⟨h1, h2, h3⟩ := shn_fold (n := n) (t := t) W (shnS n t m x)
    rw [List.foldl_cons]
    have hx : shnS n t m x ≤ m ∧ (undP n t x.1 = true → shnS n t m x ≤ x.2) ∧ (shnS n t m x = m ∨ (undP n t x.1 = true ∧ shnS n t m x = x.2)) := by
      unfold shnS
      cases undP n t x.1 with
      | false => exact ⟨Int.le_refl _, by simp, .inl rfl⟩
      | true => simp only [cond_true, forall_const, true_and]; omega
    refine ⟨by omega, fun s hs hu => ?_, ?_⟩
    · rcases List.mem_cons.1 hs with rfl | hs
      · have := hx.2.1 hu; omega
      · exact h2 s hs hu
    · rcases h3 with h3 | ⟨s, hs, hu, h3⟩
      · rcases hx.2.2 with h4 | ⟨h4, h5⟩
        · exact .inl (by omega)
        · exact .inr ⟨x, by simp, h4, by omega⟩
      · exact .inr ⟨s, by simp [hs], hu, h3⟩
theorem shnV_mem {n : Nat} {W : WL} {t : List Int} {s : List Int × Int} (hs : s ∈ W) (hu : undP n t s.1 = true) : shnV n W t ≤ s.2 := (shn_fold W 1000000).2.1 s hs hu
theorem shnV_is {n : Nat} {W : WL} {t : List Int} (h : shnV n W t ≠ 1000000) : ∃ s ∈ W, undP n t s.1 = true ∧ shnV n W t = s.2 := (shn_fold W 1000000).2.2.resolve_left h
def badL (b : Barn) (k : Nat) (v : Int) : Bool := bif decide (b.worst (b.bins.getD k hb0) = 0) then decide (v ≠ 1000000) else !(inB v 0 10)
def stErr (b : Barn) (s : List Int × Int) : Int := bif decide (s.1.length ≠ b.bins.length) then 2 else bif !(inB s.2 0 20000) then 3 else bif (List.range b.bins.length).any (fun k => badL b k (na s.1 k)) then 3 else 0
def wlErr (b : Barn) (W : WL) : Int := bif !(inB (W.length : Int) 1 20000) then 2 else match W.find? (fun s => decide (stErr b s ≠ 0)) with
  | some s => stErr b s
  | none => 0
theorem stErr_len {b : Barn} {s : List Int × Int} (h : s.1.length ≠ b.bins.length) : stErr b s = 2 := by unfold stErr; rw [decide_eq_true h]; rfl
theorem stErr_days {b : Barn} {s : List Int × Int} (h : s.1.length = b.bins.length) (hd : inB s.2 0 20000 = false) : stErr b s = 3 := by unfold stErr; rw [decide_eq_false (by simpa using h), hd]; rfl
theorem stErr_num {b : Barn} {s : List Int × Int} (h : s.1.length = b.bins.length) (hd : inB s.2 0 20000 = true) {k : Nat} (hk : k < b.bins.length) (hb : badL b k (na s.1 k) = true) : stErr b s = 3 := by
  unfold stErr
  rw [decide_eq_false (by simpa using h), hd, show (List.range b.bins.length).any (fun k => badL b k (na s.1 k)) = true from List.any_eq_true.2 ⟨k, List.mem_range.2 hk, hb⟩]; rfl
theorem stErr_ok {b : Barn} {s : List Int × Int} (h : s.1.length = b.bins.length) (hd : inB s.2 0 20000 = true) (hb : ∀ k < b.bins.length, badL b k (na s.1 k) = false) : stErr b s = 0 := by
  unfold stErr
  rw [decide_eq_false (by simpa using h), hd, show (List.range b.bins.length).any (fun k => badL b k (na s.1 k)) = false from List.any_eq_false.2 fun k hk => by rw [hb k (List.mem_range.1 hk)]; simp]; rfl
theorem stErr_zero {b : Barn} {s : List Int × Int} (h : stErr b s = 0) : s.1.length = b.bins.length ∧ (0 ≤ s.2 ∧ s.2 ≤ 20000) ∧ ∀ k < b.bins.length, badL b k (na s.1 k) = false := by
  unfold stErr at h
  by_cases h1 : s.1.length = b.bins.length
  · rw [decide_eq_false (by simpa using h1), cond_false] at h
    cases h2 : inB s.2 0 20000 with
    | false => rw [h2] at h; cases h
    | true =>
      rw [h2, Bool.not_true, cond_false] at h
      cases h3 : (List.range b.bins.length).any (fun k => badL b k (na s.1 k)) with
      | true => rw [h3] at h; cases h
      | false =>
        refine ⟨h1, by simpa [inB] using h2, fun k hk => ?_⟩
        have := List.any_eq_false.1 h3 k (List.mem_range.2 hk)
        simpa using this
  · rw [decide_eq_true h1] at h; cases h
theorem badL_ok {b : Barn} {k : Nat} {v : Int} (h : badL b k v = false) : (b.worst (b.bins.getD k hb0) = 0 → v = 1000000) ∧ (b.worst (b.bins.getD k hb0) ≠ 0 → 0 ≤ v ∧ v ≤ 10) := by
  unfold badL at h
  by_cases h0 : b.worst (b.bins.getD k hb0) = 0
  · rw [decide_eq_true h0, cond_true, decide_eq_false_iff_not] at h
    exact ⟨fun _ => by simpa using h, fun h1 => absurd h0 h1⟩
  · rw [decide_eq_false h0, cond_false, Bool.not_eq_false'] at h
    exact ⟨fun h1 => absurd h1 h0, fun _ => by simpa [inB] using h⟩
theorem wlErr_len {b : Barn} {W : WL} (h : inB (W.length : Int) 1 20000 = false) : wlErr b W = 2 := by unfold wlErr; rw [h]; rfl
theorem find_first {α : Type} {p : α → Bool} : ∀ {l : List α} {i : Nat} {x : α}, l[i]? = some x → p x = true → (∀ y ∈ l.take i, p y = false) → l.find? p = some x
  | [], i, x, h, _, _ => by cases h
  | y :: l, 0, x, h, hp, _ => by cases h; rw [List.find?_cons, hp]
  | y :: l, i + 1, x, h, hp, hn => by
    rw [List.find?_cons, hn y (by simp)]
    exact find_first (l := l) (i := i) (by simpa using h) hp fun z hz => hn z (by simp [hz])
theorem wlErr_at {b : Barn} {W : WL} {i : Nat} {s : List Int × Int} (h : inB (W.length : Int) 1 20000 = true) (hs : W[i]? = some s) (hn : ∀ y ∈ W.take i, stErr b y = 0) (he : stErr b s ≠ 0) : wlErr b W = stErr b s := by
  unfold wlErr
  rw [h, Bool.not_true, cond_false, find_first (p := fun s => decide (stErr b s ≠ 0)) hs (decide_eq_true he) (fun y hy => decide_eq_false (by rw [hn y hy]; simp))]
theorem wlErr_ok {b : Barn} {W : WL} (h : inB (W.length : Int) 1 20000 = true) (hn : ∀ y ∈ W, stErr b y = 0) : wlErr b W = 0 := by
  unfold wlErr
  rw [h, Bool.not_true, cond_false, List.find?_eq_none.2 fun y hy => by rw [hn y hy]; simp]
theorem wlErr_zero {b : Barn} {W : WL} (h : wlErr b W = 0) : (1 ≤ W.length ∧ W.length ≤ 20000) ∧ ∀ y ∈ W, stErr b y = 0 := by
  unfold wlErr at h
  cases h1 : inB (W.length : Int) 1 20000 with
  | false => rw [h1] at h; cases h
  | true =>
    rw [h1, Bool.not_true, cond_false] at h
    refine ⟨by simp [inB] at h1; omega, fun y hy => ?_⟩
    cases hf : W.find? (fun s => decide (stErr b s ≠ 0)) with
    | some s =>
      rw [hf] at h
      have := List.find?_some hf
      dsimp only at h
      rw [h] at this; simp at this
    | none =>
      have := List.find?_eq_none.1 hf y hy
      simpa using this
theorem take_all {α : Type} {l : List α} {i : Nat} {x : α} {p : α → Prop} (hx : l[i]? = some x) (h : ∀ y ∈ l.take i, p y) (hp : p x) : ∀ y ∈ l.take (i + 1), p y := fun y hy => by
  rw [take_snoc hx] at hy
  rcases List.mem_append.1 hy with hy | hy
  · exact h y hy
  · rw [List.mem_singleton.1 hy]; exact hp
def wlL (d : Dsk) (W : WL) (s : List Int × Int) (l : List Nat) : Bool := match d.next (pad s.1) l with
  | none => true
  | some t => decide (shnV d.n W t < s.2)
def wlSt (d : Dsk) (W : WL) (s : List Int × Int) : Bool := (d.trs false).all (wlL d W s)
theorem wlSt_any (d : Dsk) (W : WL) (s : List Int × Int) : wlSt d W s = !((d.trs false).any fun l => !wlL d W s l) := by
  unfold wlSt
  rw [Bool.eq_iff_iff, List.all_eq_true, Bool.not_eq_true', List.any_eq_false]
  simp
def isWl (d : Dsk) (W : WL) : Bool := W.all (wlSt d W)
def shwV (b : Barn) (W : WL) : Int × Int := bif decide (wlErr b W = 0) then (bif isWl b.dsk W && decide (shnV b.dsk.n W b.state ≠ 1000000) then (shnV b.dsk.n W b.state, 0) else (0, 8)) else (0, wlErr b W)
theorem shw_err {b : Barn} {W : WL} (h : wlErr b W ≠ 0) : shwV b W = (0, wlErr b W) := by unfold shwV; rw [decide_eq_false h]; rfl
theorem shw_no {b : Barn} {W : WL} (h : wlErr b W = 0) {s : List Int × Int} (hs : s ∈ W) (hw : wlSt b.dsk W s = false) : shwV b W = (0, 8) := by
  unfold shwV
  rw [decide_eq_true h, cond_true, show isWl b.dsk W = false from List.all_eq_false.2 ⟨s, hs, by rw [hw]; simp⟩]; rfl
theorem shw_none {b : Barn} {W : WL} (h : wlErr b W = 0) (hs : shnV b.dsk.n W b.state = 1000000) : shwV b W = (0, 8) := by
  unfold shwV
  rw [decide_eq_true h, cond_true, decide_eq_false (show ¬ shnV b.dsk.n W b.state ≠ 1000000 by simpa using hs), Bool.and_false]; rfl
theorem shw_yes {b : Barn} {W : WL} (h : wlErr b W = 0) (hw : ∀ s ∈ W, wlSt b.dsk W s = true) (hs : shnV b.dsk.n W b.state ≠ 1000000) : shwV b W = (shnV b.dsk.n W b.state, 0) := by
  unfold shwV
  rw [decide_eq_true h, cond_true, decide_eq_true hs, show isWl b.dsk W = true from List.all_eq_true.2 hw]; rfl
theorem shw_zero {b : Barn} {W : WL} (h : (shwV b W).2 = 0) : wlErr b W = 0 ∧ (∀ s ∈ W, wlSt b.dsk W s = true) ∧ shnV b.dsk.n W b.state ≠ 1000000 ∧ (shwV b W).1 = shnV b.dsk.n W b.state := by
  by_cases h0 : wlErr b W = 0
  · refine ⟨h0, ?_⟩
    cases hw : isWl b.dsk W with
    | false => unfold shwV at h; rw [decide_eq_true h0, hw] at h; cases h
    | true =>
      by_cases hs : shnV b.dsk.n W b.state = 1000000
      · rw [shw_none h0 hs] at h; cases h
      · have hw2 := List.all_eq_true.1 hw
        exact ⟨hw2, hs, by rw [shw_yes h0 hw2 hs]⟩
  · rw [shw_err h0] at h; exact absurd h h0
theorem und_next {d : Dsk} (hd : d.ok) {s s' : HSt} (h : s.length = 4) (h' : s'.length = 4) (hm : ∀ k < d.n, na s' k ≤ 1000000) (hle : undP d.n s s' = true) {l : List Nat} (hl : ∀ k ∈ l, k < d.n) {t : HSt} (e : d.next s l = some t) :
    ∃ t', d.next s' l = some t' ∧ undP d.n t t' = true := by
  have hn := hd.n
  obtain ⟨_, h2⟩ := d.next_at hn.2 h hl e
  have hm2 : ∀ k < d.n, d.mid s l k ≤ d.mid s' l k ∧ d.mid s' l k ≤ 1000000 := fun k hk => by
    have := undP_iff.1 hle k hk
    have := hm k hk
    have := hd.lasts.at_ k (by omega)
    unfold Dsk.mid
    split <;> omega
  obtain ⟨t', ht'⟩ := d.next_some hn.2 h' hl (fun k hk => by have := hm2 k hk; have := (h2 k).1 hk; omega)
  refine ⟨t', ht', undP_iff.2 fun k hk => ?_⟩
  obtain ⟨_, h3⟩ := d.next_at hn.2 h' hl ht'
  have := hm2 k hk
  rw [(h2 k).2, (h3 k).2]
  split <;> split <;> omega
theorem wall_run {b : Barn} (hok : b.ok) {W : WL} (he : wlErr b W = 0) (hw : ∀ s ∈ W, wlSt b.dsk W s = true) : ∀ {p : List (List Nat)} {s t : HSt} {x : List Int × Int}, s.length = 4 → (∀ l ∈ p, l ∈ b.dsk.trs false) → x ∈ W → undP b.dsk.n s x.1 = true → b.dsk.run s p = some t → (p.length : Int) ≤ x.2
  | [], s, t, x, _, _, hx, _, _ => by have := stErr_zero ((wlErr_zero he).2 x hx); simp; omega
  | l :: p, s, t, x, hs, hp, hx, hu, hr => by
    have hd := b.dsk_ok hok
    unfold Dsk.run at hr
    split at hr
    · cases hr
    · rename_i u hu2
      have hlt := b.dsk.trs_lt (hp l (by simp))
      obtain ⟨x1, x2, x3⟩ := stErr_zero ((wlErr_zero he).2 x hx)
      have hmn := hok.many
      have hn : b.dsk.n = b.bins.length := rfl
      obtain ⟨t', h1, h2⟩ := und_next hd hs (pad_len' (l := x.1) (by omega)) (fun k hk => by
        rw [pad_na]
        have := badL_ok (x3 k (hn ▸ hk))
        by_cases h0 : b.worst (b.bins.getD k hb0) = 0
        · have := this.1 h0; omega
        · have := this.2 h0; omega) (by rw [undP_padR]; exact hu) hlt hu2
      have h3 := List.all_eq_true.1 (hw x hx) l (hp l (by simp))
      unfold wlL at h3
      rw [h1] at h3
      dsimp only at h3
      have h3 := of_decide_eq_true h3
      obtain ⟨y, hy, hyu, hye⟩ := shnV_is (n := b.dsk.n) (W := W) (t := t') (by omega)
      have ul : u.length = 4 := (b.dsk.next_at hd.n.2 hs hlt hu2).1
      have := wall_run hok he hw (p := p) ul (fun m hm => hp m (by simp [hm])) hy (undP_trans h2 hyu) hr
      rw [List.length_cons]; push_cast; omega
theorem wall_sound {b : Barn} (hok : b.ok) {W : WL} (h : (shwV b W).2 = 0) {m : Int} (hm : Kpt b.dsk b.state m) : m ≠ 1000000 ∧ m ≤ (shwV b W).1 := by
  obtain ⟨h1, h2, h3, h4⟩ := shw_zero h
  obtain ⟨x, hx, hu, hxe⟩ := shnV_is h3
  have hd := b.dsk_ok hok
  have hs := b.state_inS hok
  have key : ∀ n : Nat, (m = 1000000 ∨ (n : Int) ≤ m) → (n : Int) ≤ x.2 := fun n hn => by
    obtain ⟨t, c, hp⟩ := (kpt_pth hd hs hm n).2 hn
    obtain ⟨p, p1, p2, p3, _⟩ := b.dsk.pth_run hp
    have := wall_run hok h1 h2 hs.len p2 hx hu p3
    omega
  have hx2 := (stErr_zero ((wlErr_zero h1).2 x hx)).2.1
  have hmr := kpt_nn hm
  have hne : m ≠ 1000000 := fun e => by have := key 20001 (.inl e); omega
  refine ⟨hne, ?_⟩
  have := key m.toNat (.inr (by omega))
  omega
theorem wlSt_iff {d : Dsk} (hd : d.ok) {la : List Int} (hla : ∀ k < d.n, na la k = na d.lasts k) {W : WL} {s : List Int × Int} (hs : s.1.length = d.n) : wlSt d W s = true ↔ ∀ u < 2 ^ d.n, ∀ t, rS d.n d.gangs la s.1 u = some t → shnV d.n W t < s.2 := by
  unfold wlSt
  rw [List.all_eq_true]
  constructor
  · intro h u hu t ht
    obtain ⟨h1, h2⟩ := (rS_iff hd hla hs (rS_len ht) hu).1 ht
    have h3 := h _ h1
    unfold wlL at h3
    rw [h2] at h3
    dsimp only at h3
    rw [← shnV_pad]
    exact of_decide_eq_true h3
  · intro h l hl
    obtain ⟨u, hu, rfl, _⟩ := d.mem_trs.1 hl
    unfold wlL
    cases hn : d.next (pad s.1) (bitl d.n u) with
    | none => rfl
    | some t =>
      have hn4 := hd.n
      have hps : (pad s.1).length = 4 := pad_len' (by omega)
      obtain ⟨t1, t2⟩ := d.next_at hn4.2 hps (fun k hk => bitl_lt hk) hn
      have htl : (t.take d.n).length = d.n := by rw [List.length_take]; omega
      have htp : pad (t.take d.n) = t := by
        refine ext4 (pad_len' (by omega)) t1 fun k hk => ?_
        rw [pad_na]
        by_cases hkn : k < d.n
        · unfold na; rw [List.getD_eq_getElem?_getD, List.getD_eq_getElem?_getD, List.getElem?_take, if_pos hkn]
        · have h1 : na (t.take d.n) k = 0 := by unfold na; rw [List.getD_eq_getElem?_getD, List.getElem?_eq_none (by omega)]; rfl
          rw [h1, (t2 k).2, if_neg (by omega)]
          unfold Dsk.mid
          rw [if_neg (fun h1 => hkn (bitl_lt h1)), pad_na]
          unfold na
          rw [List.getD_eq_getElem?_getD, List.getElem?_eq_none (by omega)]; rfl
      have h1 := h u hu (t.take d.n) ((rS_iff hd hla hs htl hu).2 ⟨hl, by rw [htp]; exact hn⟩)
      dsimp only
      rw [← htp, shnV_pad]
      exact decide_eq_true h1
structure WE where
  a : Option Addr
  c : Nat
  l : List Int
  d : Int
def werow (x : WE) : List Value := [.slice x.a x.l.length x.c, .int .i64 x.d]
def werows (l : List WE) : List (List Value) := l.map werow
def wls (l : List WE) : WL := l.map fun x => (x.l, x.d)
theorem werows_len (l : List WE) : (werows l).length = l.length := List.length_map _
theorem wls_len (l : List WE) : (wls l).length = l.length := List.length_map _
theorem we_get {l : List WE} {i : Nat} {x : WE} (h : l[i]? = some x) : (werows l)[i]? = some (werow x) := by unfold werows; rw [List.getElem?_map, h]; rfl
theorem wls_get {l : List WE} {i : Nat} {x : WE} (h : l[i]? = some x) : (wls l)[i]? = some (x.l, x.d) := by unfold wls; rw [List.getElem?_map, h]; rfl
theorem wls_mem {l : List WE} {x : WE} (h : x ∈ l) : (x.l, x.d) ∈ wls l := List.mem_map.2 ⟨x, h, rfl⟩
theorem wls_app (l k : List WE) : wls (l ++ k) = wls l ++ wls k := by unfold wls; rw [List.map_append]
theorem werows_app (l k : List WE) : werows (l ++ k) = werows l ++ werows k := by unfold werows; rw [List.map_append]
def InW (l : List WE) : World → Prop := fun w => ∀ x ∈ l, RowsA x.a 1 (irows x.l) w
theorem St.inw0 {H : Heap} {R : Facts} {w : World} (h : St H R w) : St H (InW [] :: R) w := h.also fun _ _ x hx => by cases hx
theorem St.inwAt {l : List WE} {x : WE} {H : Heap} {R : Facts} {w : World} [m : MemF (InW l) R] (h : St H R w) (hx : x ∈ l) : St H (RowsA x.a 1 (irows x.l) :: R) w := h.also fun _ hw => hw _ m.mem x hx
theorem St.inwSnoc {l : List WE} {H : Heap} {R : Facts} {w : World} (x : WE) [m1 : MemF (InW l) R] [m2 : MemRows x.a 1 (irows x.l) R] (h : St H R w) : St H (InW (l ++ [x]) :: R) w := h.also fun _ hw y hy => by
  rcases List.mem_append.1 hy with hy | hy
  · exact hw _ m1.mem y hy
  · rw [List.mem_singleton.1 hy]; exact hw _ m2.mem
def rsV (m : Int) : Int := bif decide (m = 1000000) then -1 else m
theorem c_runder (s : List Int) (aS : Option Addr) (cs : Nat) (t : List Int) (aT : Option Addr) (ct : Nat) (hst : s.length ≤ t.length) (hs9 : s.length ≤ 1000000) (H : Heap) (R : Facts) [hS : MemRows aS 1 (irows s) R] [hT : MemRows aT 1 (irows t) R] :
    FnV Try.prog 132 [.slice aS s.length cs, .slice aT t.length ct] H R (.bool (undP s.length s t)) := by
 refine fn_of Try.func132 rfl Try.ntmps132 rfl ?_
 refine sy_seq ?_
 refine sy_tx' [0] rfl ?_
 refine sp rfl (PE.assign rfl) rfl ?_
 refine sy_seq ?_
 refine sy_seq ?_
 refine sy_tx' [0] rfl ?_
 refine sp rfl (PE.assign rfl) rfl ?_
 refine sy_block ?_
 refine sy_loop (ι := {k : Nat // k ≤ s.length ∧ ∀ j < k, na s j ≤ na t j}) (fun k => ⟨[(0, .slice aS s.length cs), (1, .slice aT t.length ct), (5, .int .i64 k.1)], H, R⟩) (fun k => s.length - k.1) ⟨0, Nat.zero_le _, fun j hj => absurd hj (Nat.not_lt_zero _)⟩ ?_ (fun k => ?_)
 exact sy_at (by repeat' first | exact Sub.nil | apply Sub.cons | rfl | (simp [lk]; omega)) (fun _ h => h)
 obtain ⟨k, hk, hin⟩ := k
 dsimp only at hk hin ⊢
 refine sy_seq ?_
 refine sy_seq ?_
 refine sy_tx' [0, 1, 2, 3] rfl ?_
 refine sp rfl (PE.move rfl) rfl ?_
 refine sp rfl (PE.move rfl) rfl ?_
 refine sp rfl (PE.lenSl isl40 rfl) rfl ?_
 refine sp rfl (PE.lss rfl rfl) rfl ?_
 refine sy_cond rfl (fun hc0 => ?_) (fun hc0 => ?_)
 try simp only [decide_eq_true_eq, decide_eq_false_iff_not, Bool.and_eq_true, Bool.or_eq_true, Bool.not_eq_true', Int.not_le, Int.not_lt] at hc0
 refine sy_addr (a := aS) (sz := 1) (rows := irows s) (by intro h0; have := congrArg List.length h0; rw [irows_len] at this; simp only [List.length_nil] at this; omega) (fun b1 o1 he => ?_)
 subst he
 refine sy_addr (a := aT) (sz := 1) (rows := irows t) (by intro h0; have := congrArg List.length h0; rw [irows_len] at this; simp only [List.length_nil] at this; omega) (fun b2 o2 he => ?_)
 subst he
 refine sy_skip ?_
 refine sy_seq ?_
 refine sy_block ?_
 refine sy_seq ?_
 refine sy_draw [0, 0, 3, 7, 0, 0, 48, 112, 255] (.tk 0 (.tk 1 (.tk 2 (.ld 3 (.tk 4 (.tk 5 (.tk 6 (.ld 7 (.tk 8 .done))))))))) mixed (by kernel_rfl) ?_
 refine tk rfl (PE.move rfl) rfl ?_
 refine tk rfl (PE.move rfl) rfl ?_
 refine tk rfl (PE.indexAddr el40 rfl rfl (by omega) (by omega)) rfl ?_
 refine ld rfl rfl (lf0 sc3 (ir_get (na_get (l := s) (k := k) (by omega))) rfl) rfl ?_
 refine tk rfl (PE.move rfl) rfl ?_
 refine tk rfl (PE.move rfl) rfl ?_
 refine tk rfl (PE.indexAddr el40 rfl rfl (by omega) (by omega)) rfl ?_
 refine ld rfl rfl (lf0 sc3 (ir_get (na_get (l := t) (k := k) (by omega))) rfl) rfl ?_
 refine tk rfl (PE.gtr rfl rfl) rfl ?_
 refine sy_cond rfl (fun hc1 => ?_) (fun hc1 => ?_)
 try simp only [decide_eq_true_eq, decide_eq_false_iff_not, Bool.and_eq_true, Bool.or_eq_true, Bool.not_eq_true', Int.not_le, Int.not_lt] at hc1
 have hun := undP_no (n := s.length) (s := s) (t := t) (k := k) (by omega) hc1
 refine sy_seq ?_
 refine sy_tx' [0] rfl ?_
 refine sp rfl (PE.assign rfl) rfl ?_
 refine sy_ret ?_
 exact sy_return (vs := [_]) rfl (.cons (RV.tmp rfl) .nil) rfl ⟨by rw [hun]; rfl, rfl, rfl⟩ (fun _ h => h)
 try simp only [decide_eq_true_eq, decide_eq_false_iff_not, Bool.and_eq_true, Bool.or_eq_true, Bool.not_eq_true', Int.not_le, Int.not_lt] at hc1
 have hin2 : ∀ j < k + 1, na s j ≤ na t j := fun j hj => by
   rcases Nat.lt_or_ge j k with h1 | h1
   · exact hin j h1
   · obtain rfl : j = k := by omega
     exact hc1
 refine sy_skip ?_
 refine sy_tx' [0, 1, 2] rfl ?_
 refine sp rfl (PE.move rfl) rfl ?_
 refine sp rfl (PE.add rfl rfl (by omega)) rfl ?_
 refine sp rfl (PE.assign rfl) rfl ?_
 exact sy_next ⟨k + 1, by omega, hin2⟩ (by dsimp only; omega) (by repeat' first | exact Sub.nil | apply Sub.cons | rfl | (simp [lk]; omega)) (fun _ h => h)
 try simp only [decide_eq_true_eq, decide_eq_false_iff_not, Bool.and_eq_true, Bool.or_eq_true, Bool.not_eq_true', Int.not_le, Int.not_lt] at hc0
 obtain rfl : k = s.length := by omega
 have hun : undP s.length s t = true := undP_iff.2 hin
 refine sy_exit ?_
 repeat refine sy_tx ?_
 refine sy_bx ?_
 refine sy_seq ?_
 refine sy_tx' [0] rfl ?_
 refine sp rfl (PE.assign rfl) rfl ?_
 refine sy_ret ?_
 exact sy_return (vs := [_]) rfl (.cons (RV.tmp rfl) .nil) rfl ⟨by rw [hun]; rfl, rfl, rfl⟩ (fun _ h => h)
theorem c_rshown (W : List WE) (aw : Option Addr) (cw : Nat) (hwl : W.length ≤ 1000000) (t : List Int) (aT : Option Addr) (ct : Nat) (htl : t.length ≤ 1000000) (hwn : ∀ x ∈ W, x.l.length = t.length ∧ 0 ≤ x.d ∧ x.d ≤ 20000) (H : Heap) (R : Facts) [hW : MemRows aw 2 (werows W) R] [hN : MemF (InW W) R] [hT : MemRows aT 1 (irows t) R] :
    FnV Try.prog 112 [.slice aw W.length cw, .slice aT t.length ct] H R (.int .i64 (rsV (shnV t.length (wls W) t))) := by
 refine fn_of Try.func112 rfl Try.ntmps112 rfl ?_
 refine sy_seq ?_
 refine sy_tx' [0] rfl ?_
 refine sp rfl (PE.assign rfl) rfl ?_
 refine sy_seq ?_
 refine sy_tx' [0] rfl ?_
 refine sp rfl (PE.assign rfl) rfl ?_
 refine sy_seq ?_
 refine sy_seq ?_
 refine sy_tx' [0] rfl ?_
 refine sp rfl (PE.assign rfl) rfl ?_
 refine sy_block ?_
 refine sy_loop (ι := {y : Nat × Int // y.1 ≤ W.length ∧ y.2 = shnV t.length (wls (W.take y.1)) t ∧ (y.2 = 1000000 ∨ 0 ≤ y.2 ∧ y.2 ≤ 20000)}) (fun y => ⟨[(0, .slice aw W.length cw), (1, .slice aT t.length ct), (5, .int .i64 (rsV y.1.2)), (6, .int .i64 y.1.1)], H, R⟩) (fun y => W.length - y.1.1) ⟨(0, 1000000), Nat.zero_le _, rfl, .inl rfl⟩ ?_ (fun y => ?_)
 exact sy_at (by repeat' first | exact Sub.nil | apply Sub.cons | rfl | (simp [lk]; omega)) (fun _ h => h)
 obtain ⟨⟨i, m⟩, hi, hm, hmr⟩ := y
 dsimp only at hi hm hmr ⊢
 have hrs : (m = 1000000 ∧ rsV m = -1) ∨ (m ≤ 20000 ∧ rsV m = m) := by
   unfold rsV
   by_cases h : m = 1000000
   · rw [decide_eq_true h]; exact .inl ⟨h, rfl⟩
   · rw [decide_eq_false h]; exact .inr ⟨by omega, rfl⟩
 refine sy_seq ?_
 refine sy_seq ?_
 refine sy_tx' [0, 1, 2, 3] rfl ?_
 refine sp rfl (PE.move rfl) rfl ?_
 refine sp rfl (PE.move rfl) rfl ?_
 refine sp rfl (PE.lenSl isl96 rfl) rfl ?_
 refine sp rfl (PE.lss rfl rfl) rfl ?_
 refine sy_cond rfl (fun hc0 => ?_) (fun hc0 => ?_)
 try simp only [decide_eq_true_eq, decide_eq_false_iff_not, Bool.and_eq_true, Bool.or_eq_true, Bool.not_eq_true', Int.not_le, Int.not_lt] at hc0
 obtain ⟨x, hx⟩ : ∃ x, W[i]? = some x := ⟨_, List.getElem?_eq_getElem (by omega)⟩
 have hxm := List.mem_of_getElem? hx
 obtain ⟨hxl, hxd⟩ := hwn x hxm
 have hnx : shnV t.length (wls (W.take (i + 1))) t = bif undP t.length t x.l then min m x.d else m := by rw [take_snoc hx, wls_app, show wls [x] = [(x.l, x.d)] from rfl, shnV_snoc, ← hm]; rfl
 refine sy_addr (a := aw) (sz := 2) (rows := werows W) (by intro h0; have := congrArg List.length h0; rw [werows_len] at this; simp only [List.length_nil] at this; omega) (fun bw ow he => ?_)
 subst he
 refine Sy.heap (fun w h => St.inwAt (x := x) h hxm) ?_
 refine sy_skip ?_
 refine sy_seq ?_
 refine sy_block ?_
 refine sy_seq ?_
 refine sy_tx' [0, 1, 2, 3, 4, 5, 6, 7, 8, 9, 10, 11, 12, 13, 14, 15, 16, 17, 18, 19] rfl ?_
 refine sp rfl (PE.move rfl) rfl ?_
 refine sp rfl (PE.move rfl) rfl ?_
 refine sp rfl (PE.move rfl) rfl ?_
 refine sp rfl (PE.indexAddr el96 rfl rfl (by omega) (by omega)) rfl ?_
 refine sp rfl (PE.fieldAddr fo153_0 rfl) rfl ?_
 refine spL rfl rfl (lf (j := 0) (row := werow x) sc40 (we_get hx) rfl) rfl ?_
 refine clV rfl cal132 rfl rfl (c_runder t aT ct x.l x.a x.c (by omega) htl _ _) ?_
 refine sp rfl (PE.move rfl) rfl ?_
 refine sy_case (t := 20) rfl (fun g20 => ?_) (fun g20 => ?_)
 rw [show undP t.length t x.l = true from g20, cond_true] at hnx
 refine spG rfl rfl rfl rfl (PE.move rfl) rfl ?_
 refine spG rfl rfl rfl rfl (PE.lss rfl rfl) rfl ?_
 refine spG rfl rfl rfl rfl (PE.move rfl) rfl ?_
 refine sy_case (t := 23) rfl (fun g23 => ?_) (fun g23 => ?_)
 simp only [decide_eq_true_eq] at g23
 have hfin : shnV t.length (wls (W.take (i + 1))) t = x.d ∧ rsV x.d = x.d := ⟨by rw [hnx]; omega, by unfold rsV; rw [decide_eq_false (by omega)]; rfl⟩
 repeat refine spN rfl rfl rfl rfl rfl rfl rfl rfl ?_
 refine spG rfl rfl rfl rfl (PE.pick rfl rfl rfl) rfl ?_
 refine sp rfl (PE.pick rfl rfl rfl) rfl ?_
 refine sy_condT rfl ?_
 refine sy_tx' [0, 1, 2, 3, 4, 5] rfl ?_
 refine sp rfl (PE.move rfl) rfl ?_
 refine sp rfl (PE.move rfl) rfl ?_
 refine sp rfl (PE.indexAddr el96 rfl rfl (by omega) (by omega)) rfl ?_
 refine sp rfl (PE.fieldAddr fo153_1 rfl) rfl ?_
 refine spL rfl rfl (lf (j := 1) (row := werow x) sc3 (we_get hx) rfl) rfl ?_
 refine sp rfl (PE.assign rfl) rfl ?_
 refine sy_tx' [0, 1, 2] rfl ?_
 refine sp rfl (PE.move rfl) rfl ?_
 refine sp rfl (PE.add rfl rfl (by omega)) rfl ?_
 refine sp rfl (PE.assign rfl) rfl ?_
 first
   | exact sy_next ⟨(i + 1, x.d), by dsimp only; omega, hfin.1.symm, by dsimp only; omega⟩ (by dsimp only; omega) (by dsimp only; rw [hfin.2]; exact (by repeat' first | exact Sub.nil | apply Sub.cons | rfl | (simp [lk]; omega))) (fun w h => h.ftail)
   | exact sy_next ⟨(i + 1, m), by dsimp only; omega, (hnx.trans (by first | rfl | omega)).symm, hmr⟩ (by dsimp only; omega) (by repeat' first | exact Sub.nil | apply Sub.cons | rfl | (simp [lk]; omega)) (fun w h => h.ftail)
 simp only [decide_eq_false_iff_not] at g23
 refine spG rfl rfl rfl rfl (PE.move rfl) rfl ?_
 refine spG rfl rfl rfl rfl (PE.move rfl) rfl ?_
 refine spG rfl rfl rfl rfl (PE.indexAddr el96 rfl rfl (by omega) (by omega)) rfl ?_
 refine spG rfl rfl rfl rfl (PE.fieldAddr fo153_1 rfl) rfl ?_
 refine spLG rfl rfl rfl rfl rfl (lf (j := 1) (row := werow x) sc3 (we_get hx) rfl) rfl ?_
 refine spG rfl rfl rfl rfl (PE.move rfl) rfl ?_
 refine spG rfl rfl rfl rfl (PE.lss rfl rfl) rfl ?_
 refine spG rfl rfl rfl rfl (PE.pick rfl rfl rfl) rfl ?_
 refine sp rfl (PE.pick rfl rfl rfl) rfl ?_
 refine sy_cond rfl (fun hc1 => ?_) (fun hc1 => ?_)
 try simp only [decide_eq_true_eq, decide_eq_false_iff_not, Bool.and_eq_true, Bool.or_eq_true, Bool.not_eq_true', Int.not_le, Int.not_lt] at hc1
 have hfin : shnV t.length (wls (W.take (i + 1))) t = x.d ∧ rsV x.d = x.d := ⟨by rw [hnx]; omega, by unfold rsV; rw [decide_eq_false (by omega)]; rfl⟩
 refine sy_tx' [0, 1, 2, 3, 4, 5] rfl ?_
 refine sp rfl (PE.move rfl) rfl ?_
 refine sp rfl (PE.move rfl) rfl ?_
 refine sp rfl (PE.indexAddr el96 rfl rfl (by omega) (by omega)) rfl ?_
 refine sp rfl (PE.fieldAddr fo153_1 rfl) rfl ?_
 refine spL rfl rfl (lf (j := 1) (row := werow x) sc3 (we_get hx) rfl) rfl ?_
 refine sp rfl (PE.assign rfl) rfl ?_
 refine sy_tx' [0, 1, 2] rfl ?_
 refine sp rfl (PE.move rfl) rfl ?_
 refine sp rfl (PE.add rfl rfl (by omega)) rfl ?_
 refine sp rfl (PE.assign rfl) rfl ?_
 first
   | exact sy_next ⟨(i + 1, x.d), by dsimp only; omega, hfin.1.symm, by dsimp only; omega⟩ (by dsimp only; omega) (by dsimp only; rw [hfin.2]; exact (by repeat' first | exact Sub.nil | apply Sub.cons | rfl | (simp [lk]; omega))) (fun w h => h.ftail)
   | exact sy_next ⟨(i + 1, m), by dsimp only; omega, (hnx.trans (by first | rfl | omega)).symm, hmr⟩ (by dsimp only; omega) (by repeat' first | exact Sub.nil | apply Sub.cons | rfl | (simp [lk]; omega)) (fun w h => h.ftail)
 try simp only [decide_eq_true_eq, decide_eq_false_iff_not, Bool.and_eq_true, Bool.or_eq_true, Bool.not_eq_true', Int.not_le, Int.not_lt] at hc1
 have hfin : shnV t.length (wls (W.take (i + 1))) t = m := by rw [hnx]; omega
 refine sy_skip ?_
 refine sy_tx' [0, 1, 2] rfl ?_
 refine sp rfl (PE.move rfl) rfl ?_
 refine sp rfl (PE.add rfl rfl (by omega)) rfl ?_
 refine sp rfl (PE.assign rfl) rfl ?_
 first
   | exact sy_next ⟨(i + 1, x.d), by dsimp only; omega, hfin.1.symm, by dsimp only; omega⟩ (by dsimp only; omega) (by dsimp only; rw [hfin.2]; exact (by repeat' first | exact Sub.nil | apply Sub.cons | rfl | (simp [lk]; omega))) (fun w h => h.ftail)
   | exact sy_next ⟨(i + 1, m), by dsimp only; omega, (hnx.trans (by first | rfl | omega)).symm, hmr⟩ (by dsimp only; omega) (by repeat' first | exact Sub.nil | apply Sub.cons | rfl | (simp [lk]; omega)) (fun w h => h.ftail)
 rw [show undP t.length t x.l = false from g20, cond_false] at hnx
 repeat refine spN rfl rfl rfl rfl rfl rfl rfl rfl ?_
 repeat refine spU rfl rfl rfl rfl rfl rfl rfl ?_
 refine spN rfl rfl rfl rfl rfl rfl rfl rfl ?_
 refine sp rfl (PE.pick rfl rfl rfl) rfl ?_
 refine sy_condF rfl ?_
 refine sy_skip ?_
 refine sy_tx' [0, 1, 2] rfl ?_
 refine sp rfl (PE.move rfl) rfl ?_
 refine sp rfl (PE.add rfl rfl (by omega)) rfl ?_
 refine sp rfl (PE.assign rfl) rfl ?_
 first
   | exact sy_next ⟨(i + 1, x.d), by dsimp only; omega, hfin.1.symm, by dsimp only; omega⟩ (by dsimp only; omega) (by dsimp only; rw [hfin.2]; exact (by repeat' first | exact Sub.nil | apply Sub.cons | rfl | (simp [lk]; omega))) (fun w h => h.ftail)
   | exact sy_next ⟨(i + 1, m), by dsimp only; omega, (hnx.trans (by first | rfl | omega)).symm, hmr⟩ (by dsimp only; omega) (by repeat' first | exact Sub.nil | apply Sub.cons | rfl | (simp [lk]; omega)) (fun w h => h.ftail)
 try simp only [decide_eq_true_eq, decide_eq_false_iff_not, Bool.and_eq_true, Bool.or_eq_true, Bool.not_eq_true', Int.not_le, Int.not_lt] at hc0
 obtain rfl : i = W.length := by omega
 rw [List.take_length] at hm
 subst hm
 refine sy_exit ?_
 repeat refine sy_tx ?_
 refine sy_bx ?_
 refine sy_seq ?_
 refine sy_tx' [0, 1] rfl ?_
 refine sp rfl (PE.move rfl) rfl ?_
 refine sp rfl (PE.assign rfl) rfl ?_
 refine sy_ret ?_
 exact sy_return (vs := [_]) rfl (.cons (RV.tmp rfl) .nil) rfl ⟨rfl, rfl, rfl⟩ (fun _ h => h)
end Go.Proofs.Ytelegnmfhjfbaaa
namespace Go.Proofs.Ytelegnmfhjfbaaa
set_option linter.unusedSimpArgs false
set_option linter.unusedVariables false
open Go
theorem cal112 : cal Try.prog 112 = true := by kernel_rfl
theorem nin_T {n lo hi : Int} (h : nin n lo hi = true) : inB n lo hi = false := by
  cases hb : inB n lo hi with
  | false => rfl
  | true => rw [nin_in, hb] at h; cases h
theorem nin_F {n lo hi : Int} (h : nin n lo hi = false) : inB n lo hi = true := by
  cases hb : inB n lo hi with
  | true => rfl
  | false => rw [nin_in, hb] at h; cases h
theorem rsV_cases {m : Int} (h : m = 1000000 ∨ m ≤ 20000) : (m = 1000000 ∧ rsV m = -1) ∨ (m ≠ 1000000 ∧ rsV m = m) := by
  unfold rsV
  by_cases h1 : m = 1000000
  · rw [decide_eq_true h1]; exact .inl ⟨h1, rfl⟩
  · rw [decide_eq_false h1]; exact .inr ⟨h1, rfl⟩
theorem shnV_rng {b : Barn} {W : WL} (h : ∀ y ∈ W, stErr b y = 0) (n : Nat) (t : List Int) : 0 ≤ shnV n W t ∧ (shnV n W t = 1000000 ∨ shnV n W t ≤ 20000) := by
  by_cases h0 : shnV n W t = 1000000
  · exact ⟨by omega, .inl h0⟩
  · obtain ⟨s, hs, _, h2⟩ := shnV_is h0
    have := (stErr_zero (h s hs)).2.1
    omega
theorem c_rshownN (W : List WE) (aw : Option Addr) (cw : Nat) (hwl : W.length ≤ 1000000) (t : List Int) (n : Nat) (hn : t.length = n) (aT : Option Addr) (ct : Nat) (htl : n ≤ 1000000) (hwn : ∀ x ∈ W, x.l.length = n ∧ 0 ≤ x.d ∧ x.d ≤ 20000) (H : Heap) (R : Facts) [hW : MemRows aw 2 (werows W) R] [hN : MemF (InW W) R] [hT : MemRows aT 1 (irows t) R] : FnV Try.prog 112 [.slice aw W.length cw, .slice aT n ct] H R (.int .i64 (rsV (shnV n (wls W) t))) := by
  subst hn; exact c_rshown W aw cw hwl t aT ct htl hwn H R
theorem c_rShows (b : Barn) (ab : Option Addr) (cb : Nat) (hok : b.ok) (W : List WE) (aw : Option Addr) (cw : Nat) (hwl : W.length ≤ 1000000) (hwx : ∀ x ∈ W, x.l.length ≤ 1000000) (H : Heap) (R : Facts) [hB : MemRows ab 4 (brows b.bins) R] [hW : MemRows aw 2 (werows W) R] [hN : MemF (InW W) R] :
    FnV Try.prog 58 [b.v (b.sl ab cb), .slice aw W.length cw] H R (.tuple #[.int .i64 (shwV b (wls W)).1, .int .i64 (shwV b (wls W)).2]) := by
 have hmn := hok.many
 have hdk := b.dsk_ok hok
 have hp16 := pow_le16 hmn.2
 refine fn_of Try.func58 rfl Try.ntmps58 rfl ?_
 refine sy_seq ?_
 refine sy_tx' [0, 1, 2] rfl ?_
 refine bx rfl rfl rfl (fun b2 => ?_)
 refine sp rfl (PE.assign rfl) rfl ?_
 refine sp rfl (PE.assign rfl) rfl ?_
 refine sy_seq ?_
 refine sy_seq ?_
 refine sy_tx' [0, 1, 2] rfl ?_
 obtain ⟨z0, hx⟩ : ∃ x, b.bins[0]? = some x := ⟨_, List.getElem?_eq_getElem (by omega)⟩
 refine sy_addr (a := ab) (sz := 4) (rows := brows b.bins) (by intro h0; simp [brows] at h0; simp [h0] at hx) (fun ba oa he => ?_)
 subst he
 clear hx
 refine sp rfl (PE.move rfl) rfl ?_
 refine sp rfl (PE.lenSl isl96 rfl) rfl ?_
 refine clV rfl cal72 rfl rfl (c_off _ _ _ _ _) ?_
 refine sy_cond rfl (fun hc0 => ?_) (fun hc0 => ?_)
 have hil : inB ((wls W).length : Int) 1 20000 = false := by rw [wls_len]; exact nin_T hc0
 have he2 := wlErr_len (b := b) hil
 have hsv : shwV b (wls W) = (0, 2) := by rw [shw_err (by rw [he2]; decide), he2]
 refine sy_seq ?_
 refine sy_tx' [0, 1] rfl ?_
 refine sp rfl (PE.assign rfl) rfl ?_
 refine sp rfl (PE.assign rfl) rfl ?_
 refine sy_ret ?_
 exact sy_return (vs := [_, _]) rfl (.cons (RV.tmp rfl) (.cons (RV.tmp rfl) .nil)) rfl ⟨by rw [hsv]; rfl, rfl, rfl⟩ drp
 have hil : inB ((wls W).length : Int) 1 20000 = true := by rw [wls_len]; exact nin_F hc0
 have hil2 : 1 ≤ W.length ∧ W.length ≤ 20000 := by rw [wls_len] at hil; simp [inB] at hil; omega
 refine sy_addr (a := aw) (sz := 2) (rows := werows W) (by intro h0; have := congrArg List.length h0; rw [werows_len] at this; simp only [List.length_nil] at this; omega) (fun bw ow he => ?_)
 subst he
 refine sy_skip ?_
 refine sy_seq ?_
 refine sy_seq ?_
 refine sy_tx' [0] rfl ?_
 refine sp rfl (PE.assign rfl) rfl ?_
 refine sy_block ?_
 refine sy_loop (ι := {i : Nat // i ≤ W.length ∧ ∀ y ∈ (wls W).take i, stErr b y = 0}) (fun i => ⟨[(1, .slice (some ⟨bw, ow, none⟩) W.length cw), (2, .pointer (some ⟨b2, 0, none⟩)), (6, .int .i64 i.1)], (b2, cel 33 (btl b (b.sl (some ⟨ba, oa, none⟩) cb))) :: H, R⟩) (fun i => W.length - i.1) ⟨0, Nat.zero_le _, by simp⟩ ?_ (fun i => ?_)
 exact sy_at (by repeat' first | exact Sub.nil | apply Sub.cons | rfl | (simp [lk]; omega)) (fun _ h => h)
 obtain ⟨i, hi, hpre⟩ := i
 dsimp only at hi hpre ⊢
 refine sy_seq ?_
 refine sy_seq ?_
 refine sy_tx' [0, 1, 2, 3] rfl ?_
 refine sp rfl (PE.move rfl) rfl ?_
 refine sp rfl (PE.move rfl) rfl ?_
 refine sp rfl (PE.lenSl isl96 rfl) rfl ?_
 refine sp rfl (PE.lss rfl rfl) rfl ?_
 refine sy_cond rfl (fun hc1 => ?_) (fun hc1 => ?_)
 try simp only [decide_eq_true_eq, decide_eq_false_iff_not, Bool.and_eq_true, Bool.or_eq_true, Bool.not_eq_true', Int.not_le, Int.not_lt] at hc1
 obtain ⟨x, hx⟩ : ∃ x, W[i]? = some x := ⟨_, List.getElem?_eq_getElem (by omega)⟩
 have hxm := List.mem_of_getElem? hx
 have hxl9 := hwx x hxm
 have hpe : ∀ e, stErr b (x.l, x.d) = e → e ≠ 0 → shwV b (wls W) = (0, e) := fun e h1 h2 => by
   have h3 := wlErr_at hil (wls_get hx) hpre (by rw [h1]; exact h2)
   rw [shw_err (by rw [h3, h1]; exact h2), h3, h1]
 refine sy_skip ?_
 refine sy_seq ?_
 refine sy_block ?_
 refine sy_seq ?_
 refine sy_seq ?_
 refine sy_draw [0, 0, 3, 7, 15, 31, 0, 64, 192, 511] (.tk 0 (.tk 1 (.tk 2 (.tk 3 (.ld 4 (.tk 5 (.tk 6 (.ld 7 (.tk 8 (.tk 9 .done)))))))))) mixed (by kernel_rfl) ?_
 refine tk rfl (PE.move rfl) rfl ?_
 refine tk rfl (PE.move rfl) rfl ?_
 refine tk rfl (PE.indexAddr el96 rfl rfl (by omega) (by omega)) rfl ?_
 refine tk rfl (PE.fieldAddr fo153_0 rfl) rfl ?_
 refine ld rfl rfl (lf (j := 0) (row := werow x) sc40 (we_get hx) rfl) rfl ?_
 refine tk rfl (PE.lenSl isl40 rfl) rfl ?_
 refine tk rfl (PE.fieldAddr fo33_3 rfl) rfl ?_
 refine ld rfl rfl (lh sc31 rfl rfl) rfl ?_
 refine tk rfl (PE.lenSl isl31 rfl) rfl ?_
 refine tk rfl (PE.neq rfl rfl) rfl ?_
 refine sy_cond rfl (fun hc2 => ?_) (fun hc2 => ?_)
 try simp only [decide_eq_true_eq, decide_eq_false_iff_not, Bool.and_eq_true, Bool.or_eq_true, Bool.not_eq_true', Int.not_le, Int.not_lt] at hc2
 have hsv := hpe 2 (stErr_len (s := (x.l, x.d)) (by dsimp only; omega)) (by decide)
 refine sy_seq ?_
 refine sy_tx' [0, 1] rfl ?_
 refine sp rfl (PE.assign rfl) rfl ?_
 refine sp rfl (PE.assign rfl) rfl ?_
 refine sy_ret ?_
 exact sy_return (vs := [_, _]) rfl (.cons (RV.tmp rfl) (.cons (RV.tmp rfl) .nil)) rfl ⟨by rw [hsv]; rfl, rfl, rfl⟩ drp
 try simp only [decide_eq_true_eq, decide_eq_false_iff_not, Bool.and_eq_true, Bool.or_eq_true, Bool.not_eq_true', Int.not_le, Int.not_lt] at hc2
 have hxl : x.l.length = b.bins.length := by omega
 refine sy_skip ?_
 refine sy_seq ?_
 refine sy_seq ?_
 refine sy_tx' [0, 1, 2, 3, 4, 5] rfl ?_
 refine sp rfl (PE.move rfl) rfl ?_
 refine sp rfl (PE.move rfl) rfl ?_
 refine sp rfl (PE.indexAddr el96 rfl rfl (by omega) (by omega)) rfl ?_
 refine sp rfl (PE.fieldAddr fo153_1 rfl) rfl ?_
 refine spL rfl rfl (lf (j := 1) (row := werow x) sc3 (we_get hx) rfl) rfl ?_
 refine clV rfl cal72 rfl rfl (c_off _ _ _ _ _) ?_
 refine sy_cond rfl (fun hc3 => ?_) (fun hc3 => ?_)
 have hsv := hpe 3 (stErr_days (s := (x.l, x.d)) hxl (nin_T hc3)) (by decide)
 refine sy_seq ?_
 refine sy_tx' [0, 1] rfl ?_
 refine sp rfl (PE.assign rfl) rfl ?_
 refine sp rfl (PE.assign rfl) rfl ?_
 refine sy_ret ?_
 exact sy_return (vs := [_, _]) rfl (.cons (RV.tmp rfl) (.cons (RV.tmp rfl) .nil)) rfl ⟨by rw [hsv]; rfl, rfl, rfl⟩ drp
 have hxd : inB x.d 0 20000 = true := nin_F hc3
 refine Sy.heap (fun w h => St.inwAt (x := x) h hxm) ?_
 refine sy_addr (a := x.a) (sz := 1) (rows := irows x.l) (by intro h0; have := congrArg List.length h0; rw [irows_len] at this; simp only [List.length_nil] at this; omega) (fun bx ox he => ?_)
 rw [he]
 refine sy_skip ?_
 refine sy_seq ?_
 refine sy_tx' [0] rfl ?_
 refine sp rfl (PE.assign rfl) rfl ?_
 refine sy_block ?_
 refine sy_loop (ι := {k : Nat // k ≤ b.bins.length ∧ ∀ j < k, badL b j (na x.l j) = false}) (fun k => ⟨[(1, .slice (some ⟨bw, ow, none⟩) W.length cw), (2, .pointer (some ⟨b2, 0, none⟩)), (6, .int .i64 i), (7, .int .i64 k.1)], (b2, cel 33 (btl b (b.sl (some ⟨ba, oa, none⟩) cb))) :: H, RowsA (some ⟨bx, ox, none⟩) 1 (irows x.l) :: R⟩) (fun k => b.bins.length - k.1) ⟨0, Nat.zero_le _, fun j hj => absurd hj (Nat.not_lt_zero _)⟩ ?_ (fun k => ?_)
 exact sy_at (by repeat' first | exact Sub.nil | apply Sub.cons | rfl | (simp [lk]; omega)) (fun _ h => h)
 obtain ⟨k, hk, hbl⟩ := k
 dsimp only at hk hbl ⊢
 refine sy_seq ?_
 refine sy_seq ?_
 refine sy_tx' [0, 1, 2, 3, 4] rfl ?_
 refine sp rfl (PE.move rfl) rfl ?_
 refine sp rfl (PE.fieldAddr fo33_3 rfl) rfl ?_
 refine spL rfl rfl (lh sc31 rfl rfl) rfl ?_
 refine sp rfl (PE.lenSl isl31 rfl) rfl ?_
 refine sp rfl (PE.lss rfl rfl) rfl ?_
 refine sy_cond rfl (fun hc4 => ?_) (fun hc4 => ?_)
 try simp only [decide_eq_true_eq, decide_eq_false_iff_not, Bool.and_eq_true, Bool.or_eq_true, Bool.not_eq_true', Int.not_le, Int.not_lt] at hc4
 obtain ⟨z, hz⟩ : ∃ z, b.bins[k]? = some z := ⟨_, List.getElem?_eq_getElem (by omega)⟩
 have hzo := hok.bins z (List.mem_of_getElem? hz)
 have hbd : badL b k (na x.l k) = bif decide (na b.rise z.hi.toNat = 0) then decide (na x.l k ≠ 1000000) else !(inB (na x.l k) 0 10) := by unfold badL; rw [bin_getD hz]; rfl
 have hm : ∀ j < k + 1, badL b k (na x.l k) = false → badL b j (na x.l j) = false := fun j hj h => by
   rcases Nat.lt_or_ge j k with h1 | h1
   · exact hbl j h1
   · obtain rfl : j = k := by omega
     exact h
 refine sy_skip ?_
 refine sy_seq ?_
 refine sy_block ?_
 refine sy_seq ?_
 refine sy_draw [0, 0, 3, 7, 15, 0, 63, 127, 0, 256, 0, 1792, 3840, 7936, 16128, 0, 65280, 130816, 261888, 255, 1048575] (.tk 0 (.tk 1 (.tk 2 (.tk 3 (.ld 4 (.tk 5 (.tk 6 (.ld 7 (.tk 8 (.ld 9 (.tk 10 (.tk 11 (.tk 12 (.tk 13 (.ld 14 (.tk 15 (.tk 16 (.ld 17 (.tk 18 (.tk 19 (.tk 20 .done))))))))))))))))))))) mixed (by kernel_rfl) ?_
 refine tk rfl (PE.move rfl) rfl ?_
 refine tk rfl (PE.move rfl) rfl ?_
 refine tk rfl (PE.indexAddr el96 rfl rfl (by omega) (by omega)) rfl ?_
 refine tk rfl (PE.fieldAddr fo153_0 rfl) rfl ?_
 refine ld rfl rfl (lf (j := 0) (row := [.slice (some ⟨bx, ox, none⟩) x.l.length x.c, .int .i64 x.d]) sc40 (by refine (we_get hx).trans ?_; unfold werow; rw [he]) rfl) rfl ?_
 refine tk rfl (PE.move rfl) rfl ?_
 refine tk rfl (PE.indexAddr el40 rfl rfl (by omega) (by omega)) rfl ?_
 refine ld rfl rfl (lf0 sc3 (ir_get (na_get (l := x.l) (k := k) (by omega))) rfl) rfl ?_
 refine tk rfl (PE.fieldAddr fo33_3 rfl) rfl ?_
 refine ld rfl rfl (lh sc31 rfl rfl) rfl ?_
 refine tk rfl (PE.move rfl) rfl ?_
 refine tk rfl (PE.indexAddr el31 rfl rfl (by omega) (by omega)) rfl ?_
 refine tk rfl (PE.fieldAddr fo113_2 rfl) rfl ?_
 refine tk rfl (PE.fieldAddr fo43_1 rfl) rfl ?_
 refine ld rfl rfl (lf (j := 3) sc3 (br_get hz) rfl) rfl ?_
 refine tk rfl (PE.fieldAddr fo33_2 rfl) rfl ?_
 refine tk rfl (PE.indexArr ar22 rfl rfl (by omega) (by omega)) rfl ?_
 refine ld rfl rfl (lh sc3 rfl (btl_cls (by omega))) rfl ?_
 refine tk rfl (PE.eql rfl rfl) rfl ?_
 refine tk rfl (PE.assign rfl) rfl ?_
 refine tk rfl (PE.assign rfl) rfl ?_
 refine sy_seq ?_
 refine sy_tx' [0, 1, 2, 3, 4, 5, 6, 7, 8, 9, 10, 11, 12] rfl ?_
 refine sp rfl (PE.move rfl) rfl ?_
 refine sp rfl (PE.move rfl) rfl ?_
 refine sy_case (t := 67) rfl (fun g67 => ?_) (fun g67 => ?_)
 rw [show decide (na b.rise z.hi.toNat = 0) = true from g67, cond_true] at hbd
 refine spG rfl rfl rfl rfl (PE.move rfl) rfl ?_
 refine spG rfl rfl rfl rfl (PE.neq rfl rfl) rfl ?_
 refine sp rfl (PE.pick rfl rfl rfl) rfl ?_
 refine sp rfl (PE.move rfl) rfl ?_
 refine sy_case (t := 71) rfl (fun g71 => ?_) (fun g71 => ?_)
 have hbv : badL b k (na x.l k) = true := hbd.trans g71
 repeat refine spN rfl rfl rfl rfl rfl rfl rfl rfl ?_
 repeat refine spU rfl rfl rfl rfl rfl rfl rfl ?_
 refine spN rfl rfl rfl rfl rfl rfl rfl rfl ?_
 refine sp rfl (PE.pick rfl rfl rfl) rfl ?_
 refine sy_condT rfl ?_
 refine sy_seq ?_
 refine sy_tx' [0, 1] rfl ?_
 have hsv := hpe 3 (stErr_num (s := (x.l, x.d)) hxl hxd (k := k) (by omega) hbv) (by decide)
 refine sp rfl (PE.assign rfl) rfl ?_
 refine sp rfl (PE.assign rfl) rfl ?_
 refine sy_ret ?_
 exact sy_return (vs := [_, _]) rfl (.cons (RV.tmp rfl) (.cons (RV.tmp rfl) .nil)) rfl ⟨by rw [hsv]; rfl, rfl, rfl⟩ (fun w h => (h.del b2).facts (fun g hg => by simp [hg]))
 have hbv : badL b k (na x.l k) = false := hbd.trans g71
 refine spG rfl rfl rfl rfl (PE.move rfl) rfl ?_
 refine spG rfl rfl rfl rfl (PE.not rfl) rfl ?_
 refine spG rfl rfl rfl rfl (PE.move rfl) rfl ?_
 refine sy_case (t := 74) rfl (fun g74 => ?_) (fun g74 => ?_)
 exact absurd g74 (by rw [show decide (na b.rise z.hi.toNat = 0) = true from g67]; simp)
 repeat refine spN rfl rfl rfl rfl rfl rfl rfl rfl ?_
 refine spG rfl rfl rfl rfl (PE.pick rfl rfl rfl) rfl ?_
 refine sp rfl (PE.pick rfl rfl rfl) rfl ?_
 refine sy_condF rfl ?_
 refine sy_skip ?_
 refine sy_tx' [0, 1, 2] rfl ?_
 refine sp rfl (PE.move rfl) rfl ?_
 refine sp rfl (PE.add rfl rfl (by omega)) rfl ?_
 refine sp rfl (PE.assign rfl) rfl ?_
 exact sy_next ⟨k + 1, by omega, fun j hj => hm j hj hbv⟩ (by dsimp only; omega) (by repeat' first | exact Sub.nil | apply Sub.cons | rfl | (simp [lk]; omega)) (fun _ h => h)
 rw [show decide (na b.rise z.hi.toNat = 0) = false from g67, cond_false] at hbd
 repeat refine spN rfl rfl rfl rfl rfl rfl rfl rfl ?_
 refine sp rfl (PE.pick rfl rfl rfl) rfl ?_
 refine sp rfl (PE.move rfl) rfl ?_
 refine spG rfl rfl rfl rfl (PE.move rfl) rfl ?_
 refine spG rfl rfl rfl rfl (PE.not rfl) rfl ?_
 refine spG rfl rfl rfl rfl (PE.move rfl) rfl ?_
 refine sy_case (t := 74) rfl (fun g74 => ?_) (fun g74 => ?_)
 refine spG rfl rfl rfl rfl (PE.move rfl) rfl ?_
 refine clVG rfl rfl rfl rfl cal72 rfl rfl (c_off _ _ _ _ _) ?_
 refine spG rfl rfl rfl rfl (PE.pick rfl rfl rfl) rfl ?_
 refine sp rfl (PE.pick rfl rfl rfl) rfl ?_
 refine sy_cond rfl (fun hc5 => ?_) (fun hc5 => ?_)
 have hbv : badL b k (na x.l k) = true := by rw [hbd, ← nin_in]; exact hc5
 refine sy_seq ?_
 refine sy_tx' [0, 1] rfl ?_
 have hsv := hpe 3 (stErr_num (s := (x.l, x.d)) hxl hxd (k := k) (by omega) hbv) (by decide)
 refine sp rfl (PE.assign rfl) rfl ?_
 refine sp rfl (PE.assign rfl) rfl ?_
 refine sy_ret ?_
 exact sy_return (vs := [_, _]) rfl (.cons (RV.tmp rfl) (.cons (RV.tmp rfl) .nil)) rfl ⟨by rw [hsv]; rfl, rfl, rfl⟩ (fun w h => (h.del b2).facts (fun g hg => by simp [hg]))
 have hbv : badL b k (na x.l k) = false := by rw [hbd, ← nin_in]; exact hc5
 refine sy_skip ?_
 refine sy_tx' [0, 1, 2] rfl ?_
 refine sp rfl (PE.move rfl) rfl ?_
 refine sp rfl (PE.add rfl rfl (by omega)) rfl ?_
 refine sp rfl (PE.assign rfl) rfl ?_
 exact sy_next ⟨k + 1, by omega, fun j hj => hm j hj hbv⟩ (by dsimp only; omega) (by repeat' first | exact Sub.nil | apply Sub.cons | rfl | (simp [lk]; omega)) (fun _ h => h)
 exact absurd g74 (by rw [show decide (na b.rise z.hi.toNat = 0) = false from g67]; simp)
 try simp only [decide_eq_true_eq, decide_eq_false_iff_not, Bool.and_eq_true, Bool.or_eq_true, Bool.not_eq_true', Int.not_le, Int.not_lt] at hc4
 obtain rfl : k = b.bins.length := by omega
 have hst := stErr_ok (s := (x.l, x.d)) hxl hxd hbl
 refine sy_exit ?_
 repeat refine sy_tx ?_
 refine sy_bx ?_
 refine sy_tx' [0, 1, 2] rfl ?_
 refine sp rfl (PE.move rfl) rfl ?_
 refine sp rfl (PE.add rfl rfl (by omega)) rfl ?_
 refine sp rfl (PE.assign rfl) rfl ?_
 exact sy_next ⟨i + 1, by omega, take_all (wls_get hx) hpre hst⟩ (by dsimp only; omega) (by repeat' first | exact Sub.nil | apply Sub.cons | rfl | (simp [lk]; omega)) (fun w h => h.ftail)
 try simp only [decide_eq_true_eq, decide_eq_false_iff_not, Bool.and_eq_true, Bool.or_eq_true, Bool.not_eq_true', Int.not_le, Int.not_lt] at hc1
 obtain rfl : i = W.length := by omega
 rw [List.take_of_length_le (by rw [wls_len]; exact Nat.le_refl _)] at hpre
 have hwe := wlErr_ok hil hpre
 have hwz : ∀ x ∈ W, x.l.length = b.bins.length ∧ (0 ≤ x.d ∧ x.d ≤ 20000) ∧ ∀ k < b.bins.length, badL b k (na x.l k) = false := fun x hx => stErr_zero (hpre _ (wls_mem hx))
 refine sy_exit ?_
 repeat refine sy_tx ?_
 refine sy_bx ?_
 refine sy_seq ?_
 refine sy_seq ?_
 refine sy_tx' [0] rfl ?_
 refine sp rfl (PE.assign rfl) rfl ?_
 refine sy_block ?_
 refine sy_loop (ι := {i : Nat // i ≤ W.length ∧ ∀ y ∈ (wls W).take i, wlSt b.dsk (wls W) y = true}) (fun i => ⟨[(1, .slice (some ⟨bw, ow, none⟩) W.length cw), (2, .pointer (some ⟨b2, 0, none⟩)), (10, .int .i64 i.1)], (b2, cel 33 (btl b (b.sl (some ⟨ba, oa, none⟩) cb))) :: H, R⟩) (fun i => W.length - i.1) ⟨0, Nat.zero_le _, by simp⟩ ?_ (fun i => ?_)
 exact sy_at (by repeat' first | exact Sub.nil | apply Sub.cons | rfl | (simp [lk]; omega)) (fun _ h => h)
 obtain ⟨i, hi, hws⟩ := i
 dsimp only at hi hws ⊢
 refine sy_seq ?_
 refine sy_seq ?_
 refine sy_tx' [0, 1, 2, 3] rfl ?_
 refine sp rfl (PE.move rfl) rfl ?_
 refine sp rfl (PE.move rfl) rfl ?_
 refine sp rfl (PE.lenSl isl96 rfl) rfl ?_
 refine sp rfl (PE.lss rfl rfl) rfl ?_
 refine sy_cond rfl (fun hc6 => ?_) (fun hc6 => ?_)
 try simp only [decide_eq_true_eq, decide_eq_false_iff_not, Bool.and_eq_true, Bool.or_eq_true, Bool.not_eq_true', Int.not_le, Int.not_lt] at hc6
 obtain ⟨x, hx⟩ : ∃ x, W[i]? = some x := ⟨_, List.getElem?_eq_getElem (by omega)⟩
 have hxm := List.mem_of_getElem? hx
 obtain ⟨hxl, hxd, hxb⟩ := hwz x hxm
 have hxn : ∀ k < b.bins.length, 0 ≤ na x.l k ∧ na x.l k ≤ 1000000 := fun k hk => by
   have := badL_ok (hxb k hk)
   by_cases h0 : b.worst (b.bins.getD k hb0) = 0
   · have := this.1 h0; omega
   · have := this.2 h0; omega
 have hsti := wlSt_iff hdk (laL_lasts b) (W := wls W) (s := (x.l, x.d)) hxl
 refine Sy.heap (fun w h => St.inwAt (x := x) h hxm) ?_
 refine sy_skip ?_
 refine sy_seq ?_
 refine sy_block ?_
 refine sy_seq ?_
 refine sy_tx' [0] rfl ?_
 refine sp rfl (PE.assign rfl) rfl ?_
 refine sy_block ?_
 refine sy_loop (ι := {u : Nat // u ≤ 2 ^ b.bins.length ∧ ∀ v < u, ∀ t, rS b.dsk.n b.dsk.gangs (laL b) x.l v = some t → shnV b.dsk.n (wls W) t < x.d}) (fun u => ⟨[(1, .slice (some ⟨bw, ow, none⟩) W.length cw), (2, .pointer (some ⟨b2, 0, none⟩)), (10, .int .i64 i), (11, .int .i64 u.1)], (b2, cel 33 (btl b (b.sl (some ⟨ba, oa, none⟩) cb))) :: H, RowsA x.a 1 (irows x.l) :: R⟩) (fun u => 2 ^ b.bins.length - u.1) ⟨0, Nat.zero_le _, fun v hv => absurd hv (Nat.not_lt_zero _)⟩ ?_ (fun u => ?_)
 exact sy_at (by repeat' first | exact Sub.nil | apply Sub.cons | rfl | (simp [lk]; omega)) (fun _ h => h)
 obtain ⟨u, hu, hus⟩ := u
 dsimp only at hu hus ⊢
 refine sy_seq ?_
 refine sy_seq ?_
 refine sy_tx' [0, 1, 2, 3] rfl ?_
 refine sp rfl (PE.move rfl) rfl ?_
 refine spL rfl rfl (lhA (btl b (b.sl (some ⟨ba, oa, none⟩) cb)) ag33 rfl rfl rfl) rfl ?_
 refine clV rfl cal85 rfl rfl (c_rsets b (some ⟨ba, oa, none⟩) cb hmn.2 _ _) ?_
 refine sp rfl (PE.lss rfl rfl) rfl ?_
 refine sy_cond rfl (fun hc7 => ?_) (fun hc7 => ?_)
 try simp only [decide_eq_true_eq, decide_eq_false_iff_not, Bool.and_eq_true, Bool.or_eq_true, Bool.not_eq_true', Int.not_le, Int.not_lt] at hc7
 have hu16 : u < 16 := by omega
 have hum : (∀ t, rS b.dsk.n b.dsk.gangs (laL b) x.l u = some t → shnV b.dsk.n (wls W) t < x.d) → ∀ v < u + 1, ∀ t, rS b.dsk.n b.dsk.gangs (laL b) x.l v = some t → shnV b.dsk.n (wls W) t < x.d := fun h v hv => by
   rcases Nat.lt_or_ge v u with h1 | h1
   · exact hus v h1
   · obtain rfl : v = u := by omega
     exact h
 refine sy_skip ?_
 refine sy_seq ?_
 refine sy_block ?_
 refine sy_seq ?_
 refine sy_draw [0, 0, 0, 6, 14, 30, 0, 127, 255] (.ld 0 (.tk 1 (.tk 2 (.tk 3 (.tk 4 (.ld 5 (.tk 6 (.big 7 (.tk 8 .done))))))))) mixed (by kernel_rfl) ?_
 refine ld rfl rfl (lhA (btl b (b.sl (some ⟨ba, oa, none⟩) cb)) ag33 rfl rfl rfl) rfl ?_
 refine tk rfl (PE.move rfl) rfl ?_
 refine tk rfl (PE.move rfl) rfl ?_
 refine tk rfl (PE.indexAddr el96 rfl rfl (by omega) (by omega)) rfl ?_
 refine tk rfl (PE.fieldAddr fo153_0 rfl) rfl ?_
 refine ld rfl rfl (lf (j := 0) (row := werow x) sc40 (we_get hx) rfl) rfl ?_
 refine tk rfl (PE.move rfl) rfl ?_
 refine cl rfl cal87 rfl rfl (c_rNext b (some ⟨ba, oa, none⟩) cb hok x.l x.a x.c hxl hxn u hu16 _ _) ?_
 rintro _ _ R1 ⟨rfl, (⟨hnx, rfl, hR1⟩ | ⟨t, bo, c, hnx, rfl, hR1⟩)⟩ <;> obtain rfl := hR1.symm <;> clear hR1
 refine bg (fun w hs => ⟨trivial, trivial, trivial⟩) ?_
 refine tk rfl (PE.assign rfl) rfl ?_
 refine sy_seq ?_
 refine sy_seq ?_
 refine sy_draw [0, 1, 3, 7, 15, 7, 39, 127, 255] (.tk 0 (.tk 1 (.tk 2 (.tk 3 (.tk 5 (.ld 6 (.big 4 (.tk 7 (.tk 8 .done))))))))) mixed (by kernel_rfl) ?_
 refine tk rfl (PE.move rfl) rfl ?_
 have hsk : ∀ t, rS b.dsk.n b.dsk.gangs (laL b) x.l u = some t → shnV b.dsk.n (wls W) t < x.d := fun t ht => by
   unfold rS at ht
   rw [show rNx (laL b) x.l u b.dsk.n = none from hnx] at ht
   cases h : decide (((bitl 4 u).length : Int) ≤ b.dsk.gangs) <;> rw [h] at ht <;> cases ht
 refine tk rfl (PE.eqlNil isl40 rfl rfl) rfl ?_
 refine tk rfl (PE.move rfl) rfl ?_
 repeat refine tkN rfl rfl rfl rfl rfl rfl rfl rfl ?_
 refine ldN rfl rfl rfl rfl rfl rfl rfl rfl ?_
 refine spN rfl rfl rfl rfl rfl rfl rfl rfl ?_
 refine bg (fun w hs => ⟨((fun _ _ => True.intro)) w hs, trivial⟩) ?_
 refine tkN rfl rfl rfl rfl rfl rfl rfl rfl ?_
 refine tk rfl (PE.pick rfl rfl rfl) rfl ?_
 refine sy_condT rfl ?_
 refine sy_exit ?_
 refine sy_tx ?_
 refine sy_bx ?_
 refine sy_tx' [0, 1, 2] rfl ?_
 refine sp rfl (PE.move rfl) rfl ?_
 refine sp rfl (PE.add rfl rfl (by omega)) rfl ?_
 refine sp rfl (PE.assign rfl) rfl ?_
 exact sy_next ⟨u + 1, by omega, hum hsk⟩ (by dsimp only; omega) (by repeat' first | exact Sub.nil | apply Sub.cons | rfl | (simp [lk]; omega)) (fun w h => h.facts (fun g hg => by simp only [List.mem_cons] at hg ⊢; rcases hg with hg | hg <;> simp [hg]))
 refine bg (fun w hs => ⟨trivial, trivial, trivial⟩) ?_
 refine tk rfl (PE.assign rfl) rfl ?_
 refine sy_seq ?_
 refine sy_seq ?_
 refine sy_draw [0, 1, 3, 7, 15, 7, 39, 127, 255] (.tk 0 (.tk 1 (.tk 2 (.tk 3 (.tk 5 (.ld 6 (.big 4 (.tk 7 (.tk 8 .done))))))))) mixed (by kernel_rfl) ?_
 refine tk rfl (PE.move rfl) rfl ?_
 have htl : t.length = b.bins.length := rNx_len hnx
 rw [htl]
 refine tk rfl (PE.eqlNil isl40 rfl rfl) rfl ?_
 refine tk rfl (PE.move rfl) rfl ?_
 refine tkG rfl rfl rfl rfl (PE.move rfl) rfl ?_
 refine tkG rfl rfl rfl rfl (PE.fieldAddr fo33_1 rfl) rfl ?_
 refine ldG rfl rfl rfl rfl rfl (lh sc3 rfl rfl) rfl ?_
 refine clVG rfl rfl rfl rfl cal86 rfl rfl (c_rones u hu16 _ _) ?_
 refine bg (fun w hs => ⟨(lh sc3 rfl rfl) w hs, trivial⟩) ?_
 refine tkG rfl rfl rfl rfl (PE.gtr rfl rfl) rfl ?_
 refine tk rfl (PE.pick rfl rfl rfl) rfl ?_
 refine sy_cond rfl (fun hc8 => ?_) (fun hc8 => ?_)
 try simp only [decide_eq_true_eq, decide_eq_false_iff_not, Bool.and_eq_true, Bool.or_eq_true, Bool.not_eq_true', Int.not_le, Int.not_lt] at hc8
 have hsk : ∀ t, rS b.dsk.n b.dsk.gangs (laL b) x.l u = some t → shnV b.dsk.n (wls W) t < x.d := fun t ht => by rw [rS_no (show b.dsk.gangs < _ from hc8)] at ht; cases ht
 refine sy_exit ?_
 refine sy_tx ?_
 refine sy_bx ?_
 refine sy_tx' [0, 1, 2] rfl ?_
 refine sp rfl (PE.move rfl) rfl ?_
 refine sp rfl (PE.add rfl rfl (by omega)) rfl ?_
 refine sp rfl (PE.assign rfl) rfl ?_
 exact sy_next ⟨u + 1, by omega, hum hsk⟩ (by dsimp only; omega) (by repeat' first | exact Sub.nil | apply Sub.cons | rfl | (simp [lk]; omega)) (fun w h => h.facts (fun g hg => by simp only [List.mem_cons] at hg ⊢; rcases hg with hg | hg <;> simp [hg]))
 try simp only [decide_eq_true_eq, decide_eq_false_iff_not, Bool.and_eq_true, Bool.or_eq_true, Bool.not_eq_true', Int.not_le, Int.not_lt] at hc8
 have hrs : rS b.dsk.n b.dsk.gangs (laL b) x.l u = some t := (rS_yes (show ¬ b.dsk.gangs < _ from Int.not_lt.2 hc8)).trans hnx
 have hrr := shnV_rng hpre b.bins.length t
 have hrc := rsV_cases hrr.2
 have hno : ¬ shnV b.bins.length (wls W) t < x.d → shwV b (wls W) = (0, 8) := fun h => shw_no hwe (wls_mem hxm) (by
   cases hw : wlSt b.dsk (wls W) (x.l, x.d) with
   | false => rfl
   | true => exact absurd (hsti.1 hw u (by show u < 2 ^ b.bins.length; omega) t hrs) h)
 refine sy_skip ?_
 refine sy_seq ?_
 refine sy_tx' [0, 1, 2, 3] rfl ?_
 refine sp rfl (PE.move rfl) rfl ?_
 refine sp rfl (PE.move rfl) rfl ?_
 refine clV rfl cal112 rfl rfl (c_rshownN W (some ⟨bw, ow, none⟩) cw hwl t b.bins.length htl (some ⟨bo, 0, none⟩) c (by omega) (fun y hy => by have := hwz y hy; omega) _ _) ?_
 refine sp rfl (PE.assign rfl) rfl ?_
 refine sy_seq ?_
 refine sy_tx' [0, 1, 2, 3, 4, 5, 6, 7, 8, 9, 10] rfl ?_
 refine sp rfl (PE.move rfl) rfl ?_
 refine sp rfl (PE.lss rfl rfl) rfl ?_
 refine sp rfl (PE.move rfl) rfl ?_
 refine sy_case (t := 113) rfl (fun g113 => ?_) (fun g113 => ?_)
 simp only [decide_eq_true_eq] at g113
 have hsv := hno (by omega)
 repeat refine spN rfl rfl rfl rfl rfl rfl rfl rfl ?_
 refine sp rfl (PE.pick rfl rfl rfl) rfl ?_
 refine sy_condT rfl ?_
 refine sy_seq ?_
 refine sy_tx' [0, 1] rfl ?_
 refine sp rfl (PE.assign rfl) rfl ?_
 refine sp rfl (PE.assign rfl) rfl ?_
 refine sy_ret ?_
 exact sy_return (vs := [_, _]) rfl (.cons (RV.tmp rfl) (.cons (RV.tmp rfl) .nil)) rfl ⟨by rw [hsv]; rfl, rfl, rfl⟩ (fun w h => (h.del b2).facts (fun g hg => by simp [hg]))
 simp only [decide_eq_false_iff_not] at g113
 refine spG rfl rfl rfl rfl (PE.move rfl) rfl ?_
 refine spG rfl rfl rfl rfl (PE.move rfl) rfl ?_
 refine spG rfl rfl rfl rfl (PE.move rfl) rfl ?_
 refine spG rfl rfl rfl rfl (PE.indexAddr el96 rfl rfl (by omega) (by omega)) rfl ?_
 refine spG rfl rfl rfl rfl (PE.fieldAddr fo153_1 rfl) rfl ?_
 refine spLG rfl rfl rfl rfl rfl (lf (j := 1) (row := werow x) sc3 (we_get hx) rfl) rfl ?_
 refine spG rfl rfl rfl rfl (PE.geq rfl rfl) rfl ?_
 refine sp rfl (PE.pick rfl rfl rfl) rfl ?_
 refine sy_cond rfl (fun hc9 => ?_) (fun hc9 => ?_)
 try simp only [decide_eq_true_eq, decide_eq_false_iff_not, Bool.and_eq_true, Bool.or_eq_true, Bool.not_eq_true', Int.not_le, Int.not_lt] at hc9
 have hsv := hno (by omega)
 refine sy_seq ?_
 refine sy_tx' [0, 1] rfl ?_
 refine sp rfl (PE.assign rfl) rfl ?_
 refine sp rfl (PE.assign rfl) rfl ?_
 refine sy_ret ?_
 exact sy_return (vs := [_, _]) rfl (.cons (RV.tmp rfl) (.cons (RV.tmp rfl) .nil)) rfl ⟨by rw [hsv]; rfl, rfl, rfl⟩ (fun w h => (h.del b2).facts (fun g hg => by simp [hg]))
 try simp only [decide_eq_true_eq, decide_eq_false_iff_not, Bool.and_eq_true, Bool.or_eq_true, Bool.not_eq_true', Int.not_le, Int.not_lt] at hc9
 have hsk : ∀ t, rS b.dsk.n b.dsk.gangs (laL b) x.l u = some t → shnV b.dsk.n (wls W) t < x.d := fun t2 ht2 => by rw [hrs] at ht2; cases ht2; show shnV b.bins.length (wls W) _ < x.d; omega
 refine sy_skip ?_
 refine sy_tx' [0, 1, 2] rfl ?_
 refine sp rfl (PE.move rfl) rfl ?_
 refine sp rfl (PE.add rfl rfl (by omega)) rfl ?_
 refine sp rfl (PE.assign rfl) rfl ?_
 exact sy_next ⟨u + 1, by omega, hum hsk⟩ (by dsimp only; omega) (by repeat' first | exact Sub.nil | apply Sub.cons | rfl | (simp [lk]; omega)) (fun w h => h.facts (fun g hg => by simp only [List.mem_cons] at hg ⊢; rcases hg with hg | hg <;> simp [hg]))
 try simp only [decide_eq_true_eq, decide_eq_false_iff_not, Bool.and_eq_true, Bool.or_eq_true, Bool.not_eq_true', Int.not_le, Int.not_lt] at hc7
 obtain rfl : u = 2 ^ b.bins.length := by omega
 refine sy_exit ?_
 repeat refine sy_tx ?_
 refine sy_bx ?_
 refine sy_tx' [0, 1, 2] rfl ?_
 refine sp rfl (PE.move rfl) rfl ?_
 refine sp rfl (PE.add rfl rfl (by omega)) rfl ?_
 refine sp rfl (PE.assign rfl) rfl ?_
 exact sy_next ⟨i + 1, by omega, take_all (wls_get hx) hws (hsti.2 hus)⟩ (by dsimp only; omega) (by repeat' first | exact Sub.nil | apply Sub.cons | rfl | (simp [lk]; omega)) (fun w h => h.ftail)
 try simp only [decide_eq_true_eq, decide_eq_false_iff_not, Bool.and_eq_true, Bool.or_eq_true, Bool.not_eq_true', Int.not_le, Int.not_lt] at hc6
 obtain rfl : i = W.length := by omega
 rw [List.take_of_length_le (by rw [wls_len]; exact Nat.le_refl _)] at hws
 refine sy_exit ?_
 repeat refine sy_tx ?_
 refine sy_bx ?_
 refine sy_seq ?_
 refine sy_tx' [0, 1, 2, 3, 4] rfl ?_
 refine sp rfl (PE.move rfl) rfl ?_
 refine spL rfl rfl (lhA (btl b (b.sl (some ⟨ba, oa, none⟩) cb)) ag33 rfl rfl rfl) rfl ?_
 refine cl rfl cal84 rfl rfl (c_rBegin b (some ⟨ba, oa, none⟩) cb hok _ _) ?_
 rintro _ _ R1 ⟨ax, cx, rfl, rfl, hR1⟩
 obtain rfl := hR1.symm
 clear hR1
 have hbl := bgL_len b
 have hrr := shnV_rng hpre b.bins.length (bgL b)
 have hrc := rsV_cases hrr.2
 have hpd : shnV b.dsk.n (wls W) b.state = shnV b.bins.length (wls W) (bgL b) := shnV_pad _ _ _
 refine clV rfl cal112 rfl rfl (c_rshownN W (some ⟨bw, ow, none⟩) cw hwl (bgL b) b.bins.length hbl ax cx (by omega) (fun y hy => by have := hwz y hy; omega) _ _) ?_
 refine sp rfl (PE.assign rfl) rfl ?_
 refine sy_seq ?_
 refine sy_seq ?_
 refine sy_tx' [0, 1] rfl ?_
 refine sp rfl (PE.move rfl) rfl ?_
 refine sp rfl (PE.lss rfl rfl) rfl ?_
 refine sy_cond rfl (fun hc10 => ?_) (fun hc10 => ?_)
 try simp only [decide_eq_true_eq, decide_eq_false_iff_not, Bool.and_eq_true, Bool.or_eq_true, Bool.not_eq_true', Int.not_le, Int.not_lt] at hc10
 have hsv : shwV b (wls W) = (0, 8) := shw_none hwe (by rw [hpd]; omega)
 refine sy_seq ?_
 refine sy_tx' [0, 1] rfl ?_
 refine sp rfl (PE.assign rfl) rfl ?_
 refine sp rfl (PE.assign rfl) rfl ?_
 refine sy_ret ?_
 exact sy_return (vs := [_, _]) rfl (.cons (RV.tmp rfl) (.cons (RV.tmp rfl) .nil)) rfl ⟨by rw [hsv]; rfl, rfl, rfl⟩ (fun w h => (h.del b2).facts (fun g hg => by simp [hg]))
 try simp only [decide_eq_true_eq, decide_eq_false_iff_not, Bool.and_eq_true, Bool.or_eq_true, Bool.not_eq_true', Int.not_le, Int.not_lt] at hc10
 have hsv : shwV b (wls W) = (rsV (shnV b.bins.length (wls W) (bgL b)), 0) := by
   rw [shw_yes hwe hws (by rw [hpd]; omega), hpd]
   rcases hrc with h1 | h1
   · omega
   · rw [h1.2]
 refine sy_skip ?_
 refine sy_seq ?_
 refine sy_tx' [0, 1, 2] rfl ?_
 refine sp rfl (PE.move rfl) rfl ?_
 refine sp rfl (PE.assign rfl) rfl ?_
 refine sp rfl (PE.assign rfl) rfl ?_
 refine sy_ret ?_
 exact sy_return (vs := [_, _]) rfl (.cons (RV.tmp rfl) (.cons (RV.tmp rfl) .nil)) rfl ⟨by rw [hsv]; rfl, rfl, rfl⟩ (fun w h => (h.del b2).facts (fun g hg => by simp [hg]))
end Go.Proofs.Ytelegnmfhjfbaaa
namespace Go.Proofs.Ytelegnmfhjfbaaa
set_option linter.unusedSimpArgs false
set_option linter.unusedVariables false
open Go
theorem ag93 : aggN Try.prog 93 = some 2 := by kernel_rfl
theorem ap96 : apT Try.prog 96 = some (153, 2, 32) := by kernel_rfl
theorem cn93 : cellN Try.prog 93 = some 2 := by kernel_rfl
theorem el91 : elN Try.prog 91 = some 2 := by kernel_rfl
theorem fo93_0 : fOff Try.prog 93 0 = some 0 := by kernel_rfl
theorem fo93_1 : fOff Try.prog 93 1 = some 1 := by kernel_rfl
theorem isl91 : isSl Try.prog 91 = true := by kernel_rfl
theorem sl96 : slE Try.prog 96 = some (153, 2) := by kernel_rfl
theorem zl153 : zeroL Try.prog 153 = some ([.slice none 0 0, .int .i64 0]) := by kernel_rfl
theorem zl93 : zeroL Try.prog 93 = some ([.slice none 0 0, .int .i64 0]) := by kernel_rfl
theorem notT {x : Bool} (h : (!x) = true) : x = false := by cases x <;> simp at h ⊢
theorem notF {x : Bool} (h : (!x) = false) : x = true := by cases x <;> simp at h ⊢
theorem bl_badL {b : Barn} {k : Nat} {v : Int} {z : HBin} (hz : b.bins[k]? = some z) (h : (decide (v = 1000000) != decide (b.worst z = 0)) = true) : badL b k v = true := by
  unfold badL
  rw [bin_getD hz]
  by_cases h0 : b.worst z = 0 <;> by_cases h1 : v = 1000000 <;> simp [h0, h1] at h ⊢
  all_goals rfl
theorem bl_ever {b : Barn} {k : Nat} {v : Int} {z : HBin} (hz : b.bins[k]? = some z) (h : (decide (v = 1000000) != decide (b.worst z = 0)) = false) (hv : v = 1000000) : badL b k v = false := by
  unfold badL
  rw [bin_getD hz]
  by_cases h0 : b.worst z = 0
  · rw [decide_eq_true h0, cond_true]; exact decide_eq_false (by simpa using hv)
  · rw [decide_eq_true hv, decide_eq_false h0] at h; cases h
theorem bl_num {b : Barn} {k : Nat} {v : Int} {z : HBin} (hz : b.bins[k]? = some z) (h : (decide (v = 1000000) != decide (b.worst z = 0)) = false) (hv : v ≠ 1000000) : badL b k v = !(inB v 0 10) := by
  unfold badL
  rw [bin_getD hz]
  by_cases h0 : b.worst z = 0
  · rw [decide_eq_false hv, decide_eq_true h0] at h; cases h
  · rw [decide_eq_false h0]; rfl
theorem c_walled (W : List WE) (aw : Option Addr) (cw : Nat) (hwl : W.length ≤ 1000000) (H : Heap) (R : Facts) [hW : MemRows aw 2 (werows W) R] :
    Fn Try.prog 59 [.slice aw W.length cw] H R (fun v H' R' => ∃ (a : Option Addr) (c : Nat), v = .slice a W.length c ∧ H' = H ∧ R' = RowsA a 2 (werows W) :: R) := by
 refine fn_of Try.func59 rfl Try.ntmps59 rfl ?_
 refine sy_seq ?_
 refine sy_tx' [0] rfl ?_
 refine sp rfl (PE.assign rfl) rfl ?_
 refine sy_seq ?_
 refine sy_tx' [0] rfl ?_
 refine sp rfl (PE.assign rfl) rfl ?_
 refine sy_seq ?_
 refine sy_seq ?_
 refine sy_tx' [0, 1, 2] rfl ?_
 refine sp rfl (PE.move rfl) rfl ?_
 refine sp rfl (PE.lenSl isl91 rfl) rfl ?_
 refine sp rfl (PE.move rfl) rfl ?_
 refine sy_block ?_
 refine sy_loop (ι := (i : {i : Nat // i ≤ W.length}) × OSl 153 2 (werows (W.take i.1))) (fun y => ⟨[(3, y.2.fs), (6, .slice aw W.length cw), (7, .int .i64 W.length), (8, .int .i64 y.1.1)], y.2.G ++ H, R⟩) (fun y => W.length - y.1.1) ⟨⟨0, Nat.zero_le _⟩, OSl.nil _ _⟩ ?_ (fun y => ?_)
 exact sy_at (by repeat' first | exact Sub.nil | apply Sub.cons | rfl | (simp [lk]; omega)) (fun _ h => h)
 obtain ⟨⟨i, hi⟩, o⟩ := y
 dsimp only at hi o ⊢
 refine sy_seq ?_
 refine sy_tx' [0] rfl ?_
 refine sp rfl (PE.lss rfl rfl) rfl ?_
 refine sy_seq ?_
 refine sy_cond rfl (fun hc0 => ?_) (fun hc0 => ?_)
 try simp only [decide_eq_true_eq, decide_eq_false_iff_not, Bool.and_eq_true, Bool.or_eq_true, Bool.not_eq_true', Int.not_le, Int.not_lt] at hc0
 obtain ⟨x, hx⟩ : ∃ x, W[i]? = some x := ⟨_, List.getElem?_eq_getElem (by omega)⟩
 have hxm := List.mem_of_getElem? hx
 refine sy_addr (a := aw) (sz := 2) (rows := werows W) (by intro h0; have := congrArg List.length h0; rw [werows_len] at this; simp only [List.length_nil] at this; omega) (fun bw ow he => ?_)
 subst he
 refine sy_skip ?_
 refine sy_seq ?_
 refine sy_block ?_
 refine sy_seq ?_
 refine sy_tx' [0, 1, 2, 3] rfl ?_
 refine sp rfl (PE.indexAddr el91 rfl rfl (by omega) (by omega)) rfl ?_
 refine spL rfl rfl (lfA ag93 (row := werow x) (we_get hx) rfl) rfl ?_
 refine alc rfl zl93 rfl (fun b5 => ?_)
 refine stoE (l' := werow x) rfl rfl rfl cn93 rfl rfl rfl rfl (Nat.le_of_ble_eq_true rfl) ?_
 refine sy_tx' [0, 1, 2, 3, 4] rfl ?_
 refine sp rfl (PE.move rfl) rfl ?_
 refine spL rfl rfl (lhA (werow x) ag93 rfl rfl rfl) rfl ?_
 refine bsl (out := [_, _]) rfl sl96 zl153 rfl rfl rfl rfl rfl rfl (fun b14 => ?_)
 refine apO (o) rfl ap96 rfl rfl (rowsH (row := werow x) rfl) rfl rfl ((by rw [werows_len, List.length_take]; simp only [List.length_singleton]; omega)) rfl (fun o15 => ?_)
 refine sp rfl (PE.assign rfl) rfl ?_
 refine sy_tx' [0, 1] rfl ?_
 refine sp rfl (PE.add rfl rfl (by omega)) rfl ?_
 refine sp rfl (PE.move rfl) rfl ?_
 exact sy_next ⟨⟨i + 1, by omega⟩, o15.cast (by rw [take_snoc hx, werows_app]; rfl)⟩ (by dsimp only; omega) (by repeat' first | exact Sub.nil | apply Sub.cons | rfl | (simp [lk]; omega)) (fun w h => (h.del b14).del b5)
 try simp only [decide_eq_true_eq, decide_eq_false_iff_not, Bool.and_eq_true, Bool.or_eq_true, Bool.not_eq_true', Int.not_le, Int.not_lt] at hc0
 obtain rfl : i = W.length := by omega
 obtain ⟨a9, c9, he, hf⟩ := o.freeze
 rw [he, werows_len, List.length_take, Nat.min_self]
 refine Sy.heap (fun w h => hf h) ?_
 clear he hf
 rw [List.take_length]
 refine sy_exit ?_
 repeat refine sy_tx ?_
 refine sy_bx ?_
 refine sy_seq ?_
 refine sy_tx' [0, 1] rfl ?_
 refine sp rfl (PE.move rfl) rfl ?_
 refine sp rfl (PE.assign rfl) rfl ?_
 refine sy_ret ?_
 exact sy_return (vs := [_]) rfl (.cons (RV.tmp rfl) .nil) rfl ⟨a9, c9, rfl, rfl, rfl⟩ (fun _ h => h)
theorem c_under (b : Barn) (hok : b.ok) (ab : Option Addr) (cb bd m : Nat) (s t : HSt) (hs : s.length = 4) (ht : t.length = 4) (H : Heap) (R : Facts) [hD : MemRows (some ⟨bd, 0, none⟩) 18 [dcs b (b.sl ab cb) b.lasts b.most m] R] :
    FnV Try.prog 119 [.pointer (some ⟨bd, 0, none⟩), stv s, stv t] H R (.bool (undP b.bins.length s t)) := by
 have hmn := hok.many
 refine fn_of Try.func119 rfl Try.ntmps119 rfl ?_
 refine sy_seq ?_
 refine sy_tx' [0, 1, 2] rfl ?_
 refine bx rfl rfl rfl (fun b4 => ?_)
 refine bx rfl rfl rfl (fun b5 => ?_)
 refine sp rfl (PE.assign rfl) rfl ?_
 refine sy_seq ?_
 refine sy_seq ?_
 refine sy_tx' [0, 1, 2, 3, 4, 5, 6] rfl ?_
 refine sp rfl (PE.move rfl) rfl ?_
 refine sp rfl (PE.nilCheck rfl) rfl ?_
 refine sp rfl (PE.fieldAddr fo130_0 rfl) rfl ?_
 refine sp rfl (PE.fieldAddr fo25_3 rfl) rfl ?_
 refine spL rfl rfl (lfB (sz := 18) sc23 rfl) rfl ?_
 refine sp rfl (PE.lenSl isl23 rfl) rfl ?_
 refine sp rfl (PE.move rfl) rfl ?_
 refine sy_block ?_
 refine sy_loop (ι := {k : Nat // k ≤ b.bins.length ∧ ∀ j < k, na s j ≤ na t j}) (fun k => ⟨[(4, .pointer (some ⟨b4, 0, none⟩)), (5, .pointer (some ⟨b5, 0, none⟩)), (13, .int .i64 b.bins.length), (14, .int .i64 k.1)], (b5, cel 127 (ints t)) :: (b4, cel 127 (ints s)) :: H, R⟩) (fun k => b.bins.length - k.1) ⟨0, Nat.zero_le _, fun j hj => absurd hj (Nat.not_lt_zero _)⟩ ?_ (fun k => ?_)
 exact sy_at (by repeat' first | exact Sub.nil | apply Sub.cons | rfl | (simp [lk]; omega)) (fun _ h => h)
 obtain ⟨k, hk, hin⟩ := k
 dsimp only at hk hin ⊢
 refine sy_seq ?_
 refine sy_tx' [0] rfl ?_
 refine sp rfl (PE.lss rfl rfl) rfl ?_
 refine sy_seq ?_
 refine sy_cond rfl (fun hc0 => ?_) (fun hc0 => ?_)
 try simp only [decide_eq_true_eq, decide_eq_false_iff_not, Bool.and_eq_true, Bool.or_eq_true, Bool.not_eq_true', Int.not_le, Int.not_lt] at hc0
 refine sy_skip ?_
 refine sy_seq ?_
 refine sy_block ?_
 refine sy_seq ?_
 refine sy_tx' [0, 1] rfl ?_
 refine sp rfl (PE.move rfl) rfl ?_
 refine sp rfl (PE.assign rfl) rfl ?_
 refine sy_seq ?_
 refine sy_draw [0, 1, 3, 0, 8, 24, 63] (.tk 0 (.tk 1 (.ld 2 (.tk 3 (.tk 4 (.ld 5 (.tk 6 .done))))))) mixed (by kernel_rfl) ?_
 refine tk rfl (PE.move rfl) rfl ?_
 refine tk rfl (PE.indexArr ar127 rfl rfl (by omega) (by omega)) rfl ?_
 refine ld rfl rfl (lh sc3 rfl (st_at (k := k) hs (by omega) (by show 0 + ((k : Nat) : Int).toNat * 1 = _; omega))) rfl ?_
 refine tk rfl (PE.move rfl) rfl ?_
 refine tk rfl (PE.indexArr ar127 rfl rfl (by omega) (by omega)) rfl ?_
 refine ld rfl rfl (lh sc3 rfl (st_at (k := k) ht (by omega) (by show 0 + ((k : Nat) : Int).toNat * 1 = _; omega))) rfl ?_
 refine tk rfl (PE.gtr rfl rfl) rfl ?_
 refine sy_cond rfl (fun hc1 => ?_) (fun hc1 => ?_)
 try simp only [decide_eq_true_eq, decide_eq_false_iff_not, Bool.and_eq_true, Bool.or_eq_true, Bool.not_eq_true', Int.not_le, Int.not_lt] at hc1
 have hun := undP_no (n := b.bins.length) (s := s) (t := t) (k := k) (by omega) hc1
 refine sy_seq ?_
 refine sy_tx' [0] rfl ?_
 refine sp rfl (PE.assign rfl) rfl ?_
 refine sy_ret ?_
 exact sy_return (vs := [_]) rfl (.cons (RV.tmp rfl) .nil) rfl ⟨by rw [hun]; rfl, rfl, rfl⟩ (fun w h => (h.del b5).del b4)
 try simp only [decide_eq_true_eq, decide_eq_false_iff_not, Bool.and_eq_true, Bool.or_eq_true, Bool.not_eq_true', Int.not_le, Int.not_lt] at hc1
 have hin2 : ∀ j < k + 1, na s j ≤ na t j := fun j hj => by
   rcases Nat.lt_or_ge j k with h1 | h1
   · exact hin j h1
   · obtain rfl : j = k := by omega
     exact hc1
 refine sy_skip ?_
 refine sy_tx' [0, 1] rfl ?_
 refine sp rfl (PE.add rfl rfl (by omega)) rfl ?_
 refine sp rfl (PE.move rfl) rfl ?_
 exact sy_next ⟨k + 1, by omega, hin2⟩ (by dsimp only; omega) (by repeat' first | exact Sub.nil | apply Sub.cons | rfl | (simp [lk]; omega)) (fun _ h => h)
 try simp only [decide_eq_true_eq, decide_eq_false_iff_not, Bool.and_eq_true, Bool.or_eq_true, Bool.not_eq_true', Int.not_le, Int.not_lt] at hc0
 obtain rfl : k = b.bins.length := by omega
 have hun : undP b.bins.length s t = true := undP_iff.2 hin
 refine sy_exit ?_
 repeat refine sy_tx ?_
 refine sy_bx ?_
 refine sy_seq ?_
 refine sy_tx' [0] rfl ?_
 refine sp rfl (PE.assign rfl) rfl ?_
 refine sy_ret ?_
 exact sy_return (vs := [_]) rfl (.cons (RV.tmp rfl) .nil) rfl ⟨by rw [hun]; rfl, rfl, rfl⟩ (fun w h => (h.del b5).del b4)
theorem c_right (b : Barn) (hok : b.ok) (ab : Option Addr) (cb bd m : Nat) (W : List WE) (aw : Option Addr) (cw : Nat) (hwl : W.length ≤ 1000000) (hwx : ∀ x ∈ W, x.l.length ≤ 1000000) (H : Heap) (R : Facts) [hB : MemRows ab 4 (brows b.bins) R] [hD : MemRows (some ⟨bd, 0, none⟩) 18 [dcs b (b.sl ab cb) b.lasts b.most m] R] [hW : MemRows aw 2 (werows W) R] [hN : MemF (InW W) R] :
    FnV Try.prog 117 [.pointer (some ⟨bd, 0, none⟩), .slice aw W.length cw] H R (.int .i64 (wlErr b (wls W))) := by
 have hmn := hok.many
 refine fn_of Try.func117 rfl Try.ntmps117 rfl ?_
 refine sy_seq ?_
 refine sy_tx' [0] rfl ?_
 refine sp rfl (PE.assign rfl) rfl ?_
 refine sy_seq ?_
 refine sy_seq ?_
 refine sy_tx' [0, 1, 2, 3] rfl ?_
 obtain ⟨z0, hx⟩ : ∃ x, b.bins[0]? = some x := ⟨_, List.getElem?_eq_getElem (by omega)⟩
 refine sy_addr (a := ab) (sz := 4) (rows := brows b.bins) (by intro h0; simp [brows] at h0; simp [h0] at hx) (fun ba oa he => ?_)
 subst he
 clear hx
 refine sp rfl (PE.move rfl) rfl ?_
 refine sp rfl (PE.lenSl isl91 rfl) rfl ?_
 refine clV rfl cal101 rfl rfl (c_in _ _ _ _ _) ?_
 refine sp rfl (PE.not rfl) rfl ?_
 refine sy_cond rfl (fun hc0 => ?_) (fun hc0 => ?_)
 have hil : inB ((wls W).length : Int) 1 20000 = false := by rw [wls_len]; exact notT hc0
 have hsv := wlErr_len (b := b) hil
 refine sy_seq ?_
 refine sy_tx' [0] rfl ?_
 refine sp rfl (PE.assign rfl) rfl ?_
 refine sy_ret ?_
 exact sy_return (vs := [_]) rfl (.cons (RV.tmp rfl) .nil) rfl ⟨by rw [hsv]; rfl, rfl, rfl⟩ (fun _ h => h)
 have hil : inB ((wls W).length : Int) 1 20000 = true := by rw [wls_len]; exact notF hc0
 have hil2 : 1 ≤ W.length ∧ W.length ≤ 20000 := by rw [wls_len] at hil; simp [inB] at hil; omega
 refine sy_addr (a := aw) (sz := 2) (rows := werows W) (by intro h0; have := congrArg List.length h0; rw [werows_len] at this; simp only [List.length_nil] at this; omega) (fun bw ow he => ?_)
 subst he
 refine sy_skip ?_
 refine sy_seq ?_
 refine sy_seq ?_
 refine sy_tx' [0, 1, 2] rfl ?_
 refine sp rfl (PE.move rfl) rfl ?_
 refine sp rfl (PE.lenSl isl91 rfl) rfl ?_
 refine sp rfl (PE.move rfl) rfl ?_
 refine sy_block ?_
 refine sy_loop (ι := {i : Nat // i ≤ W.length ∧ ∀ y ∈ (wls W).take i, stErr b y = 0}) (fun i => ⟨[(0, .pointer (some ⟨bd, 0, none⟩)), (13, .slice (some ⟨bw, ow, none⟩) W.length cw), (14, .int .i64 W.length), (15, .int .i64 i.1)], H, R⟩) (fun i => W.length - i.1) ⟨0, Nat.zero_le _, by simp⟩ ?_ (fun i => ?_)
 exact sy_at (by repeat' first | exact Sub.nil | apply Sub.cons | rfl | (simp [lk]; omega)) (fun _ h => h)
 obtain ⟨i, hi, hpre⟩ := i
 dsimp only at hi hpre ⊢
 refine sy_seq ?_
 refine sy_tx' [0] rfl ?_
 refine sp rfl (PE.lss rfl rfl) rfl ?_
 refine sy_seq ?_
 refine sy_cond rfl (fun hc1 => ?_) (fun hc1 => ?_)
 try simp only [decide_eq_true_eq, decide_eq_false_iff_not, Bool.and_eq_true, Bool.or_eq_true, Bool.not_eq_true', Int.not_le, Int.not_lt] at hc1
 obtain ⟨x, hx⟩ : ∃ x, W[i]? = some x := ⟨_, List.getElem?_eq_getElem (by omega)⟩
 have hxm := List.mem_of_getElem? hx
 have hxl9 := hwx x hxm
 have hpe : ∀ e, stErr b (x.l, x.d) = e → e ≠ 0 → wlErr b (wls W) = e := fun e h1 h2 => by
   have h3 := wlErr_at hil (wls_get hx) hpre (by rw [h1]; exact h2)
   rw [h3, h1]
 refine sy_skip ?_
 refine sy_seq ?_
 refine sy_block ?_
 refine sy_seq ?_
 refine sy_tx' [0, 1, 2, 3] rfl ?_
 refine sp rfl (PE.indexAddr el91 rfl rfl (by omega) (by omega)) rfl ?_
 refine spL rfl rfl (lfA ag93 (row := werow x) (we_get hx) rfl) rfl ?_
 refine alc rfl zl93 rfl (fun b6 => ?_)
 refine stoE (l' := werow x) rfl rfl rfl cn93 rfl rfl rfl rfl (Nat.le_of_ble_eq_true rfl) ?_
 refine sy_seq ?_
 refine sy_seq ?_
 refine sy_draw [0, 1, 3, 0, 8, 24, 56, 120, 248, 511] (.tk 0 (.ld 1 (.tk 2 (.tk 3 (.tk 4 (.tk 5 (.tk 6 (.ld 7 (.tk 8 (.tk 9 .done)))))))))) mixed (by kernel_rfl) ?_
 refine tk rfl (PE.fieldAddr fo93_0 rfl) rfl ?_
 refine ld rfl rfl (lh sc40 rfl rfl) rfl ?_
 refine tk rfl (PE.lenSl isl40 rfl) rfl ?_
 refine tk rfl (PE.move rfl) rfl ?_
 refine tk rfl (PE.nilCheck rfl) rfl ?_
 refine tk rfl (PE.fieldAddr fo130_0 rfl) rfl ?_
 refine tk rfl (PE.fieldAddr fo25_3 rfl) rfl ?_
 refine ld rfl rfl (lfB (sz := 18) sc23 rfl) rfl ?_
 refine tk rfl (PE.lenSl isl23 rfl) rfl ?_
 refine tk rfl (PE.neq rfl rfl) rfl ?_
 refine sy_cond rfl (fun hc2 => ?_) (fun hc2 => ?_)
 try simp only [decide_eq_true_eq, decide_eq_false_iff_not, Bool.and_eq_true, Bool.or_eq_true, Bool.not_eq_true', Int.not_le, Int.not_lt] at hc2
 have hsv := hpe 2 (stErr_len (s := (x.l, x.d)) (by dsimp only; omega)) (by decide)
 refine sy_seq ?_
 refine sy_tx' [0] rfl ?_
 refine sp rfl (PE.assign rfl) rfl ?_
 refine sy_ret ?_
 exact sy_return (vs := [_]) rfl (.cons (RV.tmp rfl) .nil) rfl ⟨by rw [hsv]; rfl, rfl, rfl⟩ (fun w h => h.del b6)
 try simp only [decide_eq_true_eq, decide_eq_false_iff_not, Bool.and_eq_true, Bool.or_eq_true, Bool.not_eq_true', Int.not_le, Int.not_lt] at hc2
 have hxl : x.l.length = b.bins.length := by omega
 refine sy_skip ?_
 refine sy_seq ?_
 refine sy_seq ?_
 refine sy_tx' [0, 1, 2, 3] rfl ?_
 refine sp rfl (PE.fieldAddr fo93_1 rfl) rfl ?_
 refine spL rfl rfl (lh sc3 rfl rfl) rfl ?_
 refine clV rfl cal101 rfl rfl (c_in _ _ _ _ _) ?_
 refine sp rfl (PE.not rfl) rfl ?_
 refine sy_cond rfl (fun hc3 => ?_) (fun hc3 => ?_)
 have hsv := hpe 3 (stErr_days (s := (x.l, x.d)) hxl (notT hc3)) (by decide)
 refine sy_seq ?_
 refine sy_tx' [0] rfl ?_
 refine sp rfl (PE.assign rfl) rfl ?_
 refine sy_ret ?_
 exact sy_return (vs := [_]) rfl (.cons (RV.tmp rfl) .nil) rfl ⟨by rw [hsv]; rfl, rfl, rfl⟩ (fun w h => h.del b6)
 have hxd : inB x.d 0 20000 = true := notF hc3
 refine Sy.heap (H' := (b6, cel 93 [.slice x.a x.l.length x.c, .int .i64 x.d]) :: H) (fun w h => St.inwAt (x := x) h hxm) ?_
 refine sy_addr (a := x.a) (sz := 1) (rows := irows x.l) (by intro h0; have := congrArg List.length h0; rw [irows_len] at this; simp only [List.length_nil] at this; omega) (fun bx ox he => ?_)
 rw [he]
 refine sy_skip ?_
 refine sy_seq ?_
 refine sy_tx' [0, 1, 2, 3] rfl ?_
 refine sp rfl (PE.fieldAddr fo93_0 rfl) rfl ?_
 refine spL rfl rfl (lh sc40 rfl rfl) rfl ?_
 refine sp rfl (PE.lenSl isl40 rfl) rfl ?_
 refine sp rfl (PE.move rfl) rfl ?_
 refine sy_block ?_
 refine sy_loop (ι := {k : Nat // k ≤ b.bins.length ∧ ∀ j < k, badL b j (na x.l j) = false}) (fun k => ⟨[(0, .pointer (some ⟨bd, 0, none⟩)), (13, .slice (some ⟨bw, ow, none⟩) W.length cw), (14, .int .i64 W.length), (15, .int .i64 i), (34, .slice (some ⟨bx, ox, none⟩) x.l.length x.c), (35, .int .i64 x.l.length), (36, .int .i64 k.1)], (b6, cel 93 [.slice (some ⟨bx, ox, none⟩) x.l.length x.c, .int .i64 x.d]) :: H, RowsA (some ⟨bx, ox, none⟩) 1 (irows x.l) :: R⟩) (fun k => b.bins.length - k.1) ⟨0, Nat.zero_le _, fun j hj => absurd hj (Nat.not_lt_zero _)⟩ ?_ (fun k => ?_)
 exact sy_at (by repeat' first | exact Sub.nil | apply Sub.cons | rfl | (simp [lk]; omega)) (fun _ h => h)
 obtain ⟨k, hk, hbl⟩ := k
 dsimp only at hk hbl ⊢
 refine sy_seq ?_
 refine sy_tx' [0] rfl ?_
 refine sp rfl (PE.lss rfl rfl) rfl ?_
 refine sy_seq ?_
 refine sy_cond rfl (fun hc4 => ?_) (fun hc4 => ?_)
 try simp only [decide_eq_true_eq, decide_eq_false_iff_not, Bool.and_eq_true, Bool.or_eq_true, Bool.not_eq_true', Int.not_le, Int.not_lt] at hc4
 obtain ⟨z, hz⟩ : ∃ z, b.bins[k]? = some z := ⟨_, List.getElem?_eq_getElem (by omega)⟩
 have hzo := hok.bins z (List.mem_of_getElem? hz)
 have hm2 : ∀ j < k + 1, badL b k (na x.l k) = false → badL b j (na x.l j) = false := fun j hj h => by
   rcases Nat.lt_or_ge j k with h1 | h1
   · exact hbl j h1
   · obtain rfl : j = k := by omega
     exact h
 refine sy_skip ?_
 refine sy_seq ?_
 refine sy_block ?_
 refine sy_seq ?_
 refine sy_tx' [0, 1, 2, 3, 4] rfl ?_
 refine sp rfl (PE.move rfl) rfl ?_
 refine sp rfl (PE.indexAddr el40 rfl rfl (by omega) (by omega)) rfl ?_
 refine spL rfl rfl (lf0 sc3 (ir_get (na_get (l := x.l) (k := k) (by omega))) rfl) rfl ?_
 refine sp rfl (PE.assign rfl) rfl ?_
 refine sp rfl (PE.assign rfl) rfl ?_
 refine sy_seq ?_
 refine sy_tx' [0, 1, 2, 3, 4, 5, 6, 7, 8, 9, 10, 11, 12, 13, 14, 15, 16, 17, 18] rfl ?_
 refine sp rfl (PE.move rfl) rfl ?_
 refine sp rfl (PE.eql rfl rfl) rfl ?_
 refine sp rfl (PE.move rfl) rfl ?_
 refine sp rfl (PE.nilCheck rfl) rfl ?_
 refine sp rfl (PE.fieldAddr fo130_0 rfl) rfl ?_
 refine spL rfl rfl (lfBA (sz := 18) (btl b (b.sl (some ⟨ba, oa, none⟩) cb)) ag25 rfl rfl) rfl ?_
 refine sp rfl (PE.move rfl) rfl ?_
 refine clV rfl cal77 rfl rfl (c_worst b (some ⟨ba, oa, none⟩) cb k z hz hzo.2.2.2 _ _) ?_
 refine sp rfl (PE.eql rfl rfl) rfl ?_
 refine sp rfl (PE.neqBool ub4 rfl rfl) rfl ?_
 refine sp rfl (PE.move rfl) rfl ?_
 refine sy_case (t := 51) rfl (fun g51 => ?_) (fun g51 => ?_)
 have hbv := bl_badL hz g51
 repeat refine spN rfl rfl rfl rfl rfl rfl rfl rfl ?_
 repeat refine spU rfl rfl rfl rfl rfl rfl rfl ?_
 refine spN rfl rfl rfl rfl rfl rfl rfl rfl ?_
 refine sp rfl (PE.pick rfl rfl rfl) rfl ?_
 refine sy_condT rfl ?_
 refine sy_seq ?_
 refine sy_tx' [0] rfl ?_
 have hsv := hpe 3 (stErr_num (s := (x.l, x.d)) hxl hxd (k := k) (by omega) hbv) (by decide)
 refine sp rfl (PE.assign rfl) rfl ?_
 refine sy_ret ?_
 first | exact sy_return (vs := [_]) rfl (.cons (RV.tmp rfl) .nil) rfl ⟨by rw [hsv]; rfl, rfl, rfl⟩ (fun w h => (h.del b6).ftail) | exact sy_return (vs := [_]) rfl (.cons (RV.tmp rfl) .nil) rfl ⟨by rw [hsv]; rfl, rfl, rfl⟩ (fun _ h => h)
 refine spG rfl rfl rfl rfl (PE.move rfl) rfl ?_
 refine spG rfl rfl rfl rfl (PE.neq rfl rfl) rfl ?_
 refine spG rfl rfl rfl rfl (PE.move rfl) rfl ?_
 refine sy_case (t := 54) rfl (fun g54 => ?_) (fun g54 => ?_)
 have hnum := bl_num hz g51 (of_decide_eq_true g54)
 refine spG rfl rfl rfl rfl (PE.move rfl) rfl ?_
 refine clVG rfl rfl rfl rfl cal101 rfl rfl (c_in _ _ _ _ _) ?_
 refine spG rfl rfl rfl rfl (PE.not rfl) rfl ?_
 refine spG rfl rfl rfl rfl (PE.pick rfl rfl rfl) rfl ?_
 refine sp rfl (PE.pick rfl rfl rfl) rfl ?_
 refine sy_cond rfl (fun hc5 => ?_) (fun hc5 => ?_)
 have hbv : badL b k (na x.l k) = true := hnum.trans hc5
 refine sy_seq ?_
 refine sy_tx' [0] rfl ?_
 have hsv := hpe 3 (stErr_num (s := (x.l, x.d)) hxl hxd (k := k) (by omega) hbv) (by decide)
 refine sp rfl (PE.assign rfl) rfl ?_
 refine sy_ret ?_
 first | exact sy_return (vs := [_]) rfl (.cons (RV.tmp rfl) .nil) rfl ⟨by rw [hsv]; rfl, rfl, rfl⟩ (fun w h => (h.del b6).ftail) | exact sy_return (vs := [_]) rfl (.cons (RV.tmp rfl) .nil) rfl ⟨by rw [hsv]; rfl, rfl, rfl⟩ (fun _ h => h)
 have hbv : badL b k (na x.l k) = false := hnum.trans hc5
 refine sy_skip ?_
 refine sy_tx' [0, 1] rfl ?_
 refine sp rfl (PE.add rfl rfl (by omega)) rfl ?_
 refine sp rfl (PE.move rfl) rfl ?_
 exact sy_next ⟨k + 1, by omega, fun j hj => hm2 j hj hbv⟩ (by dsimp only; omega) (by repeat' first | exact Sub.nil | apply Sub.cons | rfl | (simp [lk]; omega)) (fun _ h => h)
 have hbv := bl_ever hz g51 (by have := of_decide_eq_false g54; omega)
 repeat refine spN rfl rfl rfl rfl rfl rfl rfl rfl ?_
 refine spG rfl rfl rfl rfl (PE.pick rfl rfl rfl) rfl ?_
 refine sp rfl (PE.pick rfl rfl rfl) rfl ?_
 refine sy_condF rfl ?_
 refine sy_skip ?_
 refine sy_tx' [0, 1] rfl ?_
 refine sp rfl (PE.add rfl rfl (by omega)) rfl ?_
 refine sp rfl (PE.move rfl) rfl ?_
 exact sy_next ⟨k + 1, by omega, fun j hj => hm2 j hj hbv⟩ (by dsimp only; omega) (by repeat' first | exact Sub.nil | apply Sub.cons | rfl | (simp [lk]; omega)) (fun _ h => h)
 try simp only [decide_eq_true_eq, decide_eq_false_iff_not, Bool.and_eq_true, Bool.or_eq_true, Bool.not_eq_true', Int.not_le, Int.not_lt] at hc4
 obtain rfl : k = b.bins.length := by omega
 have hst := stErr_ok (s := (x.l, x.d)) hxl hxd hbl
 refine sy_exit ?_
 repeat refine sy_tx ?_
 refine sy_bx ?_
 refine sy_tx' [0, 1] rfl ?_
 refine sp rfl (PE.add rfl rfl (by omega)) rfl ?_
 refine sp rfl (PE.move rfl) rfl ?_
 exact sy_next ⟨i + 1, by omega, take_all (wls_get hx) hpre hst⟩ (by dsimp only; omega) (by repeat' first | exact Sub.nil | apply Sub.cons | rfl | (simp [lk]; omega)) (fun w h => (h.del b6).ftail)
 try simp only [decide_eq_true_eq, decide_eq_false_iff_not, Bool.and_eq_true, Bool.or_eq_true, Bool.not_eq_true', Int.not_le, Int.not_lt] at hc1
 obtain rfl : i = W.length := by omega
 rw [List.take_of_length_le (by rw [wls_len]; exact Nat.le_refl _)] at hpre
 have hsv := wlErr_ok hil hpre
 refine sy_exit ?_
 repeat refine sy_tx ?_
 refine sy_bx ?_
 refine sy_seq ?_
 refine sy_tx' [0] rfl ?_
 refine sp rfl (PE.assign rfl) rfl ?_
 refine sy_ret ?_
 first | exact sy_return (vs := [_]) rfl (.cons (RV.tmp rfl) .nil) rfl ⟨by rw [hsv]; rfl, rfl, rfl⟩ (fun w h => (h.del b6).ftail) | exact sy_return (vs := [_]) rfl (.cons (RV.tmp rfl) .nil) rfl ⟨by rw [hsv]; rfl, rfl, rfl⟩ (fun _ h => h)
end Go.Proofs.Ytelegnmfhjfbaaa
namespace Go.Proofs.Ytelegnmfhjfbaaa
set_option linter.unusedSimpArgs false
set_option linter.unusedVariables false
open Go
theorem cal117 : cal Try.prog 117 = true := by kernel_rfl
theorem cal118 : cal Try.prog 118 = true := by kernel_rfl
theorem cal119 : cal Try.prog 119 = true := by kernel_rfl
theorem cn164 : cellN Try.prog 164 = some 1 := by kernel_rfl
theorem cn36 : cellN Try.prog 36 = some 1 := by kernel_rfl
theorem eqg127 : Try.prog.eqGuardType Try.prog.depth 127 = false := by kernel_rfl
theorem sc164 : scal Try.prog 164 = true := by kernel_rfl
theorem sc36 : scal Try.prog 36 = true := by kernel_rfl
theorem sc91 : scal Try.prog 91 = true := by kernel_rfl
theorem zl164 : zeroL Try.prog 164 = some ([.nilFunc]) := by kernel_rfl
theorem zl36 : zeroL Try.prog 36 = some ([.int .i64 0]) := by kernel_rfl
section
variable {P : Program} {r : Option Nat} {ops : Array Oper} {n : Nat} {L : Slots} {D : List Deferred} {H : Heap} {R : Facts} {K : Act → World → Prop}
  {i d : Nat} {ty : TypeId} {pos : String} {af : Array Edge}
theorem cpyRo {T T2 e s od : Nat} {x y : Operand} {b dl dc sc e2 : Nat} {l : List Value} {ax : Option Addr} {rows : List (List Value)} {H' : Heap}
    (ho : ops[i]? = some ⟨some d, .call { callee := .builtin .copy, args := #[x, y], argTypes := #[T, T2] }, ty, pos, af, none⟩) (hT : slE P T = some (e, s))
    (hx : ev L x = some (.slice (some ⟨b, od, none⟩) dl dc)) (hy : ev L y = some (.slice ax rows.length sc)) [mr : MemRows ax s rows R] (hl : ∀ q ∈ rows, q.length = s) (hle : rows.length ≤ dl)
    (h1 : rows.flatten.all (·.oneCell') = true) (hb : od + rows.flatten.length ≤ l.length) (hd : Nat.blt d n = true)
    [m : Mem1 b (cel e2 l) H] [rp : Rep [(b, cel e2 l)] [(b, cel e2 (spl l od rows.flatten))] H H']
    (h : Sy n ((d, .int .i64 rows.length) :: L) D H' R K) : Sy n L D H R (stp P r ops i K) := fun a w ha hD hs => by
  obtain ⟨ie, hu, hi, rfl⟩ := slE_und hT
  have hr := run_rows (P := P) (sc := sc) (hs.now mr.mem) hl hle
  have hst := run_storeA (P := P) (e := e2) h1 hb (hs.held _ m.mem)
  refine stp_value ho (wanted_none _ rfl _) (v := .int .i64 rows.length) (w' := { w with heap := w.heap.setIfInBounds b (cel e2 (spl l od rows.flatten)) }) ?_
    (h _ _ (ha.put (by simpa using hd) _) hD (hs.rep (F := [(b, cel e2 l)]) (F' := [(b, cel e2 (spl l od rows.flatten))]) fun T hT => St.set hT))
  simp only [execOp, resolve, invoke, builtin, Sem.run_bind, Sem.run_pure, Result.andThen, List.map_toArray, List.map_cons, List.map_nil, ha.reads _ _ hx, ha.reads _ _ hy]
  have e1 : (Builtin.copy_ #[T, T2] ty #[.slice (some ⟨b, od, none⟩) dl dc, .slice ax rows.length sc]).run P w = .ok (goInt (rows.length : Nat)) { w with heap := w.heap.setIfInBounds b (cel e2 (spl l od rows.flatten)) } := by
    have e3 : (Builtin.firstCells ie.size rows.length (.slice ax rows.length sc)).run P w = .ok rows.flatten.toArray w := by
      rw [show Nat.min rows.length dl = rows.length from Nat.min_eq_left hle] at hr; exact hr
    simp [Builtin.copy_, run_underlying hu, Builtin.lenOf, sizeOf, typeInfo, hi, e3, hst, Nat.min_eq_left hle]
  rw [e1]
  rfl
end
def wpd (W : List WE) : List HSt := W.map fun x => pad x.l
theorem wpd_len (W : List WE) : (wpd W).length = W.length := List.length_map _
theorem wpd_get {W : List WE} {i : Nat} {x : WE} (h : W[i]? = some x) : (wpd W)[i]? = some (pad x.l) := by unfold wpd; rw [List.getElem?_map, h]; rfl
theorem st4 {l : List HSt} (h : ∀ s ∈ l, s.length = 4) : ∀ r ∈ strows l, r.length = 4 := fun r hr => by
  obtain ⟨s, hs, rfl⟩ := List.mem_map.1 hr
  rw [ints_length]; exact h s hs
def wgap (W : List WE) (i : Nat) : List Value := (strows (wpd (W.take i))).flatten ++ (List.replicate (W.length - i) [Value.int .i64 0, .int .i64 0, .int .i64 0, .int .i64 0]).flatten
theorem wpd_four {W : List WE} {n : Nat} (hn : n ≤ 4) (h : ∀ x ∈ W, x.l.length = n) : ∀ s ∈ wpd W, s.length = 4 := fun s hs => by
  obtain ⟨x, hx, rfl⟩ := List.mem_map.1 hs
  have := h x hx
  exact pad_len' (by omega)
theorem spl_pad {p rest : List Value} {l : List Int} (hl : l.length ≤ 4) : spl (p ++ ([Value.int .i64 0, .int .i64 0, .int .i64 0, .int .i64 0] ++ rest)) p.length (ints l) = p ++ (ints (pad l) ++ rest) := by
  unfold spl
  rw [List.take_left, ints_length, List.append_assoc]
  congr 1
  rw [show p.length + l.length = (p ++ ([] : List Value)).length + l.length by simp, List.append_nil, List.drop_append, List.drop_of_length_le (by omega), List.nil_append, show p.length + l.length - p.length = l.length by omega,
    List.drop_append_of_le_length (by simpa using hl)]
  rw [← List.append_assoc]
  congr 1
  have e : ([Value.int .i64 0, .int .i64 0, .int .i64 0, .int .i64 0] : List Value) = List.replicate 4 (.int .i64 0) := rfl
  rw [e, List.drop_replicate]
  unfold pad ints
  rw [List.map_append, List.map_replicate]
theorem wgap_put {W : List WE} {n i : Nat} {x : WE} (hn : n ≤ 4) (h : ∀ x ∈ W, x.l.length = n) (hx : W[i]? = some x) {o : Nat} (e : o = i * 4) : spl (wgap W i) o (irows x.l).flatten = wgap W (i + 1) := by
  have hi := (List.getElem?_eq_some_iff.1 hx).1
  have hp : (strows (wpd (W.take i))).flatten.length = i * 4 := by
    rw [flat_len (sz := 4) (st4 (wpd_four hn fun x hx => h x (List.mem_of_mem_take hx))), strows_len, wpd_len, List.length_take, Nat.min_eq_left (by omega)]
  unfold wgap
  rw [e, ← hp, show W.length - i = (W.length - (i + 1)) + 1 by omega, List.replicate_succ, List.flatten_cons, show (irows x.l).flatten = ints x.l from irows_flat x.l, spl_pad (by have := h x (List.mem_of_getElem? hx); omega), take_snoc hx]
  unfold wpd strows
  rw [List.map_append, List.map_append, List.flatten_append, List.append_assoc]
  simp
theorem wgap_len {W : List WE} {n i : Nat} (hn : n ≤ 4) (h : ∀ x ∈ W, x.l.length = n) (hi : i ≤ W.length) : (wgap W i).length = W.length * 4 := by
  unfold wgap
  rw [List.length_append, flat_len (sz := 4) (st4 (wpd_four hn fun x hx => h x (List.mem_of_mem_take hx))), strows_len, wpd_len, List.length_take, Nat.min_eq_left hi, flat_len (sz := 4) (fun r hr => by rw [(List.mem_replicate.1 hr).2]; rfl), List.length_replicate]
  omega
theorem irows_ones (l : List Int) : (irows l).flatten.all (·.oneCell') = true := by rw [irows_flat]; exact ints_one l
def shwE (b : Barn) (W : WL) : Int × Int := bif decide (b.check = 0) then shwV b W else (0, b.check)
theorem undP_refl (n : Nat) (s : List Int) : undP n s s = true := undP_iff.2 fun _ _ => Int.le_refl _
theorem c_shows1 (b : Barn) (hok : b.ok) (ab : Option Addr) (cb bd m : Nat) (W : List WE) (aw : Option Addr) (cw : Nat) (bl b1 b2 b3 : Nat) (hwl : W.length ≤ 1000000) (hwz : ∀ x ∈ W, x.l.length = b.bins.length ∧ (0 ≤ x.d ∧ x.d ≤ 20000)) (t : HSt) (ht : t.length = 4) (H : Heap) (R : Facts) [hD : MemRows (some ⟨bd, 0, none⟩) 18 [dcs b (b.sl ab cb) b.lasts b.most m] R] [hW : MemRows aw 2 (werows W) R] [h1 : MemRows (some ⟨b1, 0, none⟩) 1 [[.slice (some ⟨bl, 0, none⟩) W.length W.length]] R] [h2 : MemRows (some ⟨b2, 0, none⟩) 1 [[.pointer (some ⟨bd, 0, none⟩)]] R] [h3 : MemRows (some ⟨b3, 0, none⟩) 1 [[.slice aw W.length cw]] R] [h4 : MemRows (some ⟨bl, 0, none⟩) 4 (strows (wpd W)) R] :
    FnV Try.prog 118 [stv t, .pointer (some ⟨b1, 0, none⟩), .pointer (some ⟨b2, 0, none⟩), .pointer (some ⟨b3, 0, none⟩)] H R (.int .i64 (shnV b.bins.length (wls W) t)) := by
 have hmn := hok.many
 refine fn_of Try.func118 rfl Try.ntmps118 rfl ?_
 refine sy_seq ?_
 refine sy_tx' [0, 1] rfl ?_
 refine bx rfl rfl rfl (fun b4 => ?_)
 refine sp rfl (PE.assign rfl) rfl ?_
 refine sy_seq ?_
 refine sy_tx' [0] rfl ?_
 refine sp rfl (PE.assign rfl) rfl ?_
 refine sy_seq ?_
 refine sy_seq ?_
 refine sy_tx' [0, 1, 2] rfl ?_
 refine spL rfl rfl (lfB (sz := 1) sc156 rfl) rfl ?_
 refine sp rfl (PE.lenSl isl156 rfl) rfl ?_
 refine sp rfl (PE.move rfl) rfl ?_
 refine sy_block ?_
 refine sy_loop (ι := {y : Nat × Int // y.1 ≤ W.length ∧ y.2 = shnV b.bins.length (wls (W.take y.1)) t}) (fun y => ⟨[(1, .pointer (some ⟨b1, 0, none⟩)), (2, .pointer (some ⟨b2, 0, none⟩)), (3, .pointer (some ⟨b3, 0, none⟩)), (4, .pointer (some ⟨b4, 0, none⟩)), (6, .int .i64 y.1.2), (9, .slice (some ⟨bl, 0, none⟩) W.length W.length), (10, .int .i64 W.length), (11, .int .i64 y.1.1)], (b4, cel 127 (ints t)) :: H, R⟩) (fun y => W.length - y.1.1) ⟨(0, 1000000), Nat.zero_le _, rfl⟩ ?_ (fun y => ?_)
 exact sy_at (by repeat' first | exact Sub.nil | apply Sub.cons | rfl | (simp [lk]; omega)) (fun _ h => h)
 obtain ⟨⟨i, mi⟩, hi, hm⟩ := y
 dsimp only at hi hm ⊢
 refine sy_seq ?_
 refine sy_tx' [0] rfl ?_
 refine sp rfl (PE.lss rfl rfl) rfl ?_
 refine sy_seq ?_
 refine sy_cond rfl (fun hc0 => ?_) (fun hc0 => ?_)
 try simp only [decide_eq_true_eq, decide_eq_false_iff_not, Bool.and_eq_true, Bool.or_eq_true, Bool.not_eq_true', Int.not_le, Int.not_lt] at hc0
 obtain ⟨x, hx⟩ : ∃ x, W[i]? = some x := ⟨_, List.getElem?_eq_getElem (by omega)⟩
 have hxm := List.mem_of_getElem? hx
 obtain ⟨hxl, hxd⟩ := hwz x hxm
 have hpl : (pad x.l).length = 4 := pad_len' (by omega)
 have hnx : shnV b.bins.length (wls (W.take (i + 1))) t = bif undP b.bins.length t (pad x.l) then min mi x.d else mi := by rw [take_snoc hx, wls_app, show wls [x] = [(x.l, x.d)] from rfl, shnV_snoc, ← hm, undP_padR]; rfl
 have hsr : (strows (wpd W)).length = W.length := by rw [strows_len, wpd_len]
 refine sy_addr (a := aw) (sz := 2) (rows := werows W) (by intro h0; have := congrArg List.length h0; rw [werows_len] at this; simp only [List.length_nil] at this; omega) (fun bw ow he => ?_)
 subst he
 refine sy_skip ?_
 refine sy_seq ?_
 refine sy_block ?_
 refine sy_seq ?_
 refine sy_tx' [0, 1, 2, 3, 4, 5] rfl ?_
 refine sp rfl (PE.move rfl) rfl ?_
 refine sp rfl (PE.indexAddr el156 rfl rfl (by omega) (by omega)) rfl ?_
 refine spL rfl rfl (lfA ag127 (row := ints (pad x.l)) (strows_get (wpd_get hx)) (by rw [ints_length]; exact hpl)) rfl ?_
 refine alc rfl zl127 rfl (fun b8 => ?_)
 refine sp rfl (PE.assign rfl) rfl ?_
 refine stoA rfl rfl rfl cn127 rfl (by rw [ints_length]; exact hpl) rfl (ints_one _) ?_
 refine sy_seq ?_
 refine sy_tx' [0, 1, 2, 3, 4, 5, 6, 7, 8] rfl ?_
 refine spL rfl rfl (lhA (rest := []) (ints t) ag127 rfl (by rw [List.append_nil]; rfl) (by rw [ints_length]; exact ht)) rfl ?_
 refine spL rfl rfl (lhA (rest := []) (ints (pad x.l)) ag127 rfl (by rw [List.append_nil]; rfl) (by rw [ints_length]; exact hpl)) rfl ?_
 refine sp rfl (PE.eqlAgg t (pad x.l) (eqB_ok 10000 127 true 4 eqf127) eqg127 rfl rfl ht hpl) rfl ?_
 refine sp rfl (PE.move rfl) rfl ?_
 refine sy_case (t := 19) rfl (fun g19 => ?_) (fun g19 => ?_)
 have hun : undP b.bins.length t (pad x.l) = true := by rw [← of_decide_eq_true g19]; exact undP_refl _ _
 repeat refine spN rfl rfl rfl rfl rfl rfl rfl rfl ?_
 refine sp rfl (PE.pick rfl rfl rfl) rfl ?_
 refine sy_condT rfl ?_
 refine sy_tx' [0, 1, 2, 3, 4, 5, 6, 7] rfl ?_
 rw [hun, cond_true] at hnx
 refine sp rfl (PE.move rfl) rfl ?_
 refine spL rfl rfl (lfB (sz := 1) sc91 rfl) rfl ?_
 refine sp rfl (PE.move rfl) rfl ?_
 refine sp rfl (PE.indexAddr el91 rfl rfl (by omega) (by omega)) rfl ?_
 refine sp rfl (PE.fieldAddr fo93_1 rfl) rfl ?_
 refine spL rfl rfl (lf (j := 1) (row := werow x) sc3 (we_get hx) rfl) rfl ?_
 refine sp rfl (PE.min rfl rfl) rfl ?_
 refine sp rfl (PE.assign rfl) rfl ?_
 refine sy_tx' [0, 1] rfl ?_
 refine sp rfl (PE.add rfl rfl (by omega)) rfl ?_
 refine sp rfl (PE.move rfl) rfl ?_
 first
   | exact sy_next ⟨(i + 1, min mi x.d), by dsimp only; omega, hnx.symm⟩ (by dsimp only; omega) (by repeat' first | exact Sub.nil | apply Sub.cons | rfl | (simp [lk]; omega)) (fun w h => h.del b8)
   | exact sy_next ⟨(i + 1, mi), by dsimp only; omega, hnx.symm⟩ (by dsimp only; omega) (by repeat' first | exact Sub.nil | apply Sub.cons | rfl | (simp [lk]; omega)) (fun w h => h.del b8)
 refine spLG rfl rfl rfl rfl rfl (lfB (sz := 1) sc123 rfl) rfl ?_
 refine spLG rfl rfl rfl rfl rfl (lhA (rest := []) (ints t) ag127 rfl (by rw [List.append_nil]; rfl) (by rw [ints_length]; exact ht)) rfl ?_
 refine spLG rfl rfl rfl rfl rfl (lhA (rest := []) (ints (pad x.l)) ag127 rfl (by rw [List.append_nil]; rfl) (by rw [ints_length]; exact hpl)) rfl ?_
 refine clVG rfl rfl rfl rfl cal119 rfl rfl (c_under b hok ab cb bd m t (pad x.l) ht hpl _ _) ?_
 refine sp rfl (PE.pick rfl rfl rfl) rfl ?_
 refine sy_cond rfl (fun hc1 => ?_) (fun hc1 => ?_)
 have hun : undP b.bins.length t (pad x.l) = true := hc1
 refine sy_tx' [0, 1, 2, 3, 4, 5, 6, 7] rfl ?_
 rw [hun, cond_true] at hnx
 refine sp rfl (PE.move rfl) rfl ?_
 refine spL rfl rfl (lfB (sz := 1) sc91 rfl) rfl ?_
 refine sp rfl (PE.move rfl) rfl ?_
 refine sp rfl (PE.indexAddr el91 rfl rfl (by omega) (by omega)) rfl ?_
 refine sp rfl (PE.fieldAddr fo93_1 rfl) rfl ?_
 refine spL rfl rfl (lf (j := 1) (row := werow x) sc3 (we_get hx) rfl) rfl ?_
 refine sp rfl (PE.min rfl rfl) rfl ?_
 refine sp rfl (PE.assign rfl) rfl ?_
 refine sy_tx' [0, 1] rfl ?_
 refine sp rfl (PE.add rfl rfl (by omega)) rfl ?_
 refine sp rfl (PE.move rfl) rfl ?_
 first
   | exact sy_next ⟨(i + 1, min mi x.d), by dsimp only; omega, hnx.symm⟩ (by dsimp only; omega) (by repeat' first | exact Sub.nil | apply Sub.cons | rfl | (simp [lk]; omega)) (fun w h => h.del b8)
   | exact sy_next ⟨(i + 1, mi), by dsimp only; omega, hnx.symm⟩ (by dsimp only; omega) (by repeat' first | exact Sub.nil | apply Sub.cons | rfl | (simp [lk]; omega)) (fun w h => h.del b8)
 have hun : undP b.bins.length t (pad x.l) = false := hc1
 rw [hun, cond_false] at hnx
 refine sy_skip ?_
 refine sy_tx' [0, 1] rfl ?_
 refine sp rfl (PE.add rfl rfl (by omega)) rfl ?_
 refine sp rfl (PE.move rfl) rfl ?_
 first
   | exact sy_next ⟨(i + 1, min mi x.d), by dsimp only; omega, hnx.symm⟩ (by dsimp only; omega) (by repeat' first | exact Sub.nil | apply Sub.cons | rfl | (simp [lk]; omega)) (fun w h => h.del b8)
   | exact sy_next ⟨(i + 1, mi), by dsimp only; omega, hnx.symm⟩ (by dsimp only; omega) (by repeat' first | exact Sub.nil | apply Sub.cons | rfl | (simp [lk]; omega)) (fun w h => h.del b8)
 try simp only [decide_eq_true_eq, decide_eq_false_iff_not, Bool.and_eq_true, Bool.or_eq_true, Bool.not_eq_true', Int.not_le, Int.not_lt] at hc0
 obtain rfl : i = W.length := by omega
 rw [List.take_length] at hm
 subst hm
 refine sy_exit ?_
 repeat refine sy_tx ?_
 refine sy_bx ?_
 refine sy_seq ?_
 refine sy_tx' [0, 1] rfl ?_
 refine sp rfl (PE.move rfl) rfl ?_
 refine sp rfl (PE.assign rfl) rfl ?_
 refine sy_ret ?_
 exact sy_return (vs := [_]) rfl (.cons (RV.tmp rfl) .nil) rfl ⟨rfl, rfl, rfl⟩ (fun w h => h.del b4)
theorem c_Shows (b : Barn) (ab : Option Addr) (cb : Nat) (hl : b.bins.length ≤ 9223372036854775807) (hr : b.rise.length = 6) (W : List WE) (aw : Option Addr) (cw : Nat) (hwl : W.length ≤ 1000000) (hwx : ∀ x ∈ W, x.l.length ≤ 1000000) (H : Heap) (R : Facts) [hB : MemRows ab 4 (brows b.bins) R] [hW : MemRows aw 2 (werows W) R] [hN : MemF (InW W) R] :
    FnV Try.prog 61 [b.v (b.sl ab cb), .slice aw W.length cw] H R (.tuple #[.int .i64 (shwE b (wls W)).1, .int .i64 (shwE b (wls W)).2]) := by
 refine fnM_of Try.func61 rfl Try.ntmps61 rfl ?_
 refine sy_seq ?_
 refine sy_tx' [0, 1, 2, 3] rfl ?_
 refine bx rfl rfl rfl (fun b2 => ?_)
 refine bx rfl rfl rfl (fun b3 => ?_)
 refine alc rfl zl3 rfl (fun b4 => ?_)
 refine alc rfl zl36 rfl (fun b5 => ?_)
 refine sy_seq ?_
 refine sy_tx' [0, 1, 2, 3, 4, 5, 6, 7] rfl ?_
 refine spL rfl rfl (lhA (btl b (b.sl ab cb)) ag25 rfl rfl rfl) rfl ?_
 refine cl rfl cal89 rfl rfl (c_opened b ab cb hl hr _ _) ?_
 rintro _ _ _ (⟨hck, rfl, rfl, rfl⟩ | ⟨hck, bd, m, rfl, rfl, rfl⟩)
 refine sp rfl (PE.move rfl) rfl ?_
 refine sp rfl (PE.extract rfl rfl) rfl ?_
 refine sp rfl (PE.extract rfl rfl) rfl ?_
 refine alc rfl zl123 rfl (fun b6 => ?_)
 refine sto rfl rfl rfl cn123 rfl rfl rfl rfl ?_
 refine sp rfl (PE.assign rfl) rfl ?_
 refine sy_seq ?_
 refine sy_seq ?_
 refine sy_tx' [0, 1] rfl ?_
 refine sp rfl (PE.move rfl) rfl ?_
 refine sp rfl (PE.neq rfl rfl) rfl ?_
 refine sy_condT (congrArg (fun b => some (Value.bool b)) (decide_eq_true hck)) ?_
 refine sy_seq ?_
 refine sy_tx' [0, 1, 2] rfl ?_
 refine sp rfl (PE.move rfl) rfl ?_
 refine sto rfl rfl rfl cn3 rfl rfl rfl rfl ?_
 refine sto rfl rfl rfl cn36 rfl rfl rfl rfl ?_
 refine sy_ret ?_
 have hsv : shwE b (wls W) = (0, b.check) := by unfold shwE; rw [decide_eq_false hck]; rfl
 exact sy_returnM [] (fun _ h => h) rfl (.cons (RV.cell rfl (lh sc3 rfl rfl)) (.cons (RV.cell rfl (lh sc36 rfl rfl)) .nil)) rfl ⟨by rw [hsv]; rfl, rfl, rfl⟩ (fun w h => ((((h.del b6).del b5).del b4).del b3).del b2)
 ·
  have hok := Barn.ok_of hr hck
  have hdk := b.dsk_ok hok
  have hl4 := hdk.lasts.len
  have hm4 := hdk.most.len
  refine sp rfl (PE.move rfl) rfl ?_
  refine sp rfl (PE.extract rfl rfl) rfl ?_
  refine sp rfl (PE.extract rfl rfl) rfl ?_
  refine alc rfl zl123 rfl (fun b6 => ?_)
  refine sto rfl rfl rfl cn123 rfl rfl rfl rfl ?_
  refine sp rfl (PE.assign rfl) rfl ?_
  refine sy_seq ?_
  refine sy_seq ?_
  refine sy_tx' [0, 1] rfl ?_
  refine sp rfl (PE.move rfl) rfl ?_
  refine sp rfl (PE.neq rfl rfl) rfl ?_
  refine sy_condF (rfl) ?_
  refine sy_skip ?_
  refine sy_seq ?_
  refine sy_seq ?_
  refine sy_tx' [0, 1, 2, 3] rfl ?_
  refine spL rfl rfl (lh sc123 rfl rfl) rfl ?_
  refine spL rfl rfl (lh sc91 rfl rfl) rfl ?_
  refine clV rfl cal117 rfl rfl (c_right b hok ab cb bd m W aw cw hwl hwx _ _) ?_
  refine sp rfl (PE.assign rfl) rfl ?_
  refine sy_seq ?_
  refine sy_tx' [0, 1] rfl ?_
  refine sp rfl (PE.move rfl) rfl ?_
  refine sp rfl (PE.neq rfl rfl) rfl ?_
  refine sy_cond rfl (fun hc1 => ?_) (fun hc1 => ?_)
  try simp only [decide_eq_true_eq, decide_eq_false_iff_not, Bool.and_eq_true, Bool.or_eq_true, Bool.not_eq_true', Int.not_le, Int.not_lt] at hc1
  have hsv : shwE b (wls W) = (0, wlErr b (wls W)) := by unfold shwE; rw [decide_eq_true hck, cond_true, shw_err (by omega)]
  refine sy_seq ?_
  refine sy_tx' [0, 1, 2] rfl ?_
  refine sp rfl (PE.move rfl) rfl ?_
  refine sto rfl rfl rfl cn3 rfl rfl rfl rfl ?_
  refine sto rfl rfl rfl cn36 rfl rfl rfl rfl ?_
  refine sy_ret ?_
  exact sy_returnM [] (fun _ h => h) rfl (.cons (RV.cell rfl (lh sc3 rfl rfl)) (.cons (RV.cell rfl (lh sc36 rfl rfl)) .nil)) rfl ⟨by rw [hsv]; rfl, rfl, rfl⟩ (fun w h => St.sub (((((h.del b6).del m).del b5).del b4).del b3 |>.del b2))
  ·
   try simp only [decide_eq_true_eq, decide_eq_false_iff_not, Bool.and_eq_true, Bool.or_eq_true, Bool.not_eq_true', Int.not_le, Int.not_lt] at hc1
   have hmn := hok.many
   have hwe : wlErr b (wls W) = 0 := by omega
   have hpre := (wlErr_zero hwe).2
   have hwlz := (wlErr_zero hwe).1
   rw [wls_len] at hwlz
   have hwz : ∀ x ∈ W, x.l.length = b.bins.length ∧ (0 ≤ x.d ∧ x.d ≤ 20000) := fun x hx => by have := stErr_zero (hpre _ (wls_mem hx)); exact ⟨this.1, this.2.1⟩
   have hwb : ∀ x ∈ W, ∀ k < b.bins.length, badL b k (na x.l k) = false := fun x hx => (stErr_zero (hpre _ (wls_mem hx))).2.2
   have hws4 : ∀ x ∈ W, x.l.length = b.bins.length := fun x hx => (hwz x hx).1
   have hE : ∀ p, shwV b (wls W) = p → shwE b (wls W) = p := fun p hp => by unfold shwE; rw [decide_eq_true hck]; exact hp
   refine sy_addr (a := aw) (sz := 2) (rows := werows W) (by intro h0; have := congrArg List.length h0; rw [werows_len] at this; simp only [List.length_nil] at this; omega) (fun bw ow he => ?_)
   subst he
   refine sy_skip ?_
   refine sy_seq ?_
   refine sy_tx' [0, 1, 2, 3, 4] rfl ?_
   refine spL rfl rfl (lh sc91 rfl rfl) rfl ?_
   refine sp rfl (PE.lenSl isl91 rfl) rfl ?_
   refine mkS rfl ap156 zl127 rfl rfl (Nat.le_refl _) ⟨by omega, by omega⟩ rfl (fun b35 => ?_)
   refine alc rfl zl156 rfl (fun b9 => ?_)
   refine sto rfl rfl rfl cn156 rfl rfl rfl rfl ?_
   refine sy_seq ?_
   refine sy_seq ?_
   refine sy_tx' [0, 1, 2] rfl ?_
   refine spL rfl rfl (lh sc91 rfl rfl) rfl ?_
   refine sp rfl (PE.lenSl isl91 rfl) rfl ?_
   refine sp rfl (PE.move rfl) rfl ?_
   refine sy_block ?_
   refine Sy.heap (H' := (b9, cel 156 [.slice (some ⟨b35, 0, none⟩) W.length W.length]) :: (b35, cel 127 (wgap W 0)) :: (b6, cel 123 [.pointer (some ⟨bd, 0, none⟩)]) :: (m, mapO true []) :: (b5, cel 36 [.int .i64 0]) :: (b4, cel 3 [.int .i64 0]) :: (b3, cel 91 [.slice (some ⟨bw, ow, none⟩) W.length cw]) :: (b2, cel 25 (btl b (b.sl ab cb))) :: H) (fun w h => by
     have e : wgap W 0 = repl W.length [Value.int .i64 0, .int .i64 0, .int .i64 0, .int .i64 0] := by unfold wgap; rw [flat_repl]; rfl
     rw [e]; exact h) ?_
   refine sy_loop (ι := {i : Nat // i ≤ W.length}) (fun i => ⟨[(2, .pointer (some ⟨b2, 0, none⟩)), (3, .pointer (some ⟨b3, 0, none⟩)), (4, .pointer (some ⟨b4, 0, none⟩)), (5, .pointer (some ⟨b5, 0, none⟩)), (6, .pointer (some ⟨b6, 0, none⟩)), (9, .pointer (some ⟨b9, 0, none⟩)), (36, .slice (some ⟨bw, ow, none⟩) W.length cw), (37, .int .i64 W.length), (38, .int .i64 i.1)], (b9, cel 156 [.slice (some ⟨b35, 0, none⟩) W.length W.length]) :: (b35, cel 127 (wgap W i.1)) :: (b6, cel 123 [.pointer (some ⟨bd, 0, none⟩)]) :: (m, mapO true []) :: (b5, cel 36 [.int .i64 0]) :: (b4, cel 3 [.int .i64 0]) :: (b3, cel 91 [.slice (some ⟨bw, ow, none⟩) W.length cw]) :: (b2, cel 25 (btl b (b.sl ab cb))) :: H, RowsA (some ⟨bd, 0, none⟩) 18 [dcs b (b.sl ab cb) b.lasts b.most m] :: R⟩) (fun i => W.length - i.1) ⟨0, Nat.zero_le _⟩ ?_ (fun i => ?_)
   exact sy_at (by repeat' first | exact Sub.nil | apply Sub.cons | rfl | (simp [lk]; omega)) (fun _ h => h)
   ·
    obtain ⟨i, hi⟩ := i
    dsimp only at hi ⊢
    refine sy_seq ?_
    refine sy_tx' [0] rfl ?_
    refine sp rfl (PE.lss rfl rfl) rfl ?_
    refine sy_seq ?_
    refine sy_cond rfl (fun hc2 => ?_) (fun hc2 => ?_)
    try simp only [decide_eq_true_eq, decide_eq_false_iff_not, Bool.and_eq_true, Bool.or_eq_true, Bool.not_eq_true', Int.not_le, Int.not_lt] at hc2
    obtain ⟨x, hx⟩ : ∃ x, W[i]? = some x := ⟨_, List.getElem?_eq_getElem (by omega)⟩
    have hxm := List.mem_of_getElem? hx
    have hgl := wgap_len hmn.2 hws4 (i := i) hi
    have hxl := hws4 x hxm
    refine Sy.heap (fun w h => St.inwAt (x := x) h hxm) ?_
    refine sy_skip ?_
    refine sy_seq ?_
    refine sy_block ?_
    refine sy_seq ?_
    refine sy_tx' [0, 1, 2, 3, 4, 5] rfl ?_
    refine sp rfl (PE.move rfl) rfl ?_
    refine sp rfl (PE.indexAddr el91 rfl rfl (by omega) (by omega)) rfl ?_
    refine spL rfl rfl (lfA ag93 (row := werow x) (we_get hx) rfl) rfl ?_
    refine alc rfl zl93 rfl (fun b11 => ?_)
    refine sp rfl (PE.assign rfl) rfl ?_
    refine stoE (l' := werow x) rfl rfl rfl cn93 rfl rfl rfl rfl (Nat.le_of_ble_eq_true rfl) ?_
    refine sy_draw [0, 0, 3, 7, 0, 16, 63] (.ld 0 (.tk 1 (.tk 2 (.tk 3 (.tk 4 (.ld 5 (.big 6 .done))))))) mixed (by kernel_rfl) ?_
    refine ld rfl rfl (lh sc156 rfl rfl) rfl ?_
    refine tk rfl (PE.move rfl) rfl ?_
    refine tk rfl (PE.indexAddr el156 rfl rfl (by omega) (by omega)) rfl ?_
    refine tk rfl (PE.slArr ar127 rfl) rfl ?_
    refine tk rfl (PE.fieldAddr fo93_0 rfl) rfl ?_
    refine ld rfl rfl (lh sc40 rfl rfl) rfl ?_
    refine cpyRo (rows := irows x.l) rfl sl40 rfl (by rw [irows_len]; rfl) (irows_one x.l) (by rw [irows_len]; omega) (irows_ones _) (by rw [show (irows x.l).flatten = ints x.l from irows_flat x.l, ints_length, hgl]; show 0 + ((i : Nat) : Int).toNat * 4 + _ ≤ _; omega) rfl ?_
    rw [wgap_put hmn.2 hws4 hx (by show 0 + ((i : Nat) : Int).toNat * 4 = _; omega)]
    refine bg (fun w hs => ⟨trivial, trivial, trivial⟩) ?_
    refine sy_tx' [0, 1] rfl ?_
    refine sp rfl (PE.add rfl rfl (by omega)) rfl ?_
    refine sp rfl (PE.move rfl) rfl ?_
    exact sy_next ⟨i + 1, by omega⟩ (by dsimp only; omega) (by repeat' first | exact Sub.nil | apply Sub.cons | rfl | (simp [lk]; omega)) (fun w h => (h.del b11).ftail)
    ·
     try simp only [decide_eq_true_eq, decide_eq_false_iff_not, Bool.and_eq_true, Bool.or_eq_true, Bool.not_eq_true', Int.not_le, Int.not_lt] at hc2
     obtain rfl : i = W.length := by omega
     refine sy_exit ?_
     repeat refine sy_tx ?_
     refine sy_bx ?_
     refine sy_seq ?_
     refine sy_tx' [0, 1, 2] rfl ?_
     refine sp rfl (PE.makeFunc rfl rfl) rfl ?_
     refine alc rfl zl164 rfl (fun b12 => ?_)
     refine sto rfl rfl rfl cn164 rfl rfl rfl rfl ?_
     refine sy_seq ?_
     refine sy_seq ?_
     refine sy_tx' [0, 1, 2] rfl ?_
     refine spL rfl rfl (lh sc156 rfl rfl) rfl ?_
     refine sp rfl (PE.lenSl isl156 rfl) rfl ?_
     refine sp rfl (PE.move rfl) rfl ?_
     refine sy_block ?_
     refine Sy.heap (fun w h => St.blkRows (rows := strows (wpd W)) (junk := []) (st4 (wpd_four hmn.2 hws4)) (show St ((b35, cel 127 ((strows (wpd W)).flatten ++ [])) :: _) _ w from by
       have e : (strows (wpd W)).flatten ++ [] = wgap W W.length := by unfold wgap; rw [List.take_length, Nat.sub_self]; rfl
       rw [e]; exact h.pull b35)) ?_
     refine Sy.heap (fun w h => St.rows (sz := 1) (rows := [[.slice (some ⟨b35, 0, none⟩) W.length W.length]]) (rest := []) (h.pull b9) (by simp)) ?_
     refine Sy.heap (fun w h => St.rows (sz := 1) (rows := [[.pointer (some ⟨bd, 0, none⟩)]]) (rest := []) (h.pull b6) (by simp)) ?_
     refine Sy.heap (fun w h => St.rows (sz := 1) (rows := [[.slice (some ⟨bw, ow, none⟩) W.length cw]]) (rest := []) (h.pull b3) (by simp)) ?_
     refine sy_loopD (ι := {y : Nat × List Nat // y.1 ≤ W.length ∧ ∀ s ∈ (wls W).take y.1, wlSt b.dsk (wls W) s = true}) (fun y => ⟨[(2, .pointer (some ⟨b2, 0, none⟩)), (3, .pointer (some ⟨b3, 0, none⟩)), (4, .pointer (some ⟨b4, 0, none⟩)), (5, .pointer (some ⟨b5, 0, none⟩)), (6, .pointer (some ⟨b6, 0, none⟩)), (12, .pointer (some ⟨b12, 0, none⟩)), (52, .slice (some ⟨b35, 0, none⟩) W.length W.length), (53, .int .i64 W.length), (54, .int .i64 y.1.1)], mks y.1.2, (b12, cel 164 [.func (.func 118) #[] #[.pointer (some ⟨b9, 0, none⟩), .pointer (some ⟨b6, 0, none⟩), .pointer (some ⟨b3, 0, none⟩)]]) :: (m, mapO true []) :: (b5, cel 36 [.int .i64 0]) :: (b4, cel 3 [.int .i64 0]) :: (b2, cel 25 (btl b (b.sl ab cb))) :: (mkh y.1.2 ++ H), RowsA (some ⟨b35, 0, none⟩) 4 (strows (wpd W)) :: RowsA (some ⟨b9, 0, none⟩) 1 [[.slice (some ⟨b35, 0, none⟩) W.length W.length]] :: RowsA (some ⟨b6, 0, none⟩) 1 [[.pointer (some ⟨bd, 0, none⟩)]] :: RowsA (some ⟨b3, 0, none⟩) 1 [[.slice (some ⟨bw, ow, none⟩) W.length cw]] :: RowsA (some ⟨bd, 0, none⟩) 18 [dcs b (b.sl ab cb) b.lasts b.most m] :: R⟩) (fun y => W.length - y.1.1) ⟨(0, []), Nat.zero_le _, by simp⟩ ?_ (fun y => ?_)
     exact sy_atD (by repeat' first | exact Sub.nil | apply Sub.cons | rfl | (simp [lk]; omega)) rfl (fun w h => St.sub h)
     ·
      obtain ⟨⟨i, mk⟩, hi, hws⟩ := y
      dsimp only at hi hws ⊢
      refine sy_seq ?_
      refine sy_tx' [0] rfl ?_
      refine sp rfl (PE.lss rfl rfl) rfl ?_
      refine sy_seq ?_
      refine sy_cond rfl (fun hc3 => ?_) (fun hc3 => ?_)
      ·
       try simp only [decide_eq_true_eq, decide_eq_false_iff_not, Bool.and_eq_true, Bool.or_eq_true, Bool.not_eq_true', Int.not_le, Int.not_lt] at hc3
       obtain ⟨x, hx⟩ : ∃ x, W[i]? = some x := ⟨_, List.getElem?_eq_getElem (by omega)⟩
       have hxm := List.mem_of_getElem? hx
       obtain ⟨hxl, hxd⟩ := hwz x hxm
       have hpl : (pad x.l).length = 4 := pad_len' (by omega)
       have hsr : (strows (wpd W)).length = W.length := by rw [strows_len, wpd_len]
       refine sy_skip ?_
       refine sy_seq ?_
       refine sy_block ?_
       refine sy_seq ?_
       refine sy_tx' [0, 1, 2, 3, 4, 5, 6] rfl ?_
       refine sp rfl (PE.move rfl) rfl ?_
       refine sp rfl (PE.indexAddr el156 rfl rfl (by omega) (by omega)) rfl ?_
       refine spL rfl rfl (lfA ag127 (row := ints (pad x.l)) (strows_get (wpd_get hx)) (by rw [ints_length]; exact hpl)) rfl ?_
       refine alc rfl zl3 rfl (fun b13 => ?_)
       refine alc rfl zl127 rfl (fun b14 => ?_)
       refine sto rfl rfl rfl cn3 rfl rfl rfl rfl ?_
       refine stoA rfl rfl rfl cn127 rfl (by rw [ints_length]; exact hpl) rfl (ints_one _) ?_
       refine sy_seq ?_
       refine sy_tx' [0, 1] rfl ?_
       refine spL rfl rfl (lfB (sz := 1) sc123 rfl) rfl ?_
       refine cl rfl cal115 rfl rfl (c_turnings bd false _ _) ?_
       rintro _ _ _ ⟨xb, xf, rfl, rfl, rfl⟩
       refine sy_block ?_
       refine sy_range rfl cal133 (fun c0 bl0 bd0 hcp0 hca0 hcb0 hck0 => ?_)
       refine ⟨fun st pend T R' => (st = .ready ∧ pend = none ∧ wlSt b.dsk (wls W) (x.l, x.d) = true ∧ T = (bd0, .deferred (some [])) :: (b14, cel 127 (ints (pad x.l))) :: (b13, cel 3 [.int .i64 i]) :: (b12, cel 164 [.func (.func 118) #[] #[.pointer (some ⟨b9, 0, none⟩), .pointer (some ⟨b6, 0, none⟩), .pointer (some ⟨b3, 0, none⟩)]]) :: (m, mapO true []) :: (b5, cel 36 [.int .i64 0]) :: (b4, cel 3 [.int .i64 0]) :: (b2, cel 25 (btl b (b.sl ab cb))) :: (mkh mk ++ H) ∧ R' = RowsA (some ⟨xf, 0, none⟩) 1 [[.bool false]] :: RowsA (some ⟨xb, 0, none⟩) 1 [[.pointer (some ⟨bd, 0, none⟩)]] :: RowsA (some ⟨b35, 0, none⟩) 4 (strows (wpd W)) :: RowsA (some ⟨b9, 0, none⟩) 1 [[.slice (some ⟨b35, 0, none⟩) W.length W.length]] :: RowsA (some ⟨b6, 0, none⟩) 1 [[.pointer (some ⟨bd, 0, none⟩)]] :: RowsA (some ⟨b3, 0, none⟩) 1 [[.slice (some ⟨bw, ow, none⟩) W.length cw]] :: RowsA (some ⟨bd, 0, none⟩) 18 [dcs b (b.sl ab cb) b.lasts b.most m] :: R) ∨
           (st = .done ∧ pend = some .ret ∧ wlSt b.dsk (wls W) (x.l, x.d) = false ∧ T = (bd0, .deferred (some [])) :: (b14, cel 127 (ints (pad x.l))) :: (b13, cel 3 [.int .i64 i]) :: (b12, cel 164 [.func (.func 118) #[] #[.pointer (some ⟨b9, 0, none⟩), .pointer (some ⟨b6, 0, none⟩), .pointer (some ⟨b3, 0, none⟩)]]) :: (m, mapO true []) :: (b5, cel 36 [.int .i64 8]) :: (b4, cel 3 [.int .i64 0]) :: (b2, cel 25 (btl b (b.sl ab cb))) :: (mkh mk ++ H) ∧ R' = RowsA (some ⟨xf, 0, none⟩) 1 [[.bool false]] :: RowsA (some ⟨xb, 0, none⟩) 1 [[.pointer (some ⟨bd, 0, none⟩)]] :: RowsA (some ⟨b35, 0, none⟩) 4 (strows (wpd W)) :: RowsA (some ⟨b9, 0, none⟩) 1 [[.slice (some ⟨b35, 0, none⟩) W.length W.length]] :: RowsA (some ⟨b6, 0, none⟩) 1 [[.pointer (some ⟨bd, 0, none⟩)]] :: RowsA (some ⟨b3, 0, none⟩) 1 [[.slice (some ⟨bw, ow, none⟩) W.length cw]] :: RowsA (some ⟨bd, 0, none⟩) 18 [dcs b (b.sl ab cb) b.lasts b.most m] :: R),
         Fn.mono (c_turnings1 b hok ab cb bd m false xb xf bl0 (fun k H' R' => (∀ i l, i < k → (b.dsk.trs false)[i]? = some l → (fun l => !wlL b.dsk (wls W) (x.l, x.d) l) l = false) ∧ H' = (bl0, lob c0 .ready none) :: (bd0, .deferred (some [])) :: (b14, cel 127 (ints (pad x.l))) :: (b13, cel 3 [.int .i64 i]) :: (b12, cel 164 [.func (.func 118) #[] #[.pointer (some ⟨b9, 0, none⟩), .pointer (some ⟨b6, 0, none⟩), .pointer (some ⟨b3, 0, none⟩)]]) :: (m, mapO true []) :: (b5, cel 36 [.int .i64 0]) :: (b4, cel 3 [.int .i64 0]) :: (b2, cel 25 (btl b (b.sl ab cb))) :: (mkh mk ++ H) ∧ R' = RowsA (some ⟨xf, 0, none⟩) 1 [[.bool false]] :: RowsA (some ⟨xb, 0, none⟩) 1 [[.pointer (some ⟨bd, 0, none⟩)]] :: RowsA (some ⟨b35, 0, none⟩) 4 (strows (wpd W)) :: RowsA (some ⟨b9, 0, none⟩) 1 [[.slice (some ⟨b35, 0, none⟩) W.length W.length]] :: RowsA (some ⟨b6, 0, none⟩) 1 [[.pointer (some ⟨bd, 0, none⟩)]] :: RowsA (some ⟨b3, 0, none⟩) 1 [[.slice (some ⟨bw, ow, none⟩) W.length cw]] :: RowsA (some ⟨bd, 0, none⟩) 18 [dcs b (b.sl ab cb) b.lasts b.most m] :: R)
           (fun H' R' => wlSt b.dsk (wls W) (x.l, x.d) = false ∧ H' = (bl0, lob c0 .done (some .ret)) :: (bd0, .deferred (some [])) :: (b14, cel 127 (ints (pad x.l))) :: (b13, cel 3 [.int .i64 i]) :: (b12, cel 164 [.func (.func 118) #[] #[.pointer (some ⟨b9, 0, none⟩), .pointer (some ⟨b6, 0, none⟩), .pointer (some ⟨b3, 0, none⟩)]]) :: (m, mapO true []) :: (b5, cel 36 [.int .i64 8]) :: (b4, cel 3 [.int .i64 0]) :: (b2, cel 25 (btl b (b.sl ab cb))) :: (mkh mk ++ H) ∧ R' = RowsA (some ⟨xf, 0, none⟩) 1 [[.bool false]] :: RowsA (some ⟨xb, 0, none⟩) 1 [[.pointer (some ⟨bd, 0, none⟩)]] :: RowsA (some ⟨b35, 0, none⟩) 4 (strows (wpd W)) :: RowsA (some ⟨b9, 0, none⟩) 1 [[.slice (some ⟨b35, 0, none⟩) W.length W.length]] :: RowsA (some ⟨b6, 0, none⟩) 1 [[.pointer (some ⟨bd, 0, none⟩)]] :: RowsA (some ⟨b3, 0, none⟩) 1 [[.slice (some ⟨bw, ow, none⟩) W.length cw]] :: RowsA (some ⟨bd, 0, none⟩) 18 [dcs b (b.sl ab cb) b.lasts b.most m] :: R)
           (fun k H' R' h => by obtain ⟨_, _, rfl⟩ := h; exact ⟨by simp, by simp, by simp⟩) (fun k l a c H' R' hk hI => ?_) _ _ ⟨fun _ _ h => absurd h (Nat.not_lt_zero _), rfl, rfl⟩) (fun v H' R' h => ?_), ?_⟩
       rotate_left
       · rcases h with ⟨hn, rfl, rfl⟩ | ⟨hh, rfl, rfl⟩
         · exact ⟨.ready, none, _, by simp, .refl _, .inl ⟨rfl, rfl, by rw [wlSt_any, any_no hn]; rfl, rfl, rfl⟩⟩
         · exact ⟨.done, some .ret, _, by simp, .refl _, .inr ⟨rfl, rfl, hh, rfl, rfl⟩⟩
       rotate_left
       have hlm := List.mem_of_getElem? hk
       have hlt := b.dsk.trs_lt hlm
       have hll : l.length ≤ 1000000 := by
         obtain ⟨i, _, rfl⟩ := List.mem_map.1 (List.mem_filter.1 hlm).1
         have := bitl_len b.dsk.n i
         have := hdk.n
         omega
       obtain ⟨hno, rfl, rfl⟩ := hI
       have hsm : Sml (pad x.l) := ⟨hpl, fun j hj => by
         rw [pad_na]
         by_cases hjn : j < b.bins.length
         · have := badL_ok (hwb x hxm j hjn)
           by_cases h0 : b.worst (b.bins.getD j hb0) = 0
           · have := this.1 h0; omega
           · have := this.2 h0; omega
         · have h1 : na x.l j = 0 := by unfold na; rw [List.getD_eq_getElem?_getD, List.getElem?_eq_none (by omega)]; rfl
           omega⟩
       refine yd_of hcp0 hca0 hcb0 hck0 rfl ?_
       refine sy_tx' [0] rfl ?_
       refine sp rfl (PE.assign rfl) rfl ?_
       refine sy_beginRound ?_
       refine sy_block ?_
       refine sy_seq ?_
       refine sy_tx' [0, 1, 2, 3, 4, 5, 6, 7, 8, 9] rfl ?_
       refine spL rfl rfl (lfB (sz := 1) sc123 rfl) rfl ?_
       refine spL rfl rfl (lhA (rest := []) (ints (pad x.l)) ag127 rfl (by rw [List.append_nil]; rfl) (by rw [ints_length]; exact hpl)) rfl ?_
       refine sp rfl (PE.move rfl) rfl ?_
       refine cl rfl cal116 rfl rfl (c_next b hok ab cb bd m (pad x.l) hsm l hlt hll a c _ _) ?_
       rintro _ _ _ ⟨rfl, rfl, rfl⟩
       rcases hnx : b.dsk.next (pad x.l) l with _ | t
       refine sp rfl (PE.move rfl) rfl ?_
       refine sp rfl (PE.extract rfl rfl) rfl ?_
       refine sp rfl (PE.extract rfl rfl) rfl ?_
       refine alc rfl zl127 rfl (fun b16 => ?_)
       first | (refine stoA rfl rfl rfl cn127 rfl rfl rfl (ints_one _) ?_) | (refine stoA rfl rfl rfl cn127 rfl (by rw [ints_length]; exact htl) rfl (ints_one _) ?_)
       refine sp rfl (PE.assign rfl) rfl ?_
       refine sy_seq ?_
       refine sy_draw [0, 1, 3, 3, 15, 3, 3, 99, 227, 483, 1023, 2047] (.tk 0 (.tk 1 (.ld 2 (.ld 3 (.ld 5 (.ld 6 (.tk 7 (.tk 8 (.ld 9 (.big 4 (.tk 10 (.tk 11 .done)))))))))))) mixed (by kernel_rfl) ?_
       have hno2 : (fun l => !wlL b.dsk (wls W) (x.l, x.d) l) l = false := by dsimp only; unfold wlL; dsimp only; rw [hnx]; rfl
       refine tk rfl (PE.move rfl) rfl ?_
       refine tk rfl (PE.move rfl) rfl ?_
       repeat refine ldN rfl rfl rfl rfl rfl rfl rfl rfl ?_
       repeat refine tkN rfl rfl rfl rfl rfl rfl rfl rfl ?_
       refine ldN rfl rfl rfl rfl rfl rfl rfl rfl ?_
       refine spN rfl rfl rfl rfl rfl rfl rfl rfl ?_
       refine bg (fun w hs => ⟨((fun _ _ => True.intro)) w hs, ((fun _ _ => True.intro)) w hs, ((fun _ _ => True.intro)) w hs, trivial, trivial, trivial⟩) ?_
       refine tkN rfl rfl rfl rfl rfl rfl rfl rfl ?_
       refine tk rfl (PE.pick rfl rfl rfl) rfl ?_
       refine sy_condF rfl ?_
       refine sy_skip ?_
       exact sy_roundOn (.inl ⟨rfl, no_more hk hno hno2, rfl, rfl⟩) (fun _ h => (h.del b16).ftail)
       refine sp rfl (PE.move rfl) rfl ?_
       have htl : t.length = 4 := (b.dsk.next_sml hdk.lasts hdk.n.2 hsm hlt hnx).len
       have hwl1 : wlL b.dsk (wls W) (x.l, x.d) l = decide (shnV b.bins.length (wls W) t < x.d) := by unfold wlL; dsimp only; rw [hnx]; rfl
       refine sp rfl (PE.extract rfl rfl) rfl ?_
       refine sp rfl (PE.extract rfl rfl) rfl ?_
       refine alc rfl zl127 rfl (fun b16 => ?_)
       first | (refine stoA rfl rfl rfl cn127 rfl rfl rfl (ints_one _) ?_) | (refine stoA rfl rfl rfl cn127 rfl (by rw [ints_length]; exact htl) rfl (ints_one _) ?_)
       refine sp rfl (PE.assign rfl) rfl ?_
       refine sy_seq ?_
       refine sy_draw [0, 1, 3, 3, 15, 3, 3, 99, 227, 483, 1023, 2047] (.tk 0 (.tk 1 (.ld 2 (.ld 3 (.ld 5 (.ld 6 (.tk 7 (.tk 8 (.ld 9 (.big 4 (.tk 10 (.tk 11 .done)))))))))))) mixed (by kernel_rfl) ?_
       refine tk rfl (PE.move rfl) rfl ?_
       refine tk rfl (PE.move rfl) rfl ?_
       refine ldG rfl rfl rfl rfl rfl (lh sc164 rfl rfl) rfl ?_
       refine ldG rfl rfl rfl rfl rfl (lhA (rest := []) (ints t) ag127 rfl (by rw [List.append_nil]; rfl) (by rw [ints_length]; exact htl)) rfl ?_
       refine ldG rfl rfl rfl rfl rfl (lfB (sz := 1) sc91 rfl) rfl ?_
       refine ldG rfl rfl rfl rfl rfl (lh sc3 rfl rfl) rfl ?_
       refine tkG rfl rfl rfl rfl (PE.indexAddr el91 rfl rfl (by omega) (by omega)) rfl ?_
       refine tkG rfl rfl rfl rfl (PE.fieldAddr fo93_1 rfl) rfl ?_
       refine ldG rfl rfl rfl rfl rfl (lf (j := 1) (row := werow x) sc3 (we_get hx) rfl) rfl ?_
       refine clFVG rfl rfl rfl rfl rfl (cal118) rfl rfl (c_shows1 b hok ab cb bd m W (some ⟨bw, ow, none⟩) cw b35 b9 b6 b3 hwl hwz t htl _ _) ?_
       refine bg (fun w hs => ⟨(lf (j := 1) (row := werow x) sc3 (we_get hx) rfl) w hs, (lh sc3 rfl rfl) w hs, (lfB (sz := 1) sc91 rfl) w hs, trivial, trivial, trivial⟩) ?_
       refine tkG rfl rfl rfl rfl (PE.geq rfl rfl) rfl ?_
       refine tk rfl (PE.pick rfl rfl rfl) rfl ?_
       refine sy_cond rfl (fun hc4 => ?_) (fun hc4 => ?_)
       try simp only [decide_eq_true_eq, decide_eq_false_iff_not, Bool.and_eq_true, Bool.or_eq_true, Bool.not_eq_true', Int.not_le, Int.not_lt] at hc4
       have hbad : (fun l => !wlL b.dsk (wls W) (x.l, x.d) l) l = true := by dsimp only; rw [hwl1, decide_eq_false (by omega)]; rfl
       refine sy_seq ?_
       refine sy_tx' [0, 1] rfl ?_
       refine sto rfl rfl rfl cn3 rfl rfl rfl rfl ?_
       refine sto rfl rfl rfl cn36 rfl rfl rfl rfl ?_
       refine sy_ret ?_
       exact sy_roundRet (.inr ⟨rfl, by rw [wlSt_any, any_of hk hbad]; rfl, rfl, rfl⟩) (fun _ h => (h.del b16).ftail)
       try simp only [decide_eq_true_eq, decide_eq_false_iff_not, Bool.and_eq_true, Bool.or_eq_true, Bool.not_eq_true', Int.not_le, Int.not_lt] at hc4
       have hno2 : (fun l => !wlL b.dsk (wls W) (x.l, x.d) l) l = false := by dsimp only; rw [hwl1, decide_eq_true (by omega)]; rfl
       refine sy_skip ?_
       exact sy_roundOn (.inl ⟨rfl, no_more hk hno hno2, rfl, rfl⟩) (fun _ h => (h.del b16).ftail)
       rintro _ _ _ _ (⟨rfl, rfl, hh, rfl, rfl⟩ | ⟨rfl, rfl, hh, rfl, rfl⟩)
       refine sy_jn ?_
       refine sy_tx' [0, 1] rfl ?_
       refine sp rfl (PE.add rfl rfl (by omega)) rfl ?_
       refine sp rfl (PE.move rfl) rfl ?_
       exact sy_nextD ⟨(i + 1, bd0 :: mk), by dsimp only; omega, take_all (wls_get hx) hws hh⟩ (by dsimp only; omega) (by repeat' first | exact Sub.nil | apply Sub.cons | rfl | (simp [lk]; omega)) rfl (fun w h => St.sub (((h.del b14).del b13).perm (perm_swap3 [_] [_, _, _, _, _] _)))
       refine sy_jc ?_
       refine sy_ret ?_
       have hsv := hE _ (shw_no hwe (wls_mem hxm) hh)
       refine Sy.heap (H' := mkh (bd0 :: mk) ++ ((b5, cel 36 [.int .i64 8]) :: (b4, cel 3 [.int .i64 0]) :: H)) (R' := R) (fun w h => St.sub (((((((h.del b14).del b13).del b12).del m).del b2)).perm (List.Perm.cons _ (perm_swap3 [_, _] (mkh mk) H)))) ?_
       exact sy_returnM (bd0 :: mk) (fun _ h => h) rfl (.cons (RV.cell rfl (lh sc3 rfl rfl)) (.cons (RV.cell rfl (lh sc36 rfl rfl)) .nil)) rfl ⟨by rw [hsv]; rfl, rfl, rfl⟩ (fun w h => St.sub ((h.del b5).del b4))
      try simp only [decide_eq_true_eq, decide_eq_false_iff_not, Bool.and_eq_true, Bool.or_eq_true, Bool.not_eq_true', Int.not_le, Int.not_lt] at hc3
      obtain rfl : i = W.length := by omega
      rw [List.take_of_length_le (by rw [wls_len]; exact Nat.le_refl _)] at hws
      have hsml := (b.state_sml hok).len
      have hrr := shnV_rng hpre b.bins.length b.state
      refine sy_exit ?_
      repeat refine sy_tx ?_
      refine sy_bx ?_
      refine sy_seq ?_
      refine sy_draw [0, 0, 2, 7, 15] (.ld 0 (.ld 1 (.big 2 (.big 3 (.tk 4 .done))))) mixed (by kernel_rfl) ?_
      refine ld rfl rfl (lh sc164 rfl rfl) rfl ?_
      refine ld rfl rfl (lhA (btl b (b.sl ab cb)) ag25 rfl rfl rfl) rfl ?_
      refine clV rfl cal91 rfl rfl (c_state b ab cb hok _ _) ?_
      refine bg (fun w hs => ⟨trivial, (lh sc164 rfl rfl) w hs, trivial⟩) ?_
      refine clFV rfl rfl (cal118) rfl rfl (c_shows1 b hok ab cb bd m W (some ⟨bw, ow, none⟩) cw b35 b9 b6 b3 hwl hwz b.state hsml _ _) ?_
      refine bg (fun w hs => ⟨trivial, trivial⟩) ?_
      refine tk rfl (PE.assign rfl) rfl ?_
      refine sy_seq ?_
      refine sy_seq ?_
      refine sy_tx' [0, 1] rfl ?_
      refine sp rfl (PE.move rfl) rfl ?_
      refine sp rfl (PE.eql rfl rfl) rfl ?_
      refine sy_cond rfl (fun hc5 => ?_) (fun hc5 => ?_)
      try simp only [decide_eq_true_eq, decide_eq_false_iff_not, Bool.and_eq_true, Bool.or_eq_true, Bool.not_eq_true', Int.not_le, Int.not_lt] at hc5
      have hsv := hE _ (shw_none hwe (show shnV b.bins.length (wls W) b.state = 1000000 from hc5))
      refine sy_seq ?_
      refine sy_tx' [0, 1] rfl ?_
      refine sto rfl rfl rfl cn3 rfl rfl rfl rfl ?_
      refine sto rfl rfl rfl cn36 rfl rfl rfl rfl ?_
      refine sy_ret ?_
      first
        | (refine Sy.heap (H' := mkh mk ++ ((b5, cel 36 [.int .i64 8]) :: (b4, cel 3 [.int .i64 0]) :: H)) (R' := R) (fun w h => St.sub ((((h.del b12).del m).del b2).perm (perm_swap3 [_, _] (mkh mk) H))) ?_
           exact sy_returnM mk (fun _ h => h) rfl (.cons (RV.cell rfl (lh sc3 rfl rfl)) (.cons (RV.cell rfl (lh sc36 rfl rfl)) .nil)) rfl ⟨by rw [hsv]; rfl, rfl, rfl⟩ (fun w h => St.sub ((h.del b5).del b4)))
        | (refine Sy.heap (H' := mkh mk ++ ((b5, cel 36 [.int .i64 0]) :: (b4, cel 3 [.int .i64 (shnV b.bins.length (wls W) b.state)]) :: H)) (R' := R) (fun w h => St.sub ((((h.del b12).del m).del b2).perm (perm_swap3 [_, _] (mkh mk) H))) ?_
           exact sy_returnM mk (fun _ h => h) rfl (.cons (RV.cell rfl (lh sc3 rfl rfl)) (.cons (RV.cell rfl (lh sc36 rfl rfl)) .nil)) rfl ⟨by rw [hsv]; rfl, rfl, rfl⟩ (fun w h => St.sub ((h.del b5).del b4)))
      try simp only [decide_eq_true_eq, decide_eq_false_iff_not, Bool.and_eq_true, Bool.or_eq_true, Bool.not_eq_true', Int.not_le, Int.not_lt] at hc5
      have hsv := hE _ (shw_yes hwe hws (show shnV b.bins.length (wls W) b.state ≠ 1000000 from hc5))
      refine sy_skip ?_
      refine sy_seq ?_
      refine sy_tx' [0, 1, 2] rfl ?_
      refine sp rfl (PE.move rfl) rfl ?_
      refine sto rfl rfl rfl cn3 rfl rfl rfl rfl ?_
      refine sto rfl rfl rfl cn36 rfl rfl rfl rfl ?_
      refine sy_ret ?_
      first
        | (refine Sy.heap (H' := mkh mk ++ ((b5, cel 36 [.int .i64 8]) :: (b4, cel 3 [.int .i64 0]) :: H)) (R' := R) (fun w h => St.sub ((((h.del b12).del m).del b2).perm (perm_swap3 [_, _] (mkh mk) H))) ?_
           exact sy_returnM mk (fun _ h => h) rfl (.cons (RV.cell rfl (lh sc3 rfl rfl)) (.cons (RV.cell rfl (lh sc36 rfl rfl)) .nil)) rfl ⟨by rw [hsv]; rfl, rfl, rfl⟩ (fun w h => St.sub ((h.del b5).del b4)))
        | (refine Sy.heap (H' := mkh mk ++ ((b5, cel 36 [.int .i64 0]) :: (b4, cel 3 [.int .i64 (shnV b.bins.length (wls W) b.state)]) :: H)) (R' := R) (fun w h => St.sub ((((h.del b12).del m).del b2).perm (perm_swap3 [_, _] (mkh mk) H))) ?_
           exact sy_returnM mk (fun _ h => h) rfl (.cons (RV.cell rfl (lh sc3 rfl rfl)) (.cons (RV.cell rfl (lh sc36 rfl rfl)) .nil)) rfl ⟨by rw [hsv]; rfl, rfl, rfl⟩ (fun w h => St.sub ((h.del b5).del b4)))
end Go.Proofs.Ytelegnmfhjfbaaa
namespace Go.Proofs.Ytelegnmfhjfbaaa
set_option linter.unusedSimpArgs false
set_option linter.unusedVariables false
open Go
structure OQ (e sz : Nat) (rows : List (List Value)) where
  b : Nat
  off : Nat
  cap : Nat
  pre : List Value
  junk : List Value
  len : ∀ r ∈ rows, r.length = sz
  pl : pre.length = off
  room : cap * sz ≤ rows.length * sz + junk.length
  le : rows.length ≤ cap
  mx : cap ≤ 9223372036854775807
def OQ.fs {e sz : Nat} {rows : List (List Value)} (q : OQ e sz rows) : Value := .slice (some ⟨q.b, q.off, none⟩) rows.length q.cap
def OQ.G {e sz : Nat} {rows : List (List Value)} (q : OQ e sz rows) : Heap := [(q.b, cel e (q.pre ++ (rows.flatten ++ q.junk)))]
theorem spl_mid {a r j v : List Value} {o : Nat} (e : o = a.length + r.length) (h : v.length ≤ j.length) : spl (a ++ (r ++ j)) o v = a ++ ((r ++ v) ++ j.drop v.length) := by
  subst e
  unfold spl
  rw [← List.append_assoc a r j, show a.length + r.length = (a ++ r).length by simp, List.take_left, List.drop_append, List.drop_of_length_le (by omega), List.nil_append]
  simp [List.append_assoc]
theorem run_app_q {P : Program} {t ty e sz by_ : Nat} (ht : apT P t = some (e, sz, by_)) {rows news : List (List Value)} (q : OQ e sz rows) {T : Heap} {R : Facts} {w : World} (hs : St (q.G ++ T) R w)
    {ax : Option Addr} {c : Nat} (hr : RowsA ax sz news w) (h0 : news ≠ []) (h1 : onecells news = true) (hby : (rows.length + news.length) * by_ ≤ 140737488355328) (h63 : rows.length + news.length ≤ 9223372036854775807) :
    ∃ (q' : OQ e sz (rows ++ news)) (w' : World), (Builtin.append_ #[t, t] ty #[q.fs, .slice ax news.length c]).run P w = .ok q'.fs w' ∧ St (q'.G ++ T) R w' := by
  unfold apT at ht
  split at ht
  case h_2 => cases ht
  rename_i e' hu
  split at ht
  case h_2 => cases ht
  rename_i i hi
  split at ht
  case h_2 => cases ht
  rename_i z hz
  cases hzs : Nat.beq z.cells.size i.size with
  | false => rw [hzs] at ht; cases ht
  | true =>
  rw [hzs, cond_true] at ht
  cases ht
  have hzs := Nat.eq_of_beq_eq_true hzs
  have hnl := rows_len hr
  obtain ⟨b, off, cap, pre, junk, hl, hpl, hroom0, hle, hmx⟩ := q
  have hlen' : ∀ r ∈ rows ++ news, r.length = i.size := fun r h => by rcases List.mem_append.1 h with h | h; exact hl r h; exact hnl r h
  have hnf := flat_len hnl
  have hrf := flat_len hl
  obtain ⟨bx, offx, rfl⟩ := rows_addr hr h0
  have hcell : ∀ j v, news.flatten[j]? = some v → w.cell? ((⟨bx, offx, none⟩ : Addr).add j) = some v := fun j v h => by rw [addr_add]; exact rows_flat hr j v h
  have hn0 : 0 < news.length := List.length_pos_iff.2 h0
  have hb := hs.held (b, cel e (pre ++ (rows.flatten ++ junk))) (by simp [OQ.G])
  by_cases hroom : rows.length + news.length ≤ cap
  · have hm2 : (rows.length + news.length) * i.size ≤ cap * i.size := Nat.mul_le_mul_right _ hroom
    rw [Nat.add_mul] at hm2
    have hjl : news.flatten.length ≤ junk.length := by omega
    have hst := run_storeA (P := P) (e := e) (od := off + rows.length * i.size) (vs := news.flatten) (List.all_eq_true.2 (one_flat h1)) (by simp only [List.length_append, hrf, hpl]; omega) hb
    have hfc := run_firstCells_some (P := P) w i.size news.length ⟨bx, offx, none⟩ news.length c news.flatten hnf hcell
    have hsp : spl (pre ++ (rows.flatten ++ junk)) (off + rows.length * i.size) news.flatten = pre ++ ((rows ++ news).flatten ++ junk.drop news.flatten.length) := by
      rw [spl_mid (by rw [hpl, hrf]) hjl, List.flatten_append]
    rw [hsp] at hst
    refine ⟨⟨b, off, cap, pre, junk.drop news.flatten.length, hlen', hpl, by rw [List.length_append, List.length_drop, Nat.add_mul]; omega, by rw [List.length_append]; exact hroom, hmx⟩, { w with heap := w.heap.setIfInBounds b (cel e (pre ++ ((rows ++ news).flatten ++ junk.drop news.flatten.length))) }, ?_, St.set hs⟩
    have e0 : (⟨b, off, none⟩ : Addr).add (rows.length * i.size) = ⟨b, off + rows.length * i.size, none⟩ := by rw [addr_add]
    simp [OQ.fs, Builtin.append_, run_underlying hu, sizeOf, typeInfo, hi, Builtin.lenOf, hroom, hfc, e0, hst]
  · have holds : ∀ j v, rows.flatten[j]? = some v → w.cell? ((⟨b, off, none⟩ : Addr).add j) = some v := fun j v h => by
      have hlt : j < rows.flatten.length := (List.getElem?_eq_some_iff.1 h).1
      rw [addr_add, cell_of hb]
      simp only [List.getElem?_toArray]
      rw [List.getElem?_append_right (by omega), show off + j - pre.length = j by omega, List.getElem?_append_left hlt]; exact h
    have h2 := run_append_grow (P := P) w t ty e i z hu hi hz ⟨b, off, none⟩ rows.length cap rows.flatten hrf holds ⟨bx, offx, none⟩ news.length c news.flatten hnf hcell (by omega) (by omega) (growslice_fits (by omega) hby)
    have hge := grownCap_ge w (rows.length + news.length) cap e
    have hcm : grownCap w (rows.length + news.length) cap e ≤ maxLen := grownCap_le_maxLen w _ cap e (by simp only [maxLen]; omega)
    refine ⟨⟨w.heap.size, 0, grownCap w (rows.length + news.length) cap e, [], (Builtin.zeroCells z.cells (grownCap w (rows.length + news.length) cap e - (rows.length + news.length))).toList, hlen', rfl, ?_, by rw [List.length_append]; exact hge, by simp only [maxLen] at hcm; omega⟩, w.drew.alloc (.cells (rows.flatten.toArray ++ news.flatten.toArray ++ Builtin.zeroCells z.cells (grownCap w (rows.length + news.length) cap e - (rows.length + news.length))) e), ?_, ?_⟩
    · simp only [Array.length_toList, size_zeroCells, hzs, List.length_append, ← Nat.add_mul]
      exact Nat.mul_le_mul_right _ (by omega)
    · exact h2.trans (by simp only [OQ.fs, List.length_append])
    · have h3 := (St.tail hs).drew.alloc (.cells (rows.flatten.toArray ++ news.flatten.toArray ++ Builtin.zeroCells z.cells (grownCap w (rows.length + news.length) cap e - (rows.length + news.length))) e)
      rw [show w.drew.heap.size = w.heap.size from rfl] at h3
      have e1 : (cel e ([] ++ ((rows ++ news).flatten ++ (Builtin.zeroCells z.cells (grownCap w (rows.length + news.length) cap e - (rows.length + news.length))).toList))) = .cells (rows.flatten.toArray ++ news.flatten.toArray ++ Builtin.zeroCells z.cells (grownCap w (rows.length + news.length) cap e - (rows.length + news.length))) e := by
        unfold cel; congr 1; apply Array.toList_inj.1; simp
      show St ((_, _) :: T) R _
      rw [e1]; exact h3
section
variable {P : Program} {r : Option Nat} {ops : Array Oper} {n : Nat} {L : Slots} {D : List Deferred} {H : Heap} {R : Facts} {K : Act → World → Prop}
  {i d : Nat} {ty : TypeId} {pos : String} {af : Array Edge}
theorem apQ {t e sz by_ c k : Nat} {s x : Operand} {rows news : List (List Value)} (q : OQ e sz rows) {ax : Option Addr} {C : Heap → Heap}
    (ho : ops[i]? = some ⟨some d, .call { callee := .builtin .append, args := #[s, x], argTypes := #[t, t] }, ty, pos, af, none⟩) (ht : apT P t = some (e, sz, by_))
    (hs : ev L s = some q.fs) (hx : ev L x = some (.slice ax k c)) (hr : ∀ w, St H R w → RowsA ax sz news w) (hk : news.length = k) (h0 : news ≠ []) (h1 : onecells news = true)
    (hb : (rows.length + news.length) * by_ ≤ 140737488355328 ∧ rows.length + news.length ≤ 9223372036854775807) (hd : Nat.blt d n = true)
    [rp : RepF q.G H C]
    (h : ∀ q' : OQ e sz (rows ++ news), Sy n ((d, q'.fs) :: L) D (C q'.G) R K) : Sy n L D H R (stp P r ops i K) := fun a w ha hD hs0 => by
  subst hk
  obtain ⟨T, p1, p2⟩ := rp.rep
  obtain ⟨q', w', h2, h3⟩ := run_app_q ht q (hs0.perm p1) (hr w hs0) h0 h1 hb.1 hb.2
  refine stp_value ho (wanted_none _ rfl _) (v := q'.fs) (w' := w') ?_ (h q' _ _ (ha.put (by simpa using hd) _) hD (h3.perm (p2 _)))
  simp only [execOp, resolve, invoke, builtin, Sem.run_bind, Sem.run_pure, Result.andThen, List.map_toArray, List.map_cons, List.map_nil, ha.reads _ _ hs, ha.reads _ _ hx]
  rw [show (Builtin.append_ #[t, t] ty #[q.fs, .slice ax news.length c]).run P w = _ from h2]
end
def OQ.cast {e sz : Nat} {rows rows' : List (List Value)} (q : OQ e sz rows) (h : rows = rows') : OQ e sz rows' := h ▸ q
@[simp] theorem OQ.cast_fs {e sz : Nat} {rows rows' : List (List Value)} (q : OQ e sz rows) (h : rows = rows') : (q.cast h).fs = q.fs := by subst h; rfl
@[simp] theorem OQ.cast_G {e sz : Nat} {rows rows' : List (List Value)} (q : OQ e sz rows) (h : rows = rows') : (q.cast h).G = q.G := by subst h; rfl
theorem OQ.pop {e sz : Nat} {row : List Value} {rows : List (List Value)} (q : OQ e sz (row :: rows)) : ∃ q' : OQ e sz rows, q'.fs = .slice (if q.cap = 1 then some ⟨q.b, q.off, none⟩ else some ⟨q.b, q.off + 1 * sz, none⟩) rows.length (q.cap - 1) ∧ q'.G = q.G := by
  obtain ⟨b, off, cap, pre, junk, hl, hpl, hroom, hle, hmx⟩ := q
  have hrl := hl row (by simp)
  rw [List.length_cons] at hroom hle
  rw [Nat.add_mul] at hroom
  by_cases h1 : cap = 1
  · have hr0 : rows = [] := List.length_eq_zero_iff.1 (by omega)
    subst hr0
    refine ⟨⟨b, off, cap - 1, pre, row ++ junk, by simp, hpl, by rw [h1]; simp, by simp, by omega⟩, ?_, ?_⟩
    · unfold OQ.fs; dsimp only; rw [if_pos h1]
    · unfold OQ.G; simp
  · refine ⟨⟨b, off + 1 * sz, cap - 1, pre ++ row, junk, fun r hr => hl r (by simp [hr]), by rw [List.length_append, hpl, hrl]; omega, by rw [Nat.sub_mul]; omega, by omega, by omega⟩, ?_, ?_⟩
    · unfold OQ.fs; dsimp only; rw [if_neg h1]
    · unfold OQ.G; simp [List.append_assoc]
theorem OQ.one {e sz : Nat} (b : Nat) {row : List Value} (h : row.length = sz) : ∃ q : OQ e sz [row], q.fs = .slice (some ⟨b, 0, none⟩) 1 1 ∧ q.G = [(b, cel e row)] :=
  ⟨⟨b, 0, 1, [], [], by simp [h], rfl, by simp, by simp, by decide⟩, rfl, by unfold OQ.G; simp⟩
end Go.Proofs.Ytelegnmfhjfbaaa
namespace Go.Proofs.Ytelegnmfhjfbaaa
set_option linter.unusedSimpArgs false
set_option linter.unusedVariables false
open Go
theorem cal113 : cal Try.prog 113 = true := by kernel_rfl
theorem sc155 : scal Try.prog 155 = true := by kernel_rfl
structure Rz (d : Dsk) (n : Nat) (days : Int) (s t : HSt) : Prop where
  inS : d.inS t
  le : undP d.n s t = true
  lv : t = s ∨ d.lvl n t ≤ days
theorem Rz.same {d : Dsk} {n : Nat} {days : Int} {s : HSt} (h : d.inS s) : Rz d n days s s := ⟨h, undP_iff.2 fun _ _ => Int.le_refl _, .inl rfl⟩
def mz (d : Dsk) (s : HSt) : Int := (na d.most 0 - na s 0) + (na d.most 1 - na s 1) + (na d.most 2 - na s 2) + (na d.most 3 - na s 3)
def rzm (d : Dsk) (s : HSt) (i : Nat) : Nat := (mz d s).toNat + (d.n - i)
theorem mz_nn {d : Dsk} (hd : d.ok) {s : HSt} (hs : d.inS s) : 0 ≤ mz d s := by
  have hn := hd.n
  have key : ∀ k < 4, na s k ≤ na d.most k := fun k hk => by
    have h2 := hd.most.at_ k hk
    rcases Nat.lt_or_ge k d.n with h | h
    · rcases hs.at_ k h with h1 | h1 <;> omega
    · have := hs.out k hk h; omega
  have k0 := key 0 (by omega); have k1 := key 1 (by omega); have k2 := key 2 (by omega); have k3 := key 3 (by omega)
  unfold mz; omega
theorem na_set4 {s : HSt} {i j : Nat} {v : Int} (hs : s.length = 4) (hi : i < 4) : na (s.set i v) j = if i = j then v else na s j := by
  unfold na
  rw [List.getD_eq_getElem?_getD, List.getD_eq_getElem?_getD, List.getElem?_set]
  by_cases h : i = j
  · subst h; rw [if_pos rfl, if_pos (by omega), if_pos rfl]; rfl
  · rw [if_neg h, if_neg h]
theorem up_facts {d : Dsk} (hd : d.ok) {s : HSt} (hs : d.inS s) {i : Nat} (hi : i < d.n) (h : na s i < na d.most i) :
    d.inS (s.set i (na s i + 1)) ∧ undP d.n s (s.set i (na s i + 1)) = true ∧ rzm d (s.set i (na s i + 1)) i < rzm d s i := by
  have hn := hd.n
  have hsl := hs.len
  have hmv := hd.ever i hi
  have hsi := hs.at_ i hi
  have ha : ∀ j, na (s.set i (na s i + 1)) j = if i = j then na s i + 1 else na s j := fun j => na_set4 hsl (by omega)
  have hin : d.inS (s.set i (na s i + 1)) := by
    refine ⟨by rw [List.length_set]; exact hsl, fun k hk => ?_, fun k hk hk' => ?_⟩
    · rw [ha]
      by_cases e : i = k
      · subst e; rw [if_pos rfl]; right; omega
      · rw [if_neg e]; exact hs.at_ k hk
    · rw [ha, if_neg (by omega)]; exact hs.out k hk hk'
  refine ⟨hin, undP_iff.2 fun k hk => ?_, ?_⟩
  · rw [ha]; split
    · rename_i e; subst e; omega
    · exact Int.le_refl _
  · have h0 := mz_nn hd hin
    have e : mz d (s.set i (na s i + 1)) = mz d s - 1 := by
      unfold mz
      rw [ha, ha, ha, ha]
      have hi4 : i < 4 := by omega
      match i, hi4 with
      | 0, _ => simp; omega
      | 1, _ => simp; omega
      | 2, _ => simp; omega
      | 3, _ => simp; omega
    unfold rzm
    rw [e] at h0 ⊢
    omega
theorem Rz.trans {d : Dsk} {n : Nat} {days : Int} {s u t : HSt} (h : Rz d n days u t) (hle : undP d.n s u = true) (hl : d.lvl n u ≤ days) : Rz d n days s t :=
  ⟨h.inS, undP_trans hle h.le, .inr (by rcases h.lv with rfl | h1; exact hl; exact h1)⟩
theorem kpt_next {d : Dsk} (hd : d.ok) {s t : HSt} (hs : d.inS s) {l : List Nat} (hl : l ∈ d.trs false) (hn : d.next s l = some t) {v w : Int} (hv : Kpt d s v) (hw : Kpt d t w) (h : v ≠ 1000000) : w < v := by
  have ht := d.next_inS hd hs (d.trs_lt hl) hn
  have key : ∀ j : Nat, (w = 1000000 ∨ (j : Int) ≤ w) → ((j + 1 : Nat) : Int) ≤ v := fun j hj => by
    obtain ⟨u, c, hp⟩ := (kpt_pth hd ht hw j).2 hj
    rcases (kpt_pth hd hs hv (j + 1)).1 ⟨u, _, d.pth_cons hl hn hp⟩ with h1 | h1
    · exact absurd h1 h
    · exact h1
  have h1 := kpt_nn hw; have h2 := kpt_nn hv
  by_cases h3 : w = 1000000
  · have := key 20000 (.inl h3); omega
  · have := key w.toNat (.inr (by omega)); omega
structure Bq (d : Dsk) (n : Nat) (s0 : HSt) (V : List HSt) (j : Nat) : Prop where
  nd : V.Nodup
  sts : ∀ v ∈ V, d.inS v
  lv : ∀ v ∈ V, d.lvl n v ≤ d.lvl n s0
  fst : ∃ v ∈ V, undP d.n s0 v = true
  cov : ∀ i v, i < j → V[i]? = some v → ∀ l ∈ d.trs false, ∀ t, d.next v l = some t → ∃ u ∈ V, undP d.n t u = true ∧ d.lvl n u < d.lvl n v
theorem Bq.start {d : Dsk} {n : Nat} {s0 u : HSt} (h : Rz d n (d.lvl n s0) s0 u) : Bq d n s0 [u] 0 :=
  ⟨by simp, fun v hv => by rw [List.mem_singleton.1 hv]; exact h.inS, fun v hv => by
    rw [List.mem_singleton.1 hv]
    rcases h.lv with rfl | h1
    · exact Int.le_refl _
    · exact h1, ⟨u, by simp, h.le⟩, fun i v hi => absurd hi (Nat.not_lt_zero _)⟩
theorem Bq.add {d : Dsk} {n : Nat} {s0 u : HSt} {V : List HSt} {j : Nat} (h : Bq d n s0 V j) (hj : j ≤ V.length) (hu : d.inS u) (hn : u ∉ V) (hl : d.lvl n u ≤ d.lvl n s0) : Bq d n s0 (V ++ [u]) j where
  nd := List.nodup_append.2 ⟨h.nd, by simp, fun x hx y hy e => hn (by rw [← List.mem_singleton.1 hy, ← e]; exact hx)⟩
  sts v hv := by
    rcases List.mem_append.1 hv with hv | hv
    · exact h.sts v hv
    · rw [List.mem_singleton.1 hv]; exact hu
  lv v hv := by
    rcases List.mem_append.1 hv with hv | hv
    · exact h.lv v hv
    · rw [List.mem_singleton.1 hv]; exact hl
  fst := by obtain ⟨v, hv, h1⟩ := h.fst; exact ⟨v, List.mem_append_left _ hv, h1⟩
  cov i v hi hv l hl t ht := by
    rw [List.getElem?_append_left (by omega)] at hv
    obtain ⟨w, hw, h1⟩ := h.cov i v hi hv l hl t ht
    exact ⟨w, List.mem_append_left _ hw, h1⟩
def CvK (d : Dsk) (n : Nat) (V : List HSt) (p : HSt) (k : Nat) : Prop := ∀ i l, i < k → (d.trs false)[i]? = some l → ∀ t, d.next p l = some t → ∃ u ∈ V, undP d.n t u = true ∧ d.lvl n u < d.lvl n p
theorem CvK.more {d : Dsk} {n : Nat} {V : List HSt} {p : HSt} {k : Nat} {l : List Nat} (h : CvK d n V p k) (hk : (d.trs false)[k]? = some l) (hl : ∀ t, d.next p l = some t → ∃ u ∈ V, undP d.n t u = true ∧ d.lvl n u < d.lvl n p) : CvK d n V p (k + 1) := fun i m hi hm => by
  rcases Nat.lt_or_ge i k with h1 | h1
  · exact h i m h1 hm
  · obtain rfl : i = k := by omega
    rw [hk] at hm; cases hm; exact hl
theorem CvK.add {d : Dsk} {n : Nat} {V : List HSt} {p : HSt} {k : Nat} (h : CvK d n V p k) (u : HSt) : CvK d n (V ++ [u]) p k := fun i l hi hl t ht => by
  obtain ⟨w, hw, h1⟩ := h i l hi hl t ht
  exact ⟨w, List.mem_append_left _ hw, h1⟩
theorem Bq.next {d : Dsk} {n : Nat} {s0 p : HSt} {V : List HSt} {j : Nat} (h : Bq d n s0 V j) (hp : V[j]? = some p) (hc : CvK d n V p (d.trs false).length) : Bq d n s0 V (j + 1) :=
  ⟨h.nd, h.sts, h.lv, h.fst, fun i v hi hv l hl t ht => by
    rcases Nat.lt_or_ge i j with h1 | h1
    · exact h.cov i v h1 hv l hl t ht
    · obtain rfl : i = j := by omega
      rw [hp] at hv; cases hv
      obtain ⟨k, hk⟩ := List.getElem?_of_mem hl
      exact hc k l (List.getElem?_eq_some_iff.1 hk).1 hk t ht⟩
theorem Bq.few {d : Dsk} (hd : d.ok) {n : Nat} {s0 : HSt} {V : List HSt} {j : Nat} (h : Bq d n s0 V j) : V.length ≤ d.nst := by
  have := nodup_len h.nd (m := d.sts) fun t ht => (d.mem_sts hd t).2 (h.sts t ht)
  rw [d.sts_len] at this
  exact this
def wlV (d : Dsk) (n : Nat) (V : List HSt) : WL := V.map fun v => (v.take d.n, d.lvl n v)
theorem pad_take {d : Dsk} {s : HSt} (hn : d.n ≤ 4) (h : d.inS s) : pad (s.take d.n) = s := by
  have hl := h.len
  refine ext4 (pad_len' (by rw [List.length_take]; omega)) hl fun k hk => ?_
  rw [pad_na]
  by_cases hkn : k < d.n
  · unfold na; rw [List.getD_eq_getElem?_getD, List.getD_eq_getElem?_getD, List.getElem?_take, if_pos hkn]
  · rw [h.out k hk (by omega)]
    unfold na
    rw [List.getD_eq_getElem?_getD, List.getElem?_eq_none (by rw [List.length_take]; omega)]; rfl
theorem undP_take {n : Nat} {s t : List Int} : undP n s (t.take n) = undP n s t := by
  rw [Bool.eq_iff_iff, undP_iff, undP_iff]
  have key : ∀ k < n, na (t.take n) k = na t k := fun k hk => by unfold na; rw [List.getD_eq_getElem?_getD, List.getD_eq_getElem?_getD, List.getElem?_take, if_pos hk]
  exact ⟨fun h k hk => by rw [← key k hk]; exact h k hk, fun h k hk => by rw [key k hk]; exact h k hk⟩
theorem Bq.wall {b : Barn} (hok : b.ok) {n : Nat} (hn : n ≤ 14641) (hfx : b.dsk.alive (n + 1) = b.dsk.alive n) {V : List HSt} (h : Bq b.dsk n b.state V V.length) (hm : b.dsk.lvl n b.state ≠ 1000000) :
    shwV b (wlV b.dsk n V) = (b.dsk.lvl n b.state, 0) := by
  have hd := b.dsk_ok hok
  have hmn := hok.many
  have hdn : b.dsk.n = b.bins.length := rfl
  have hks := kpt_of (b.state_sts hok) hn hfx
  have hk : ∀ v ∈ V, Kpt b.dsk v (b.dsk.lvl n v) := fun v hv => kpt_of ((b.dsk.mem_sts hd v).2 (h.sts v hv)) hn hfx
  have hr : ∀ v ∈ V, 0 ≤ b.dsk.lvl n v ∧ b.dsk.lvl n v ≤ 14641 := fun v hv => by
    have h1 := kpt_nn (hk v hv); have h2 := kpt_nn hks; have h3 := h.lv v hv; omega
  have hf := h.few hd
  have hn14 := (b.dsk.nst_le hd).2
  have hwe : wlErr b (wlV b.dsk n V) = 0 := by
    obtain ⟨v0, hv0, _⟩ := h.fst
    have hpos := List.length_pos_of_mem hv0
    refine wlErr_ok (by unfold wlV; rw [List.length_map]; simp [inB]; omega) fun y hy => ?_
    obtain ⟨v, hv, rfl⟩ := List.mem_map.1 hy
    have hi := h.sts v hv
    have hvl := hi.len
    have hvr := hr v hv
    refine stErr_ok (by dsimp only; rw [List.length_take]; omega) (by simp [inB]; omega) fun k hk => ?_
    obtain ⟨x, hx⟩ : ∃ x, b.bins[k]? = some x := ⟨_, List.getElem?_eq_getElem hk⟩
    have he := (b.most_ever hok hx).1
    have hev := (hd.ever k hk).2.1
    have hna : na (v.take b.dsk.n) k = na v k := by unfold na; rw [List.getD_eq_getElem?_getD, List.getD_eq_getElem?_getD, List.getElem?_take, if_pos (hdn ▸ hk)]
    dsimp only
    rw [hna]
    unfold badL
    rw [bin_getD hx]
    rcases hi.at_ k hk with ⟨h1, h2⟩ | ⟨h1, h2, h3⟩
    · rw [decide_eq_true (he.1 h1), h2]; rfl
    · rw [decide_eq_false (fun h0 => h1 (he.2 h0)), cond_false]
      have : inB (na v k) 0 10 = true := by simp [inB]; omega
      rw [this]; rfl
  have hmem : ∀ v ∈ V, (v.take b.dsk.n, b.dsk.lvl n v) ∈ wlV b.dsk n V := fun v hv => List.mem_map.2 ⟨v, hv, rfl⟩
  have hws : ∀ s ∈ wlV b.dsk n V, wlSt b.dsk (wlV b.dsk n V) s = true := fun s hs => by
    obtain ⟨v, hv, rfl⟩ := List.mem_map.1 hs
    unfold wlSt
    rw [List.all_eq_true]
    intro l hl
    unfold wlL
    dsimp only
    rw [pad_take hd.n.2 (h.sts v hv)]
    cases hnx : b.dsk.next v l with
    | none => rfl
    | some t =>
      obtain ⟨i, hi⟩ := List.getElem?_of_mem hv
      obtain ⟨u, hu, h1, h2⟩ := h.cov i v (List.getElem?_eq_some_iff.1 hi).1 hi l hl t hnx
      have := shnV_mem (n := b.dsk.n) (t := t) (hmem u hu) (by dsimp only; rw [undP_take]; exact h1)
      exact decide_eq_true (by dsimp only at this; omega)
  obtain ⟨v0, hv0, hu0⟩ := h.fst
  have hle : shnV b.dsk.n (wlV b.dsk n V) b.state ≤ b.dsk.lvl n b.state := by
    have := shnV_mem (n := b.dsk.n) (t := b.state) (hmem v0 hv0) (by dsimp only; rw [undP_take]; exact hu0)
    have h3 := h.lv v0 hv0
    dsimp only at this; omega
  have hkn := kpt_nn hks
  have hne : shnV b.dsk.n (wlV b.dsk n V) b.state ≠ 1000000 := by omega
  have hy := shw_yes hwe hws hne
  have hs := wall_sound hok (W := wlV b.dsk n V) (by rw [hy]) hks
  rw [hy] at hs ⊢
  congr 1
  dsimp only at hs
  omega
def kvL (d : Dsk) (n : Nat) (V : List HSt) : KV := V.map fun s => (s, .int .i64 (d.lvl n s))
theorem kvL_len {d : Dsk} {n : Nat} {V : List HSt} (h : ∀ s ∈ V, s.length = 4) : ∀ e ∈ kvL d n V, e.1.length = 4 := fun e he => by
  obtain ⟨s, hs, rfl⟩ := List.mem_map.1 he
  exact h s hs
theorem kvL_put {d : Dsk} {n : Nat} : ∀ {V : List HSt} {s : HSt}, s ∉ V → (kvL d n V).put s (.int .i64 (d.lvl n s)) = kvL d n (V ++ [s])
  | [], s, _ => rfl
  | v :: V, s, h => by
    have h1 : ¬ v = s := fun e => h (by simp [e])
    have ih := kvL_put (d := d) (n := n) (V := V) (s := s) (fun hm => h (by simp [hm]))
    show KV.put ((v, _) :: kvL d n V) s _ = _
    unfold KV.put
    rw [decide_eq_false h1, cond_false, ih]; rfl
theorem kvL_get {d : Dsk} {n : Nat} : ∀ {V : List HSt} {s : HSt}, s ∈ V → (kvL d n V).get s = some (.int .i64 (d.lvl n s))
  | [], s, h => by cases h
  | v :: V, s, h => by
    show KV.get ((v, _) :: kvL d n V) s = _
    unfold KV.get
    rw [List.find?_cons]
    dsimp only
    by_cases e : v = s
    · rw [decide_eq_true e, e]; rfl
    · rw [decide_eq_false e]
      have hm : s ∈ V := by rcases List.mem_cons.1 h with h1 | h1; exact absurd h1.symm e; exact h1
      exact kvL_get hm
theorem kvL_no {d : Dsk} {n : Nat} : ∀ {V : List HSt} {s : HSt}, s ∉ V → (kvL d n V).get s = none
  | [], s, _ => rfl
  | v :: V, s, h => by
    show KV.get ((v, _) :: kvL d n V) s = _
    unfold KV.get
    rw [List.find?_cons]
    dsimp only
    rw [decide_eq_false (fun e => h (by simp [e]))]
    exact kvL_no (d := d) (n := n) (V := V) (s := s) (fun hm => h (by simp [hm]))
theorem PE.slArrHi {P : Program} {L : Slots} {d : Option Tmp} {ty : TypeId} {pos : String} {af : Array Edge} {g : Option (Nat × Bool)} {T m n b off h : Nat} {x y : Operand} {k : IntKind} (hT : arN P T = some (m, n)) (hx : ev L x = some (.pointer (some ⟨b, off, none⟩))) (hy : ev L y = some (.int k h)) (hh : h ≤ m) :
    PE P L ⟨d, .slice T x none (some y) none, ty, pos, af, g⟩ (.slice (some ⟨b, off, none⟩) h m) := fun ρ hρ w => by
  obtain ⟨e, i, hu, hi, rfl⟩ := arN_und hT
  have ha : (⟨b, off, none⟩ : Addr).add (0 * i.size) = ⟨b, off, none⟩ := by rw [addr_add]; simp
  have hb : ∀ c w, (Instr.sliceBound (.int k (h : Int)) m c).run P w = .ok h w := fun c w => by rw [run_bound (by omega)]; simp
  simp only [execOp, hρ _ _ hx, hρ _ _ hy, Option.map_none, Option.map_some, Instr.sliceAt, Sem.run_bind, run_underlying hu, Result.andThen, Instr.sureAddr, Sem.run_pure, Instr.sliceBounds, hb, sizeOf, typeInfo, program, hi, Sem.run]
  rw [ha]
  by_cases h0 : m = 0 <;> simp [h0]
theorem rowsI {b e n : Nat} {l : List Int} {H : Heap} {R : Facts} [m : Mem1 b (cel e (ints l)) H] : ∀ w, St H R w → RowsA (some ⟨b, 0, none⟩) 1 (irows (l.take n)) w := fun w hs i q hi => by
  rw [List.getElem?_map] at hi
  obtain ⟨v, hv, rfl⟩ := Option.map_eq_some_iff.1 hi
  refine ⟨rfl, b, 0, rfl, fun j x hx => ?_⟩
  have hj : j = 0 := by
    have := (List.getElem?_eq_some_iff.1 hx).1
    simp at this; exact this
  subst hj
  rw [cell_of (hs.held _ m.mem)]
  have hl : l[i]? = some v := by
    rw [List.getElem?_take] at hv
    split at hv
    · exact hv
    · cases hv
  simp only [List.getElem?_cons_zero, Option.some.injEq] at hx
  subst hx
  have h1 := ints_get hl
  simpa using h1
theorem c_raise1 (b : Barn) (hok : b.ok) (ab : Option Addr) (cb bd m : Nat) (n : Nat) (hn : n ≤ 14641) (kv : KV) (hkv : KvOk b.dsk n kv) (x4 x6 : Nat) (days : Int) (s : HSt) (hs : b.dsk.inS s) (i : Nat) (hi : i ≤ b.bins.length)
    (ih : ∀ (s' : HSt) (i' : Nat) (H : Heap) (R : Facts) [hD : MemRows (some ⟨bd, 0, none⟩) 18 [dcs b (b.sl ab cb) b.lasts b.most m] R] [hX : MemRows (some ⟨x4, 0, none⟩) 1 [[.pointer (some ⟨bd, 0, none⟩)]] R] [hY : MemRows (some ⟨x6, 0, none⟩) 1 [[.func (.func 113) #[] #[.pointer (some ⟨x4, 0, none⟩), .pointer (some ⟨x6, 0, none⟩)]]] R] [hK : MemF (KpF m kv) R], b.dsk.inS s' → i' ≤ b.bins.length → rzm b.dsk s' i' < rzm b.dsk s i → Fn Try.prog 113 [stv s', .int .i64 days, .int .i64 i', .pointer (some ⟨x4, 0, none⟩), .pointer (some ⟨x6, 0, none⟩)] H R (fun v H' R' => ∃ t, Rz b.dsk n days s' t ∧ v = stv t ∧ H' = H ∧ R' = R)) (H : Heap) (R : Facts) [hD : MemRows (some ⟨bd, 0, none⟩) 18 [dcs b (b.sl ab cb) b.lasts b.most m] R] [hX : MemRows (some ⟨x4, 0, none⟩) 1 [[.pointer (some ⟨bd, 0, none⟩)]] R] [hY : MemRows (some ⟨x6, 0, none⟩) 1 [[.func (.func 113) #[] #[.pointer (some ⟨x4, 0, none⟩), .pointer (some ⟨x6, 0, none⟩)]]] R] [hK : MemF (KpF m kv) R] :
    Fn Try.prog 113 [stv s, .int .i64 days, .int .i64 i, .pointer (some ⟨x4, 0, none⟩), .pointer (some ⟨x6, 0, none⟩)] H R (fun v H' R' => ∃ t, Rz b.dsk n days s t ∧ v = stv t ∧ H' = H ∧ R' = R) := by
 have hmn := hok.many
 have hdk := b.dsk_ok hok
 have hl4 := hdk.lasts.len
 have hm4 := hdk.most.len
 refine fn_of Try.func113 rfl Try.ntmps113 rfl ?_
 refine sy_seq ?_
 refine sy_tx' [0, 1] rfl ?_
 refine bx rfl rfl rfl (fun b5 => ?_)
 refine alc rfl zl127 rfl (fun b8 => ?_)
 refine sy_seq ?_
 refine sy_seq ?_
 refine sy_tx' [0, 1, 2, 3, 4, 5, 6, 7] rfl ?_
 refine sp rfl (PE.move rfl) rfl ?_
 refine spL rfl rfl (lfB (sz := 1) sc123 rfl) rfl ?_
 refine sp rfl (PE.nilCheck rfl) rfl ?_
 refine sp rfl (PE.fieldAddr fo130_0 rfl) rfl ?_
 refine sp rfl (PE.fieldAddr fo25_3 rfl) rfl ?_
 refine spL rfl rfl (lfB (sz := 18) sc23 rfl) rfl ?_
 refine sp rfl (PE.lenSl isl23 rfl) rfl ?_
 refine sp rfl (PE.eql rfl rfl) rfl ?_
 refine sy_cond rfl (fun hc0 => ?_) (fun hc0 => ?_)
 try simp only [decide_eq_true_eq, decide_eq_false_iff_not, Bool.and_eq_true, Bool.or_eq_true, Bool.not_eq_true', Int.not_le, Int.not_lt] at hc0
 refine sy_seq ?_
 refine sy_tx' [0, 1] rfl ?_
 refine spL rfl rfl (lhA (rest := []) (ints s) ag127 rfl (by rw [List.append_nil]; rfl) (by rw [ints_length]; exact hs.len)) rfl ?_
 refine stoA rfl rfl rfl cn127 rfl (by rw [ints_length]; exact hs.len) rfl (ints_one _) ?_
 refine sy_ret ?_
 exact sy_return (vs := [_]) rfl (.cons (RV.cell rfl (lhA (rest := []) (ints s) ag127 rfl (by rw [List.append_nil]; rfl) (by rw [ints_length]; exact hs.len))) .nil) rfl ⟨s, Rz.same hs, rfl, rfl, rfl⟩ (fun w h => (h.del b8).del b5)
 try simp only [decide_eq_true_eq, decide_eq_false_iff_not, Bool.and_eq_true, Bool.or_eq_true, Bool.not_eq_true', Int.not_le, Int.not_lt] at hc0
 refine sy_skip ?_
 refine sy_seq ?_
 refine sy_seq ?_
 refine sy_tx' [0, 1, 2] rfl ?_
 refine spL rfl rfl (lhA (rest := []) (ints s) ag127 rfl (by rw [List.append_nil]; rfl) (by rw [ints_length]; exact hs.len)) rfl ?_
 refine alc rfl zl127 rfl (fun b9 => ?_)
 refine stoA rfl rfl rfl cn127 rfl (by rw [ints_length]; exact hs.len) rfl (ints_one _) ?_
 refine sy_seq ?_
 refine sy_draw [0, 1, 3, 0, 0, 8, 40, 120, 248, 511] (.tk 0 (.tk 1 (.ld 2 (.ld 3 (.tk 4 (.tk 5 (.tk 6 (.tk 7 (.ld 8 (.tk 9 .done)))))))))) mixed (by kernel_rfl) ?_
 refine tk rfl (PE.move rfl) rfl ?_
 refine tk rfl (PE.indexArr ar127 rfl rfl (by omega) (by omega)) rfl ?_
 refine ld rfl rfl (lh sc3 rfl (st_at (s := s) (k := i) (hs.len) (by omega) (by show 0 + ((i : Nat) : Int).toNat * 1 = _; omega))) rfl ?_
 refine ld rfl rfl (lfB (sz := 1) sc123 rfl) rfl ?_
 refine tk rfl (PE.move rfl) rfl ?_
 refine tk rfl (PE.nilCheck rfl) rfl ?_
 refine tk rfl (PE.fieldAddr fo130_2 rfl) rfl ?_
 refine tk rfl (PE.indexArr ar127 rfl rfl (by omega) (by omega)) rfl ?_
 refine ld rfl rfl (lfB (sz := 18) (x := .int .i64 (na b.most i)) sc3 (dcs_most (k := i) hl4 hm4 (by omega) (by show 0 + 13 + ((i : Nat) : Int).toNat * 1 = _; omega))) rfl ?_
 refine tk rfl (PE.lss rfl rfl) rfl ?_
 refine sy_cond rfl (fun hc1 => ?_) (fun hc1 => ?_)
 try simp only [decide_eq_true_eq, decide_eq_false_iff_not, Bool.and_eq_true, Bool.or_eq_true, Bool.not_eq_true', Int.not_le, Int.not_lt] at hc1
 have hmi := (b.dsk.inS_sml hdk hs).at_ i (by omega)
 have hmi2 := hdk.most.at_ i (by omega)
 obtain ⟨hup, hule, hum⟩ := up_facts hdk hs (i := i) (show i < b.bins.length by omega) hc1
 have hkt := hkv.get _ ((b.dsk.mem_sts hdk _).2 hup)
 refine sy_seq ?_
 refine sy_tx' [0, 1, 2, 3, 4, 5] rfl ?_
 refine sp rfl (PE.move rfl) rfl ?_
 refine sp rfl (PE.indexArr ar127 rfl rfl (by omega) (by omega)) rfl ?_
 refine spL rfl rfl (lh sc3 rfl (st_at (s := s) (k := i) (hs.len) (by omega) (by show 0 + ((i : Nat) : Int).toNat * 1 = _; omega))) rfl ?_
 refine sp rfl (PE.add rfl rfl (by omega)) rfl ?_
 refine sp rfl (PE.indexArr ar127 rfl rfl (by omega) (by omega)) rfl ?_
 refine stoE (l' := ints (s.set i (na s i + 1))) rfl rfl rfl cn3 rfl rfl rfl (st_put (k := i) hs.len (by omega) (by show 0 + ((i : Nat) : Int).toNat * 1 = i; omega)) (by rw [ints_length, hs.len]; show 0 + ((i : Nat) : Int).toNat * 1 + 1 ≤ 4; omega) ?_
 refine sy_seq ?_
 refine sy_draw [0, 1, 3, 7, 0, 31, 0, 127] (.ld 0 (.tk 1 (.tk 2 (.ld 3 (.ld 4 (.ld 5 (.tk 6 (.tk 7 .done)))))))) mixed (by kernel_rfl) ?_
 refine ld rfl rfl (lfB (sz := 1) sc123 rfl) rfl ?_
 refine tk rfl (PE.nilCheck rfl) rfl ?_
 refine tk rfl (PE.fieldAddr fo130_3 rfl) rfl ?_
 refine ld rfl rfl (lfB (sz := 18) sc128 (dcs_map hl4 hm4)) rfl ?_
 refine ld rfl rfl (lhA (rest := []) (ints (s.set i (na s i + 1))) ag127 rfl (by rw [List.append_nil]; rfl) (by rw [ints_length]; exact hup.len)) rfl ?_
 refine ldK rfl rfl rfl (lk_fact (b := true) kv (s.set i (na s i + 1)) mke128 (KeyT.of eqf127 noa127) (run_zv zv3) hup.len hkv.len (fun w hs => hs.now hK.mem) false) rfl ?_
 rw [hkt]
 refine tk rfl (PE.move rfl) rfl ?_
 refine tk rfl (PE.leq rfl rfl) rfl ?_
 refine sy_cond rfl (fun hc2 => ?_) (fun hc2 => ?_)
 try simp only [decide_eq_true_eq, decide_eq_false_iff_not, Bool.and_eq_true, Bool.or_eq_true, Bool.not_eq_true', Int.not_le, Int.not_lt] at hc2
 refine sy_seq ?_
 refine sy_tx' [0, 1, 2, 3, 4, 5] rfl ?_
 refine spL rfl rfl (lfB (sz := 1) sc155 rfl) rfl ?_
 refine spL rfl rfl (lhA (rest := []) (ints (s.set i (na s i + 1))) ag127 rfl (by rw [List.append_nil]; rfl) (by rw [ints_length]; exact hup.len)) rfl ?_
 refine sp rfl (PE.move rfl) rfl ?_
 refine sp rfl (PE.move rfl) rfl ?_
 refine clF rfl rfl (cal113) rfl rfl (ih (s.set i (na s i + 1)) i _ _ hup hi hum) ?_
 rintro _ _ _ ⟨t, ht, rfl, rfl, rfl⟩
 refine stoA rfl rfl rfl cn127 rfl (by rw [ints_length]; exact ht.inS.len) rfl (ints_one _) ?_
 refine sy_ret ?_
 exact sy_return (vs := [_]) rfl (.cons (RV.cell rfl (lhA (rest := []) (ints t) ag127 rfl (by rw [List.append_nil]; rfl) (by rw [ints_length]; exact ht.inS.len))) .nil) rfl ⟨t, ht.trans hule hc2, rfl, rfl, rfl⟩ (fun w h => ((h.del b9).del b8).del b5)
 try simp only [decide_eq_true_eq, decide_eq_false_iff_not, Bool.and_eq_true, Bool.or_eq_true, Bool.not_eq_true', Int.not_le, Int.not_lt] at hc2
 refine sy_skip ?_
 refine sy_seq ?_
 refine sy_tx' [0, 1, 2, 3, 4, 5, 6] rfl ?_
 refine spL rfl rfl (lfB (sz := 1) sc155 rfl) rfl ?_
 refine spL rfl rfl (lhA (rest := []) (ints s) ag127 rfl (by rw [List.append_nil]; rfl) (by rw [ints_length]; exact hs.len)) rfl ?_
 refine sp rfl (PE.move rfl) rfl ?_
 refine sp rfl (PE.move rfl) rfl ?_
 refine sp rfl (PE.add rfl rfl (by omega)) rfl ?_
 rw [show (i : Int) + 1 = ((i + 1 : Nat) : Int) by omega]
 refine clF rfl rfl (cal113) rfl rfl (ih s (i + 1) _ _ hs (by omega) (by unfold rzm; have e : b.dsk.n = b.bins.length := rfl; omega)) ?_
 rintro _ _ _ ⟨t, ht, rfl, rfl, rfl⟩
 refine stoA rfl rfl rfl cn127 rfl (by rw [ints_length]; exact ht.inS.len) rfl (ints_one _) ?_
 refine sy_ret ?_
 exact sy_return (vs := [_]) rfl (.cons (RV.cell rfl (lhA (rest := []) (ints t) ag127 rfl (by rw [List.append_nil]; rfl) (by rw [ints_length]; exact ht.inS.len))) .nil) rfl ⟨t, ht, rfl, rfl, rfl⟩ (fun w h => ((h.del b9).del b8).del b5)
 try simp only [decide_eq_true_eq, decide_eq_false_iff_not, Bool.and_eq_true, Bool.or_eq_true, Bool.not_eq_true', Int.not_le, Int.not_lt] at hc1
 refine sy_skip ?_
 refine sy_seq ?_
 refine sy_tx' [0, 1, 2, 3, 4, 5, 6] rfl ?_
 refine spL rfl rfl (lfB (sz := 1) sc155 rfl) rfl ?_
 refine spL rfl rfl (lhA (rest := []) (ints s) ag127 rfl (by rw [List.append_nil]; rfl) (by rw [ints_length]; exact hs.len)) rfl ?_
 refine sp rfl (PE.move rfl) rfl ?_
 refine sp rfl (PE.move rfl) rfl ?_
 refine sp rfl (PE.add rfl rfl (by omega)) rfl ?_
 rw [show (i : Int) + 1 = ((i + 1 : Nat) : Int) by omega]
 refine clF rfl rfl (cal113) rfl rfl (ih s (i + 1) _ _ hs (by omega) (by unfold rzm; have e : b.dsk.n = b.bins.length := rfl; omega)) ?_
 rintro _ _ _ ⟨t, ht, rfl, rfl, rfl⟩
 refine stoA rfl rfl rfl cn127 rfl (by rw [ints_length]; exact ht.inS.len) rfl (ints_one _) ?_
 refine sy_ret ?_
 exact sy_return (vs := [_]) rfl (.cons (RV.cell rfl (lhA (rest := []) (ints t) ag127 rfl (by rw [List.append_nil]; rfl) (by rw [ints_length]; exact ht.inS.len))) .nil) rfl ⟨t, ht, rfl, rfl, rfl⟩ (fun w h => ((h.del b9).del b8).del b5)
theorem c_raiseN (b : Barn) (hok : b.ok) (ab : Option Addr) (cb bd m : Nat) (n : Nat) (hn : n ≤ 14641) (kv : KV) (hkv : KvOk b.dsk n kv) (x4 x6 : Nat) (days : Int) : ∀ (N : Nat) (s : HSt) (i : Nat) (H : Heap) (R : Facts) [hD : MemRows (some ⟨bd, 0, none⟩) 18 [dcs b (b.sl ab cb) b.lasts b.most m] R] [hX : MemRows (some ⟨x4, 0, none⟩) 1 [[.pointer (some ⟨bd, 0, none⟩)]] R] [hY : MemRows (some ⟨x6, 0, none⟩) 1 [[.func (.func 113) #[] #[.pointer (some ⟨x4, 0, none⟩), .pointer (some ⟨x6, 0, none⟩)]]] R] [hK : MemF (KpF m kv) R], b.dsk.inS s → i ≤ b.bins.length → rzm b.dsk s i ≤ N → Fn Try.prog 113 [stv s, .int .i64 days, .int .i64 i, .pointer (some ⟨x4, 0, none⟩), .pointer (some ⟨x6, 0, none⟩)] H R (fun v H' R' => ∃ t, Rz b.dsk n days s t ∧ v = stv t ∧ H' = H ∧ R' = R) := by
  intro N
  induction N with
  | zero => intro s i H R _ _ _ _ hs hi hm; exact c_raise1 b hok ab cb bd m n hn kv hkv x4 x6 days s hs i hi (fun s' i' H R _ _ _ _ _ _ h => absurd h (by omega)) H R
  | succ N ih => intro s i H R _ _ _ _ hs hi hm; exact c_raise1 b hok ab cb bd m n hn kv hkv x4 x6 days s hs i hi (fun s' i' H R _ _ _ _ h1 h2 h3 => ih s' i' H R h1 h2 (by omega)) H R
theorem c_raise (b : Barn) (hok : b.ok) (ab : Option Addr) (cb bd m : Nat) (n : Nat) (hn : n ≤ 14641) (kv : KV) (hkv : KvOk b.dsk n kv) (x4 x6 : Nat) (days : Int) (s : HSt) (hs : b.dsk.inS s) (H : Heap) (R : Facts) [hD : MemRows (some ⟨bd, 0, none⟩) 18 [dcs b (b.sl ab cb) b.lasts b.most m] R] [hX : MemRows (some ⟨x4, 0, none⟩) 1 [[.pointer (some ⟨bd, 0, none⟩)]] R] [hY : MemRows (some ⟨x6, 0, none⟩) 1 [[.func (.func 113) #[] #[.pointer (some ⟨x4, 0, none⟩), .pointer (some ⟨x6, 0, none⟩)]]] R] [hK : MemF (KpF m kv) R] : Fn Try.prog 113 [stv s, .int .i64 days, .int .i64 0, .pointer (some ⟨x4, 0, none⟩), .pointer (some ⟨x6, 0, none⟩)] H R (fun v H' R' => ∃ t, Rz b.dsk n days s t ∧ v = stv t ∧ H' = H ∧ R' = R) :=
  c_raiseN b hok ab cb bd m n hn kv hkv x4 x6 days _ s 0 H R hs (Nat.zero_le _) (Nat.le_refl _)
theorem c_Clone (bk e n c : Nat) (l : List Int) (hn : n ≤ l.length) (hl : l.length ≤ 1000000) (H : Heap) (R : Facts) [hM : Mem1 bk (cel e (ints l)) H] :
    Fn Try.prog 114 [.slice (some ⟨bk, 0, none⟩) n c] H R (fun v H' R' => ∃ o : OSl 3 1 (irows (l.take n)), v = o.fs ∧ H' = o.G ++ H ∧ R' = R) := by
 refine fn_of Try.func114 rfl Try.ntmps114 rfl ?_
 refine sy_seq ?_
 refine sy_tx' [0] rfl ?_
 refine sp rfl (PE.assign rfl) rfl ?_
 refine sy_seq ?_
 refine sy_seq ?_
 refine sy_tx' [0, 1] rfl ?_
 refine sp rfl (PE.move rfl) rfl ?_
 refine sp rfl (PE.eqlNil isl40 rfl rfl) rfl ?_
 refine sy_condF rfl ?_
 refine sy_skip ?_
 refine sy_seq ?_
 refine sy_tx' [0, 1, 2, 3] rfl ?_
 refine bsl0 rfl sl40 rfl (fun o5 ho5 => ?_)
 refine sp rfl (PE.move rfl) rfl ?_
 refine apO o5 rfl ap40 rfl rfl (rowsI (n := n) (l := l) (e := e)) (by rw [irows_len, List.length_take]; omega) (by unfold onecells; rw [List.all_eq_true]; intro r hr; obtain ⟨x, _, rfl⟩ := List.mem_map.1 hr; rfl) (by rw [irows_len, List.length_take]; simp only [List.length_nil]; omega) rfl (fun o7 => ?_)
 refine sp rfl (PE.assign rfl) rfl ?_
 refine sy_ret ?_
 exact sy_return (vs := [_]) rfl (.cons (RV.tmp rfl) .nil) rfl ⟨o7.cast (List.nil_append _), rfl, rfl, rfl⟩ (fun _ h => h)
end Go.Proofs.Ytelegnmfhjfbaaa
