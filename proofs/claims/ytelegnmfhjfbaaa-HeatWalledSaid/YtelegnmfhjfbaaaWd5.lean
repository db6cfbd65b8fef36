/- Walks of the functions of the program, and the laws that join them: what the last theorem of this claim needs, in order. -/
import Derived.Test.YtelegnmfhjfbaaaWd4
namespace Go.Proofs.Ytelegnmfhjfbaaa
set_option linter.unusedSimpArgs false
set_option linter.unusedVariables false
open Go
structure FewC (d : Dsk) (s : HSt) (n c : Nat) : Prop where
  is : ∃ t, d.pth n s t c
  le : ∀ t c', d.pth n s t c' → c ≤ c'
structure Fsp (es : List (HSt × List Int)) (m : MW) : Prop where
  mem : ∀ t w, mget m t = some w → (t, w) ∈ es
  has : ∀ t w, (t, w) ∈ es → ∃ w', mget m t = some w' ∧ na w' 5 ≤ na w 5
theorem Fsp.nil : Fsp [] [] := ⟨fun t w h => (by cases h), fun t w h => (by cases h)⟩
theorem Fsp.add {es : List (HSt × List Int)} {m : MW} {e : HSt × List Int} (h : Fsp es m) (hz : ∀ f ∈ es, f.2 ≠ zw) : Fsp (es ++ [e]) (updW m e) := by
  obtain ⟨k, v⟩ := e
  have key : (updW m (k, v) = mput m k v ∧ ∀ w, mget m k = some w → na v 5 < na w 5) ∨ (updW m (k, v) = m ∧ ∃ w, mget m k = some w ∧ na w 5 ≤ na v 5) := by
    unfold updW
    dsimp only
    cases hk : mget m k with
    | none => exact .inl ⟨by rw [Option.getD_none, decide_eq_true rfl]; rfl, fun w h => by cases h⟩
    | some w0 =>
      have h0 : w0 ≠ zw := hz _ (h.mem _ _ hk)
      rw [Option.getD_some, decide_eq_false h0, Bool.false_or]
      by_cases h1 : na v 5 < na w0 5
      · rw [decide_eq_true h1]; exact .inl ⟨rfl, fun w hw => by cases hw; exact h1⟩
      · rw [decide_eq_false h1]; exact .inr ⟨rfl, w0, rfl, by omega⟩
  rcases key with ⟨e1, h1⟩ | ⟨e1, w0, h1, h2⟩
  · rw [e1]
    refine ⟨fun t w hw => ?_, fun t w hw => ?_⟩
    · rw [mget_mput] at hw
      by_cases hkt : k = t
      · rw [decide_eq_true hkt] at hw; cases hw; subst hkt; simp
      · rw [decide_eq_false hkt] at hw; exact List.mem_append_left _ (h.mem _ _ hw)
    · rw [mget_mput]
      by_cases hkt : k = t
      · subst hkt
        rw [decide_eq_true rfl]
        refine ⟨v, rfl, ?_⟩
        rcases List.mem_append.1 hw with h3 | h3
        · obtain ⟨w', h4, h5⟩ := h.has _ _ h3
          have := h1 _ h4
          omega
        · cases List.mem_singleton.1 h3; exact Int.le_refl _
      · rw [decide_eq_false hkt]
        rcases List.mem_append.1 hw with h3 | h3
        · exact h.has _ _ h3
        · cases List.mem_singleton.1 h3; exact absurd rfl hkt
  · rw [e1]
    refine ⟨fun t w hw => List.mem_append_left _ (h.mem _ _ hw), fun t w hw => ?_⟩
    rcases List.mem_append.1 hw with h3 | h3
    · exact h.has _ _ h3
    · cases List.mem_singleton.1 h3; exact ⟨w0, h1, h2⟩
def Bsp (m : MW) (D : List HSt) : Option (HSt × Int) → Prop
  | none => ∀ s ∈ D, mget m s = none
  | some p => p.1 ∈ D ∧ ∃ w, mget m p.1 = some w ∧ p.2 = na w 5 ∧ ∀ s ∈ D, ∀ w', mget m s = some w' → p.2 ≤ na w' 5
theorem Bsp.add {m : MW} {D : List HSt} {acc : Option (HSt × Int)} (h : Bsp m D acc) (s : HSt) : Bsp m (D ++ [s]) (bestS m acc s) := by
  unfold bestS
  cases hs : mget m s with
  | none =>
    dsimp only
    cases acc with
    | none => intro t ht; rcases List.mem_append.1 ht with h1 | h1; exact h t h1; rw [List.mem_singleton.1 h1]; exact hs
    | some p =>
      obtain ⟨h1, w, h2, h3, h4⟩ := h
      refine ⟨List.mem_append_left _ h1, w, h2, h3, fun t ht w' hw' => ?_⟩
      rcases List.mem_append.1 ht with h5 | h5
      · exact h4 t h5 w' hw'
      · rw [List.mem_singleton.1 h5, hs] at hw'; cases hw'
  | some w =>
    dsimp only
    cases acc with
    | none =>
      refine ⟨by simp, w, hs, rfl, fun t ht w' hw' => ?_⟩
      rcases List.mem_append.1 ht with h5 | h5
      · rw [h t h5] at hw'; cases hw'
      · rw [List.mem_singleton.1 h5, hs] at hw'; cases hw'; exact Int.le_refl _
    | some p =>
      obtain ⟨q, n⟩ := p
      obtain ⟨h1, w0, h2, h3, h4⟩ := h
      dsimp only at h1 h2 h3 h4 ⊢
      by_cases hlt : na w 5 < n
      · rw [decide_eq_true hlt, cond_true]
        refine ⟨by simp, w, hs, rfl, fun t ht w' hw' => ?_⟩
        dsimp only
        rcases List.mem_append.1 ht with h5 | h5
        · have := h4 t h5 w' hw'; omega
        · rw [List.mem_singleton.1 h5, hs] at hw'; cases hw'; exact Int.le_refl _
      · rw [decide_eq_false hlt, cond_false]
        refine ⟨List.mem_append_left _ h1, w0, h2, h3, fun t ht w' hw' => ?_⟩
        dsimp only
        rcases List.mem_append.1 ht with h5 | h5
        · exact h4 t h5 w' hw'
        · rw [List.mem_singleton.1 h5, hs] at hw'; cases hw'; omega
def Dsk.run (d : Dsk) : HSt → List (List Nat) → Option HSt
  | s, [] => some s
  | s, l :: p => match d.next s l with
    | none => none
    | some t => d.run t p
def turnsN (p : List (List Nat)) : Nat := (p.map List.length).sum
theorem turnsN_app (p q : List (List Nat)) : turnsN (p ++ q) = turnsN p + turnsN q := by unfold turnsN; rw [List.map_append, List.sum_append]
theorem Dsk.run_app (d : Dsk) : ∀ (p q : List (List Nat)) (s : HSt), d.run s (p ++ q) = match d.run s p with
    | none => none
    | some t => d.run t q
  | [], q, s => rfl
  | l :: p, q, s => by
    have e1 : ∀ r, d.run s (l :: r) = match d.next s l with
      | none => none
      | some t => d.run t r := fun r => rfl
    rw [List.cons_append, e1, e1]
    cases d.next s l with
    | none => rfl
    | some t => exact run_app d p q t
theorem Dsk.run_one (d : Dsk) (s : HSt) (l : List Nat) : d.run s [l] = d.next s l := by
  unfold Dsk.run
  cases d.next s l <;> rfl
theorem Dsk.pth_run {d : Dsk} : ∀ {n : Nat} {s t : HSt} {c : Nat}, d.pth n s t c → ∃ p, p.length = n ∧ (∀ l ∈ p, l ∈ d.trs false) ∧ d.run s p = some t ∧ turnsN p = c
  | 0, s, t, c, h => by obtain ⟨rfl, rfl⟩ := h; exact ⟨[], rfl, by simp, rfl, rfl⟩
  | n + 1, s, t, c, h => by
    obtain ⟨u, a, l, h1, h2, h3, rfl⟩ := h
    obtain ⟨p, i1, i2, i3, i4⟩ := pth_run h1
    refine ⟨p ++ [l], by simp [i1], fun k hk => ?_, by rw [d.run_app, i3]; dsimp only; rw [d.run_one]; exact h3, by rw [turnsN_app, i4]; rfl⟩
    rcases List.mem_append.1 hk with h4 | h4
    · exact i2 k h4
    · rw [List.mem_singleton.1 h4]; exact h2
def Barn.stw (b : Barn) (ws : List Int) : HSt := pad ((List.range b.bins.length).map fun k => b.days (b.bins.getD k hb0) (na ws k))
theorem Barn.stw_at {b : Barn} {ws : List Int} {k : Nat} (hk : k < b.bins.length) : na (b.stw ws) k = b.days (b.bins.getD k hb0) (na ws k) := by
  unfold Barn.stw
  rw [pad_na]
  unfold na
  rw [List.getD_eq_getElem?_getD, List.getElem?_map, List.getElem?_range hk]; rfl
theorem Barn.stw_out {b : Barn} {ws : List Int} {k : Nat} (hk : b.bins.length ≤ k) : na (b.stw ws) k = 0 := by
  unfold Barn.stw
  rw [pad_na]
  unfold na
  rw [List.getD_eq_getElem?_getD, List.getElem?_eq_none (by simpa using hk)]; rfl
theorem Barn.stw_len {b : Barn} (hb : b.ok) (ws : List Int) : (b.stw ws).length = 4 := pad_len' (by simpa using hb.many.2)
theorem Barn.state_at {b : Barn} (hb : b.ok) {k : Nat} (hk : k < b.bins.length) : na b.state k = b.days (b.bins.getD k hb0) (b.bins.getD k hb0).warm := by
  obtain ⟨x, hx⟩ : ∃ x, b.bins[k]? = some x := ⟨_, List.getElem?_eq_getElem hk⟩
  rw [bin_getD hx]
  exact na_at (b.map_get hb _ hx)
theorem Barn.lasts_at {b : Barn} (hb : b.ok) {k : Nat} (hk : k < b.bins.length) : na b.lasts k = b.days (b.bins.getD k hb0) b.cool := by
  obtain ⟨x, hx⟩ : ∃ x, b.bins[k]? = some x := ⟨_, List.getElem?_eq_getElem hk⟩
  rw [bin_getD hx]
  exact na_at (b.map_get hb _ hx)
theorem Barn.warms_at {b : Barn} {k : Nat} (hk : k < b.bins.length) : na b.warms k = (b.bins.getD k hb0).warm := by
  obtain ⟨x, hx⟩ : ∃ x, b.bins[k]? = some x := ⟨_, List.getElem?_eq_getElem hk⟩
  rw [bin_getD hx]
  unfold na Barn.warms
  rw [List.getD_eq_getElem?_getD, List.getElem?_map, hx]; rfl
theorem Barn.stw_warms {b : Barn} (hb : b.ok) : b.stw b.warms = b.state := ext4 (b.stw_len hb _) (b.state_sml hb).len fun k _ => by
  rcases Nat.lt_or_ge k b.bins.length with h | h
  · rw [Barn.stw_at h, Barn.state_at hb h, Barn.warms_at h]
  · rw [Barn.stw_out h]
    unfold Barn.state
    rw [pad_na]
    unfold na
    rw [List.getD_eq_getElem?_getD, List.getElem?_eq_none (by simpa using h)]; rfl
theorem daysB_anti {r m w v : Int} (hr : 0 ≤ r) (h : w ≤ v) : daysB r m v ≤ daysB r m w := by
  unfold daysB
  by_cases h0 : r = 0
  · rw [decide_eq_true h0]; exact Int.le_refl _
  · rw [decide_eq_false h0, cond_false, cond_false]
    by_cases h1 : m < v
    · rw [decide_eq_true h1, cond_true]
      by_cases h2 : m < w
      · rw [decide_eq_true h2]; exact Int.le_refl _
      · rw [decide_eq_false h2, cond_false]; exact Int.ediv_nonneg (by omega) hr
    · rw [decide_eq_false h1, cond_false, decide_eq_false (by omega), cond_false]
      exact Int.ediv_le_ediv (by omega) (by omega)
theorem daysB_min {r m w c : Int} (hr : 0 ≤ r) : max (daysB r m w) (daysB r m c) = daysB r m (min w c) := by
  rcases Int.le_total w c with h | h
  · have := daysB_anti (m := m) hr h
    rw [Int.min_eq_left h]; omega
  · have := daysB_anti (m := m) hr h
    rw [Int.min_eq_right h]; omega
theorem daysB_hot {r m w : Int} (hr : 0 < r) (hw : w ≤ m) (h : m < w + r) : daysB r m w = 0 := by
  unfold daysB
  rw [decide_eq_false (by omega), cond_false, decide_eq_false (by omega), cond_false]
  exact Int.ediv_eq_zero_of_lt (by omega) (by omega)
theorem daysB_day {r m w : Int} (hr : 0 < r) (h : w + r ≤ m) : daysB r m (w + r) = daysB r m w - 1 ∧ 1 ≤ daysB r m w := by
  have e : daysB r m w = daysB r m (w + r) + 1 := by
    unfold daysB
    rw [decide_eq_false (by omega), cond_false, cond_false, decide_eq_false (by omega), cond_false, decide_eq_false (by omega), cond_false]
    rw [show m - w = (m - (w + r)) + 1 * r by omega, Int.add_mul_ediv_right _ _ (by omega)]
  have : 0 ≤ daysB r m (w + r) := by
    unfold daysB
    rw [decide_eq_false (by omega), cond_false, decide_eq_false (by omega), cond_false]
    exact Int.ediv_nonneg (by omega) (by omega)
  omega
theorem has_il (l : List Nat) (k : Nat) : hasI (il l) (k : Int) = decide (k ∈ l) := by
  rw [Bool.eq_iff_iff, decide_eq_true_eq]
  unfold hasI il
  rw [List.any_eq_true]
  constructor
  · rintro ⟨y, hy, he⟩
    obtain ⟨j, hj, rfl⟩ := List.mem_map.1 hy
    have := of_decide_eq_true he
    obtain rfl : k = j := by omega
    exact hj
  · intro h; exact ⟨(k : Int), List.mem_map.2 ⟨k, h, rfl⟩, decide_eq_true rfl⟩
theorem Barn.bin_at {b : Barn} (hb : b.ok) {k : Nat} (hk : k < b.bins.length) : b.bins.getD k hb0 ∈ b.bins := by
  rw [List.getD_eq_getElem?_getD, List.getElem?_eq_getElem hk]; exact List.getElem_mem hk
theorem Barn.mid_of {b : Barn} (hb : b.ok) {ws : List Int} (l : List Nat) {k : Nat} (hk : k < b.bins.length) : b.dsk.mid (b.stw ws) l k = b.days (b.bins.getD k hb0) (bif hasI (il l) k then min (na ws k) b.cool else na ws k) := by
  have hr := b.worst_range hb (Barn.bin_at hb hk)
  unfold Dsk.mid
  rw [has_il, Barn.stw_at hk, show na b.dsk.lasts k = _ from Barn.lasts_at hb hk]
  by_cases h : k ∈ l
  · rw [if_pos h, decide_eq_true h, cond_true]; exact daysB_min (by omega)
  · rw [if_neg h, decide_eq_false h, cond_false]
theorem Barn.run_day {b : Barn} (hb : b.ok) {ws : List Int} (hw : Cool b ws) {l : List Nat} (hl : ∀ k ∈ l, k < b.bins.length) :
    ((∀ k < b.bins.length, b.hotAt ws (il l) k = false) → b.dsk.next (b.stw ws) l = some (b.stw (b.dayW ws (il l)))) ∧ (∀ k < b.bins.length, b.hotAt ws (il l) k = true → b.dsk.next (b.stw ws) l = none) := by
  have hn := hb.many
  have key : ∀ k < b.bins.length, ∃ r m v, (r = 0 ∨ 6 ≤ r) ∧ v ≤ m ∧ m ≤ 60 ∧ 0 ≤ v ∧ b.dsk.mid (b.stw ws) l k = daysB r m v ∧ (b.hotAt ws (il l) k = decide (m < v + r)) ∧ na (b.stw (b.dayW ws (il l))) k = daysB r m (v + r) := fun k hk => by
    have hm := Barn.bin_at hb hk
    have hr := b.worst_range hb hm
    obtain ⟨x, hx⟩ : ∃ x, b.bins[k]? = some x := ⟨_, List.getElem?_eq_getElem hk⟩
    have hc := hw.at_ k x hx
    have hcl := hb.cool
    have hmk := (hb.bins x (List.mem_of_getElem? hx)).1
    have e1 := Barn.mid_of hb (ws := ws) l hk
    rw [bin_getD hx] at e1 hr
    refine ⟨b.worst x, x.mark, bif hasI (il l) k then min (na ws k) b.cool else na ws k, by omega, ?_, by omega, ?_, e1, ?_, ?_⟩
    · cases hasI (il l) k <;> simp only [cond_true, cond_false] <;> omega
    · cases hasI (il l) k <;> simp only [cond_true, cond_false] <;> omega
    · unfold Barn.hotAt; rw [bin_getD hx, b.wdAt_of hx]; rfl
    · rw [Barn.stw_at hk, na_at (b.dayW_at hk), b.wdAt_of hx, bin_getD hx]; rfl
  constructor
  · intro hcold
    obtain ⟨t, ht⟩ := b.dsk.next_some hn.2 (b.stw_len hb ws) hl (fun k hk => by
      obtain ⟨r, m, v, h1, h2, h3, h4, h5, h6, h7⟩ := key k hk
      rw [h5]
      rcases h1 with rfl | h1
      · exact .inl rfl
      · have h8 := hcold k hk
        rw [h6, decide_eq_false_iff_not] at h8
        exact .inr (daysB_day (by omega) (by omega)).2)
    rw [ht]
    congr 1
    obtain ⟨t1, t2⟩ := b.dsk.next_at hn.2 (b.stw_len hb ws) hl ht
    refine ext4 t1 (b.stw_len hb _) fun k _ => ?_
    rw [(t2 k).2]
    rcases Nat.lt_or_ge k b.bins.length with hk | hk
    · obtain ⟨r, m, v, h1, h2, h3, h4, h5, h6, h7⟩ := key k hk
      rw [h7, h5]
      rcases h1 with rfl | h1
      · rw [if_neg (by intro h; exact h.2 rfl)]; rfl
      · have h8 := hcold k hk
        rw [h6, decide_eq_false_iff_not] at h8
        have h9 := daysB_day (r := r) (m := m) (w := v) (by omega) (by omega)
        have h10 : daysB r m v ≤ 60 := by
          unfold daysB
          rw [decide_eq_false (by omega), cond_false, decide_eq_false (by omega), cond_false]
          exact Int.le_trans (Int.ediv_le_self _ (by omega)) (by omega)
        rw [if_pos ⟨hk, by omega⟩, h9.1]
    · rw [if_neg (by intro h; have : k < b.bins.length := h.1; omega), Barn.stw_out hk]
      unfold Dsk.mid
      rw [if_neg (fun h => by have := hl k h; omega), Barn.stw_out hk]
  · intro k hk hhot
    cases hnx : b.dsk.next (b.stw ws) l with
    | none => rfl
    | some t =>
      exfalso
      have h8 := ((b.dsk.next_at hn.2 (b.stw_len hb ws) hl hnx).2 k).1 hk
      obtain ⟨r, m, v, h1, h2, h3, h4, h5, h6, h7⟩ := key k hk
      rw [h6, decide_eq_true_eq] at hhot
      have h9 := daysB_hot (r := r) (m := m) (w := v) (by omega) h2 hhot
      rw [h5, h9] at h8
      omega
theorem Barn.run_burns {b : Barn} (hb : b.ok) : ∀ (p : List (List Nat)) (ws : List Int) (d0 : Nat), Cool b ws → (∀ l ∈ p, ∀ k ∈ l, k < b.bins.length) →
    (∃ ws', b.burnsF ws (p.map il) d0 = (none, ws') ∧ b.dsk.run (b.stw ws) p = some (b.stw ws') ∧ Cool b ws') ∨ (∃ q ws', b.burnsF ws (p.map il) d0 = (some q, ws') ∧ b.dsk.run (b.stw ws) p = none)
  | [], ws, d0, hc, _ => .inl ⟨ws, rfl, rfl, hc⟩
  | l :: p, ws, d0, hc, hl => by
    obtain ⟨r1, r2⟩ := Barn.run_day hb hc (hl l (by simp))
    rw [List.map_cons, b.burns_cons]
    cases hf : (List.range b.bins.length).find? (b.hotAt ws (il l)) with
    | some k =>
      rw [List.find?_range_eq_some] at hf
      refine .inr ⟨_, _, rfl, ?_⟩
      unfold Dsk.run
      rw [r2 k (List.mem_range.1 hf.2.1) hf.1]
    | none =>
      have hn : ∀ k < b.bins.length, b.hotAt ws (il l) k = false := fun k hk => by
        have := List.find?_eq_none.1 hf k (List.mem_range.2 hk)
        simpa using this
      dsimp only
      unfold Dsk.run
      rw [r1 hn]
      exact run_burns hb p _ (d0 + 1) (hc.next hb hn) (fun m hm => hl m (by simp [hm]))
theorem Dsk.trs_four {d : Dsk} (hd : d.ok) {l : List Nat} (h : l ∈ d.trs false) : l.length ≤ 4 := trs_len4 hd h
theorem Dsk.pth_le {d : Dsk} (hd : d.ok) : ∀ {n : Nat} {s t : HSt} {c : Nat}, d.pth n s t c → c ≤ 4 * n
  | 0, s, t, c, h => by obtain ⟨_, rfl⟩ := h; omega
  | n + 1, s, t, c, h => by
    obtain ⟨u, a, l, h1, h2, _, rfl⟩ := h
    have := pth_le hd h1
    have := d.trs_four hd h2
    omega
def Sxc (n : Nat) (g : Int) (la : List Int) (now : List (List Int)) (cs : List Int) (i u : Nat) (t : List Int) (x : Int) : Prop := ∃ j s v a, now[j]? = some s ∧ cs[j]? = some a ∧ (j < i ∨ (j = i ∧ v < u)) ∧ v < 2 ^ n ∧ rS n g la s v = some t ∧ x = a + ((bitl 4 v).length : Int)
theorem Sxc.sx {n : Nat} {g : Int} {la : List Int} {now : List (List Int)} {cs : List Int} {i u : Nat} {t : List Int} {x : Int} (h : Sxc n g la now cs i u t x) : Sx n g la now i u t := by
  obtain ⟨j, s, v, a, h1, _, h3, h4, h5, _⟩ := h
  exact ⟨j, s, v, h1, h3, h4, h5⟩
theorem Sxc.step {n : Nat} {g : Int} {la s t : List Int} {now : List (List Int)} {cs : List Int} {i u : Nat} {a x : Int} (hs : now[i]? = some s) (ha : cs[i]? = some a) (hu : u < 2 ^ n) : Sxc n g la now cs i (u + 1) t x ↔ Sxc n g la now cs i u t x ∨ (rS n g la s u = some t ∧ x = a + ((bitl 4 u).length : Int)) := by
  constructor
  · rintro ⟨j, s', v, a', h1, h2, h3, h4, h5, h6⟩
    rcases h3 with h3 | ⟨rfl, h3⟩
    · exact .inl ⟨j, s', v, a', h1, h2, .inl h3, h4, h5, h6⟩
    · rcases Nat.lt_or_ge v u with h7 | h7
      · exact .inl ⟨j, s', v, a', h1, h2, .inr ⟨rfl, h7⟩, h4, h5, h6⟩
      · obtain rfl : v = u := by omega
        rw [hs] at h1; cases h1; rw [ha] at h2; cases h2; exact .inr ⟨h5, h6⟩
  · rintro (⟨j, s', v, a', h1, h2, h3, h4, h5, h6⟩ | ⟨h5, h6⟩)
    · exact ⟨j, s', v, a', h1, h2, by omega, h4, h5, h6⟩
    · exact ⟨i, s, u, a, hs, ha, by omega, hu, h5, h6⟩
theorem Sxc.next {n : Nat} {g : Int} {la t : List Int} {now : List (List Int)} {cs : List Int} {i : Nat} {x : Int} : Sxc n g la now cs (i + 1) 0 t x ↔ Sxc n g la now cs i (2 ^ n) t x := by
  constructor
  · rintro ⟨j, s', v, a, h1, h2, h3, h4, h5⟩
    exact ⟨j, s', v, a, h1, h2, by omega, h4, h5⟩
  · rintro ⟨j, s', v, a, h1, h2, h3, h4, h5⟩
    exact ⟨j, s', v, a, h1, h2, by omega, h4, h5⟩
structure Bc (n : Nat) (g : Int) (la : List Int) (now : List (List Int)) (cs : List Int) (i u : Nat) (L : List (List Int)) (S : List Int) : Prop where
  bf : Bf n g la now i u L
  len : S.length = L.length
  val : ∀ (j : Nat) (t : List Int) (x : Int), L[j]? = some t → S[j]? = some x → Sxc n g la now cs i u t x ∧ ∀ y, Sxc n g la now cs i u t y → x ≤ y
theorem Bc.start {n : Nat} {g : Int} {la : List Int} {now : List (List Int)} {cs : List Int} : Bc n g la now cs 0 0 [] [] := ⟨Bf.start, rfl, fun j t x h => by simp at h⟩
theorem Bc.next {n : Nat} {g : Int} {la : List Int} {now : List (List Int)} {cs : List Int} {i : Nat} {L : List (List Int)} {S : List Int} (h : Bc n g la now cs i (2 ^ n) L S) : Bc n g la now cs (i + 1) 0 L S :=
  ⟨h.bf.next, h.len, fun j t x h1 h2 => by
    obtain ⟨h3, h4⟩ := h.val j t x h1 h2
    exact ⟨Sxc.next.2 h3, fun y hy => h4 y (Sxc.next.1 hy)⟩⟩
theorem Bc.skip {n : Nat} {g : Int} {la s : List Int} {now : List (List Int)} {cs : List Int} {i u : Nat} {L : List (List Int)} {S : List Int} {a : Int} (h : Bc n g la now cs i u L S) (hs : now[i]? = some s) (ha : cs[i]? = some a) (hu : u < 2 ^ n) (hn : rS n g la s u = none) : Bc n g la now cs i (u + 1) L S :=
  ⟨h.bf.skip hs hu (fun t ht => by rw [hn] at ht; cases ht), h.len, fun j t x h1 h2 => by
    obtain ⟨h3, h4⟩ := h.val j t x h1 h2
    refine ⟨(Sxc.step hs ha hu).2 (.inl h3), fun y hy => ?_⟩
    rcases (Sxc.step hs ha hu).1 hy with h5 | ⟨h5, _⟩
    · exact h4 y h5
    · rw [hn] at h5; cases h5⟩
theorem Bc.add {n : Nat} {g : Int} {la s t : List Int} {now : List (List Int)} {cs : List Int} {i u : Nat} {L : List (List Int)} {S : List Int} {a : Int} (h : Bc n g la now cs i u L S) (hs : now[i]? = some s) (ha : cs[i]? = some a) (hu : u < 2 ^ n) (ht : rS n g la s u = some t) (hn : t ∉ L) :
    Bc n g la now cs i (u + 1) (L ++ [t]) (S ++ [a + ((bitl 4 u).length : Int)]) where
  bf := h.bf.add hs hu ht hn
  len := by rw [List.length_append, List.length_append, h.len]; rfl
  val j t' x h1 h2 := by
    have hl := h.len
    rcases Nat.lt_or_ge j L.length with hj | hj
    · rw [List.getElem?_append_left hj] at h1
      rw [List.getElem?_append_left (by omega)] at h2
      obtain ⟨h3, h4⟩ := h.val j t' x h1 h2
      refine ⟨(Sxc.step hs ha hu).2 (.inl h3), fun y hy => ?_⟩
      rcases (Sxc.step hs ha hu).1 hy with h5 | ⟨h5, _⟩
      · exact h4 y h5
      · rw [ht] at h5; cases h5; exact absurd (List.mem_of_getElem? h1) hn
    · have hj2 := (List.getElem?_eq_some_iff.1 h1).1
      rw [List.length_append, List.length_singleton] at hj2
      obtain rfl : j = L.length := by omega
      rw [List.getElem?_append_right (Nat.le_refl _), Nat.sub_self] at h1
      rw [← hl, List.getElem?_append_right (Nat.le_refl _), Nat.sub_self] at h2
      cases h1; cases h2
      refine ⟨(Sxc.step hs ha hu).2 (.inr ⟨ht, rfl⟩), fun y hy => ?_⟩
      rcases (Sxc.step hs ha hu).1 hy with h5 | ⟨_, h5⟩
      · exact absurd ((h.bf.mem _).2 h5.sx) hn
      · rw [h5]; exact Int.le_refl _
theorem Bc.low {n : Nat} {g : Int} {la s t : List Int} {now : List (List Int)} {cs : List Int} {i u k : Nat} {L : List (List Int)} {S : List Int} {a x : Int} (h : Bc n g la now cs i u L S) (hs : now[i]? = some s) (ha : cs[i]? = some a) (hu : u < 2 ^ n) (ht : rS n g la s u = some t) (hk : L[k]? = some t) (hx : S[k]? = some x) :
    Bc n g la now cs i (u + 1) L (S.set k (min x (a + ((bitl 4 u).length : Int)))) where
  bf := h.bf.skip hs hu (fun t2 ht2 => by rw [ht] at ht2; cases ht2; exact List.mem_of_getElem? hk)
  len := by rw [List.length_set, h.len]
  val j t' y h1 h2 := by
    have hl := h.len
    have hkl := (List.getElem?_eq_some_iff.1 hk).1
    by_cases hj : k = j
    · subst hj
      rw [hk] at h1; cases h1
      rw [List.getElem?_set_self (by omega)] at h2; cases h2
      obtain ⟨h3, h4⟩ := h.val k t x hk hx
      refine ⟨(Sxc.step hs ha hu).2 ?_, fun y hy => ?_⟩
      · rcases Int.le_total x (a + ((bitl 4 u).length : Int)) with h5 | h5
        · rw [Int.min_eq_left h5]; exact .inl h3
        · rw [Int.min_eq_right h5]; exact .inr ⟨ht, rfl⟩
      · rcases (Sxc.step hs ha hu).1 hy with h5 | ⟨_, h5⟩
        · have := h4 y h5; omega
        · omega
    · rw [List.getElem?_set_ne hj] at h2
      obtain ⟨h3, h4⟩ := h.val j t' y h1 h2
      refine ⟨(Sxc.step hs ha hu).2 (.inl h3), fun z hz => ?_⟩
      rcases (Sxc.step hs ha hu).1 hz with h5 | ⟨h5, _⟩
      · exact h4 z h5
      · rw [ht] at h5; cases h5
        exact absurd ((List.getElem?_inj hkl h.bf.nd).1 (hk.trans h1.symm)) hj
structure Lvc (d : Dsk) (s0 : HSt) (day : Nat) (L : List (List Int)) (C : List Int) : Prop where
  lv : Lv d s0 day L
  len : C.length = L.length
  val : ∀ (j : Nat) (t : List Int) (x : Int), L[j]? = some t → C[j]? = some x → ∃ c : Nat, x = c ∧ d.pth day s0 (pad t) c ∧ ∀ c', d.pth day s0 (pad t) c' → c ≤ c'
theorem Lvc.start {d : Dsk} {s : List Int} (hs : s.length = d.n) : Lvc d (pad s) 0 [s] [0] := ⟨Lv.start hs, rfl, fun j t x h1 h2 => by
  cases j with
  | succ j => simp at h1
  | zero => cases h1; cases h2; exact ⟨0, rfl, ⟨rfl, rfl⟩, fun c' _ => Nat.zero_le _⟩⟩
theorem Lvc.next {d : Dsk} (hd : d.ok) {s0 : HSt} (h0 : d.inS s0) {la : List Int} (hla : ∀ k < d.n, na la k = na d.lasts k) {day : Nat} {now L : List (List Int)} {cs S : List Int} (h : Lvc d s0 day now cs) (hb : Bc d.n d.gangs la now cs now.length 0 L S) : Lvc d s0 (day + 1) L S where
  lv := h.lv.next hd h0 hla hb.bf
  len := hb.len
  val j t x h1 h2 := by
    have hn := hd.n
    have htl := hb.bf.len t (List.mem_of_getElem? h1)
    obtain ⟨⟨i, s, v, a, g1, g2, _, g4, g5, rfl⟩, h4⟩ := hb.val j t x h1 h2
    obtain ⟨ca, rfl, hp, _⟩ := h.val i s a g1 g2
    have hsl := h.lv.len s (List.mem_of_getElem? g1)
    obtain ⟨k1, k2⟩ := (rS_iff hd hla hsl htl g4).1 g5
    have e4 := ones_eq hn.2 g4
    refine ⟨ca + (bitl d.n v).length, by rw [e4]; push_cast; rfl, ⟨_, ca, _, hp, k1, k2, rfl⟩, fun c' hc' => ?_⟩
    obtain ⟨u, a', l, p1, p2, p3, rfl⟩ := hc'
    have hu := d.pth_inS hd h0 p1
    have eu := inS_pad hd hu
    have hul : (u.take d.n).length = d.n := by rw [List.length_take, hu.len]; omega
    have hmem : u.take d.n ∈ now := (h.lv.mem _ hul).2 ⟨a', by rw [eu]; exact p1⟩
    obtain ⟨i2, hi2⟩ := List.getElem?_of_mem hmem
    have hi2l := (List.getElem?_eq_some_iff.1 hi2).1
    obtain ⟨y, hy⟩ : ∃ y, cs[i2]? = some y := ⟨_, List.getElem?_eq_getElem (by rw [h.len]; exact hi2l)⟩
    obtain ⟨cy, rfl, _, hmin⟩ := h.val i2 _ y hi2 hy
    rw [eu] at hmin
    have := hmin a' p1
    obtain ⟨w, hw, rfl, _⟩ := d.mem_trs.1 p2
    have e5 := ones_eq hn.2 hw
    have := h4 _ ⟨i2, _, w, _, hi2, hy, .inl hi2l, hw, (rS_iff hd hla hul htl hw).2 ⟨p2, by rw [eu]; exact p3⟩, rfl⟩
    omega
theorem Lvc.few {d : Dsk} (hd : d.ok) {s0 : HSt} (h0 : d.inS s0) {day : Nat} {L : List (List Int)} {C : List Int} (h : Lvc d s0 day L C) {j : Nat} {x : Int} (hx : C[j]? = some x) (hm : ∀ (i : Nat) (y : Int), C[i]? = some y → x ≤ y) : ∃ c : Nat, x = c ∧ FewC d s0 day c := by
  have hj := (List.getElem?_eq_some_iff.1 hx).1
  have hl := h.len
  obtain ⟨t, ht⟩ : ∃ t, L[j]? = some t := ⟨_, List.getElem?_eq_getElem (by omega)⟩
  obtain ⟨c, rfl, hp, _⟩ := h.val j t x ht hx
  refine ⟨c, rfl, ⟨_, hp⟩, fun u c' hu => ?_⟩
  have hi := d.pth_inS hd h0 hu
  have eu := inS_pad hd hi
  have hn := hd.n
  have hmem : u.take d.n ∈ L := (h.lv.mem _ (by rw [List.length_take, hi.len]; omega)).2 ⟨c', by rw [eu]; exact hu⟩
  obtain ⟨i2, hi2⟩ := List.getElem?_of_mem hmem
  have hi2l := (List.getElem?_eq_some_iff.1 hi2).1
  obtain ⟨y, hy⟩ : ∃ y, C[i2]? = some y := ⟨_, List.getElem?_eq_getElem (by omega)⟩
  obtain ⟨cy, rfl, _, hmin⟩ := h.val i2 _ y hi2 hy
  rw [eu] at hmin
  have := hmin c' hu
  have := hm i2 _ hy
  omega
theorem Lvc.none {d : Dsk} (hd : d.ok) {s0 : HSt} (h0 : d.inS s0) {day : Nat} {L : List (List Int)} {C : List Int} (h : Lvc d s0 day L C) (hc : C = []) : ¬ ∃ t c, d.pth day s0 t c := by
  rintro ⟨u, c', hu⟩
  have hi := d.pth_inS hd h0 hu
  have eu := inS_pad hd hi
  have hn := hd.n
  have hmem : u.take d.n ∈ L := (h.lv.mem _ (by rw [List.length_take, hi.len]; omega)).2 ⟨c', by rw [eu]; exact hu⟩
  have hl := h.len
  rw [hc] at hl
  rw [List.length_eq_zero_iff.1 hl.symm] at hmem
  cases hmem
theorem Lvc.bd {d : Dsk} (hd : d.ok) {s0 : HSt} {day : Nat} {L : List (List Int)} {C : List Int} (h : Lvc d s0 day L C) {j : Nat} {x : Int} (hx : C[j]? = some x) : 0 ≤ x ∧ x ≤ 4 * (day : Int) := by
  have hj := (List.getElem?_eq_some_iff.1 hx).1
  have hl := h.len
  obtain ⟨t, ht⟩ : ∃ t, L[j]? = some t := ⟨_, List.getElem?_eq_getElem (by omega)⟩
  obtain ⟨c, rfl, hp, _⟩ := h.val j t x ht hx
  have := d.pth_le hd hp
  omega
theorem Bc.bd {n : Nat} {g : Int} {la : List Int} {now : List (List Int)} {cs : List Int} {i u : Nat} {L : List (List Int)} {S : List Int} {B : Int} (h : Bc n g la now cs i u L S) (hc : ∀ (j : Nat) (x : Int), cs[j]? = some x → 0 ≤ x ∧ x ≤ B) {j : Nat} {x : Int} (hx : S[j]? = some x) : 0 ≤ x ∧ x ≤ B + 4 := by
  have hj := (List.getElem?_eq_some_iff.1 hx).1
  have hl := h.len
  obtain ⟨t, ht⟩ : ∃ t, L[j]? = some t := ⟨_, List.getElem?_eq_getElem (by omega)⟩
  obtain ⟨⟨i, s, v, a, _, g2, _, _, _, rfl⟩, _⟩ := h.val j t x ht hx
  have := hc _ _ g2
  have := ones_le v
  omega
def RTurn (b : Barn) (n : Nat) (m : Int) : Prop := (m = -1 ∧ ¬ ∃ t c, b.dsk.pth n b.state t c) ∨ ∃ c : Nat, m = c ∧ FewC b.dsk b.state n c
def MinI (cs : List Int) (i : Nat) (m : Int) : Prop := (i = 0 ∧ m = -1) ∨ (0 < i ∧ 0 ≤ m ∧ (∃ j : Nat, cs[j]? = some m) ∧ ∀ (j : Nat) (x : Int), j < i → cs[j]? = some x → m ≤ x)
theorem MinI.take {cs : List Int} {i : Nat} {m x : Int} (h : MinI cs i m) (hx : cs[i]? = some x) (h0 : 0 ≤ x) (hc : m < 0 ∨ x < m) : MinI cs (i + 1) x := by
  refine .inr ⟨by omega, h0, ⟨i, hx⟩, fun j y hj hy => ?_⟩
  rcases Nat.lt_or_ge j i with h1 | h1
  · rcases h with ⟨rfl, _⟩ | ⟨_, h2, _, h3⟩
    · omega
    · have := h3 j y h1 hy; omega
  · obtain rfl : j = i := by omega
    rw [hx] at hy; cases hy; exact Int.le_refl _
theorem MinI.keep {cs : List Int} {i : Nat} {m x : Int} (h : MinI cs i m) (hx : cs[i]? = some x) (h0 : ¬ m < 0) (hc : ¬ x < m) : MinI cs (i + 1) m := by
  rcases h with ⟨_, rfl⟩ | ⟨h1, h2, h3, h4⟩
  · omega
  · refine .inr ⟨by omega, h2, h3, fun j y hj hy => ?_⟩
    rcases Nat.lt_or_ge j i with h5 | h5
    · exact h4 j y h5 hy
    · obtain rfl : j = i := by omega
      rw [hx] at hy; cases hy; omega
theorem MinI.done {b : Barn} (hok : b.ok) {n : Nat} {L : List (List Int)} {cs : List Int} (h : Lvc b.dsk b.state n L cs) {m : Int} (hm : MinI cs cs.length m) : RTurn b n m := by
  have hdk := b.dsk_ok hok
  have hst := b.state_inS hok
  rcases hm with ⟨h1, rfl⟩ | ⟨_, _, ⟨j, hj⟩, h4⟩
  · exact .inl ⟨rfl, h.none hdk hst (List.length_eq_zero_iff.1 h1)⟩
  · exact .inr (h.few hdk hst hj fun i y hy => h4 i y (List.getElem?_eq_some_iff.1 hy).1 hy)
end Go.Proofs.Ytelegnmfhjfbaaa
namespace Go.Proofs.Ytelegnmfhjfbaaa
set_option linter.unusedSimpArgs false
set_option linter.unusedVariables false
open Go
structure Les (d d' : Dsk) : Prop where
  n : d.n = d'.n
  g : d.gangs ≤ d'.gangs
  lasts : ∀ k < d.n, na d.lasts k ≤ na d'.lasts k
theorem Les.next {d d' : Dsk} (h : Les d d') (hd : d.ok) (hd' : d'.ok) {s s' t : HSt} (hs : d.inS s) (hs' : d'.inS s') (hle : ∀ k < d.n, na s k ≤ na s' k) {l : List Nat} (hl : ∀ k ∈ l, k < d.n) (e : d.next s l = some t) : ∃ t', d'.next s' l = some t' ∧ ∀ k < d.n, na t k ≤ na t' k := by
  have hn := h.n
  obtain ⟨_, h2⟩ := d.next_at hd.n.2 hs.len hl e
  have hl' : ∀ k ∈ l, k < d'.n := fun k hk => by have := hl k hk; omega
  have hm : ∀ k < d.n, d.mid s l k ≤ d'.mid s' l k := fun k hk => by
    have h4 := hle k hk
    have h5 := h.lasts k hk
    unfold Dsk.mid
    by_cases h3 : k ∈ l
    · rw [if_pos h3, if_pos h3]; omega
    · rw [if_neg h3, if_neg h3]; exact h4
  obtain ⟨t', ht'⟩ := d'.next_some hd'.n.2 hs'.len hl' (fun k hk => by
    have hk0 : k < d.n := by omega
    have := hm k hk0; have := (h2 k).1 hk0; have := d.inS_mid hd hs l hk0; have := d'.inS_mid hd' hs' l hk; have := (hd.ever k hk0).2.1; have := (hd'.ever k hk).2.1; omega)
  refine ⟨t', ht', fun k hk => ?_⟩
  have hk' : k < d'.n := by omega
  obtain ⟨_, h3⟩ := d'.next_at hd'.n.2 hs'.len hl' ht'
  have a1 := (h2 k).2; have a2 := (h3 k).2
  have := hm k hk
  have b1 := d.inS_mid hd hs l hk; have b2 := d'.inS_mid hd' hs' l hk'
  have := (hd.ever k hk).2.1; have := (hd'.ever k hk').2.1
  rw [a1, a2]
  split <;> split <;> omega
theorem Les.trs {d d' : Dsk} (h : Les d d') {l : List Nat} (hl : l ∈ d.trs false) : l ∈ d'.trs false := by
  obtain ⟨u, hu, rfl, h1, _⟩ := d.mem_trs.1 hl
  have hn := h.n; have hg := h.g
  refine d'.mem_trs.2 ⟨u, by rw [← hn]; exact hu, by rw [← hn], ?_, fun h => by cases h⟩
  unfold Dsk.g at h1 ⊢
  omega
theorem Les.pth {d d' : Dsk} (h : Les d d') (hd : d.ok) (hd' : d'.ok) {s s' : HSt} (hs : d.inS s) (hs' : d'.inS s') (hle : ∀ k < d.n, na s k ≤ na s' k) : ∀ {n : Nat} {t : HSt} {c : Nat}, d.pth n s t c → ∃ t', d'.pth n s' t' c ∧ ∀ k < d.n, na t k ≤ na t' k
  | 0, t, c, hp => by obtain ⟨rfl, rfl⟩ := hp; exact ⟨s', ⟨rfl, rfl⟩, hle⟩
  | n + 1, t, c, hp => by
    obtain ⟨u, a, l, h1, h2, h3, rfl⟩ := hp
    obtain ⟨u', i1, i2⟩ := Les.pth h hd hd' hs hs' hle h1
    obtain ⟨t', j1, j2⟩ := h.next hd hd' (d.pth_inS hd hs h1) (d'.pth_inS hd' hs' i1) i2 (d.trs_lt h2) h3
    exact ⟨t', ⟨u', a, l, i1, h.trs h2, j1, rfl⟩, j2⟩
theorem Les.run {d d' : Dsk} (h : Les d d') (hd : d.ok) (hd' : d'.ok) : ∀ {p : List (List Nat)} {s s' t : HSt}, d.inS s → d'.inS s' → (∀ k < d.n, na s k ≤ na s' k) → (∀ l ∈ p, l ∈ d.trs false) → d.run s p = some t → ∃ t', d'.run s' p = some t' ∧ ∀ k < d.n, na t k ≤ na t' k
  | [], s, s', t, _, _, hle, _, hr => by cases hr; exact ⟨s', rfl, hle⟩
  | l :: p, s, s', t, hs, hs', hle, hp, hr => by
    unfold Dsk.run at hr
    split at hr
    · cases hr
    · rename_i u hu
      obtain ⟨u', j1, j2⟩ := h.next hd hd' hs hs' hle (d.trs_lt (hp l (by simp))) hu
      have hlt := d'.trs_lt (h.trs (hp l (by simp)))
      obtain ⟨t', i1, i2⟩ := Les.run h hd hd' (d.next_inS hd hs (d.trs_lt (hp l (by simp))) hu) (d'.next_inS hd' hs' hlt j1) j2 (fun m hm => hp m (by simp [hm])) hr
      refine ⟨t', ?_, i2⟩
      unfold Dsk.run
      rw [j1]; exact i1
theorem kpt_pth {d : Dsk} (hd : d.ok) {s : HSt} (hs : d.inS s) {v : Int} (h : Kpt d s v) (n : Nat) : (∃ t c, d.pth n s t c) ↔ v = 1000000 ∨ (n : Int) ≤ v := by
  rw [← d.alive_iff hd hs]
  rcases h with ⟨rfl, h1⟩ | ⟨j, hj, rfl, h1, h2⟩
  · exact ⟨fun _ => .inl rfl, fun _ => h1 n⟩
  · constructor
    · intro h3
      right
      rcases Nat.lt_or_ge j n with h4 | h4
      · exact absurd (d.alive_le (by omega) h3) h2
      · omega
    · rintro (h3 | h3)
      · omega
      · exact d.alive_le (by omega) h1
theorem kpt_nn {d : Dsk} {s : HSt} {v : Int} (h : Kpt d s v) : 0 ≤ v ∧ (v = 1000000 ∨ v ≤ 14641) := by
  rcases h with ⟨rfl, _⟩ | ⟨j, hj, rfl, _⟩ <;> omega
theorem kpt_le {d d' : Dsk} (hd : d.ok) (hd' : d'.ok) {s s' : HSt} (hs : d.inS s) (hs' : d'.inS s') (hp : ∀ n, (∃ t c, d.pth n s t c) → ∃ t c, d'.pth n s' t c) {v v' : Int} (h : Kpt d s v) (h' : Kpt d' s' v') : v ≤ v' ∧ (v = 1000000 → v' = 1000000) := by
  have n1 := kpt_nn h; have n2 := kpt_nn h'
  have key : ∀ n : Nat, (v = 1000000 ∨ (n : Int) ≤ v) → (v' = 1000000 ∨ (n : Int) ≤ v') := fun n hn => (kpt_pth hd' hs' h' n).1 (hp n ((kpt_pth hd hs h n).2 hn))
  rcases Int.lt_or_le v' 1000000 with h1 | h1
  · have h2 := key (v'.toNat + 1)
    have h3 := key v.toNat
    omega
  · omega
theorem Les.kpt {d d' : Dsk} (h : Les d d') (hd : d.ok) (hd' : d'.ok) {s s' : HSt} (hs : d.inS s) (hs' : d'.inS s') (hle : ∀ k < d.n, na s k ≤ na s' k) {v v' : Int} (hv : Kpt d s v) (hv' : Kpt d' s' v') : v ≤ v' ∧ (v = 1000000 → v' = 1000000) :=
  kpt_le hd hd' hs hs' (fun _ ⟨_, c, hp⟩ => by obtain ⟨t', i, _⟩ := h.pth hd hd' hs hs' hle hp; exact ⟨t', c, i⟩) hv hv'
theorem Les.few {d d' : Dsk} (h : Les d d') (hd : d.ok) (hd' : d'.ok) {s s' : HSt} (hs : d.inS s) (hs' : d'.inS s') (hle : ∀ k < d.n, na s k ≤ na s' k) {n c c' : Nat} (hc : FewC d s n c) (hc' : FewC d' s' n c') : c' ≤ c := by
  obtain ⟨t, ht⟩ := hc.is
  obtain ⟨t', i, _⟩ := h.pth hd hd' hs hs' hle ht
  exact hc'.le _ _ i
end Go.Proofs.Ytelegnmfhjfbaaa
namespace Go.Proofs.Ytelegnmfhjfbaaa
set_option linter.unusedSimpArgs false
set_option linter.unusedVariables false
open Go
theorem cn123 : cellN Try.prog 123 = some 1 := by kernel_rfl
theorem zl123 : zeroL Try.prog 123 = some ([.pointer none]) := by kernel_rfl
structure RndOk (b : Barn) (p q : List (List Nat)) : Prop where
  hp : ∀ l ∈ p, l ∈ b.dsk.trs true
  hq : ∀ l ∈ q, l ∈ b.dsk.trs true
  ne : q ≠ []
  len : p.length + q.length ≤ 14641
  run : ∃ u, b.dsk.run b.state p = some u ∧ b.dsk.run u q = some u
theorem Dsk.run_rep {d : Dsk} {u : HSt} {q : List (List Nat)} (h : d.run u q = some u) : ∀ n, d.run u (List.replicate n q).flatten = some u
  | 0 => rfl
  | n + 1 => by
    rw [List.replicate_succ, List.flatten_cons, d.run_app, h]
    exact run_rep h n
theorem RndOk.goes {b : Barn} (hb : b.ok) {p q : List (List Nat)} (h : RndOk b p q) : b.goes (p.map il) (q.map il) := fun n => by
  obtain ⟨u, h1, h2⟩ := h.run
  have e : p.map il ++ rep n (q.map il) = (p ++ (List.replicate n q).flatten).map il := by
    unfold rep
    rw [List.map_append, List.map_flatten, List.map_replicate]
  rw [e]
  have hr : b.dsk.run (b.stw b.warms) (p ++ (List.replicate n q).flatten) = some u := by
    rw [Barn.stw_warms hb, b.dsk.run_app, h1]
    exact Dsk.run_rep h2 n
  rcases Barn.run_burns hb (p ++ (List.replicate n q).flatten) b.warms 0 (Cool.start hb) (fun l hl k hk => by
    rcases List.mem_append.1 hl with hl | hl
    · exact b.dsk.trs_lt (h.hp l hl) k hk
    · obtain ⟨r, hr, hl⟩ := List.mem_flatten.1 hl
      rw [(List.mem_replicate.1 hr).2] at hl
      exact b.dsk.trs_lt (h.hq l hl) k hk) with ⟨ws, h3, _⟩ | ⟨x, ws, _, h4⟩
  · rw [h3]
  · rw [hr] at h4; cases h4
structure Met (d : Dsk) (s0 : HSt) (S : List HSt) (p : List (List Nat)) (s : HSt) : Prop where
  len : S.length = p.length
  nd : S.Nodup
  trs : ∀ l ∈ p, l ∈ d.trs true
  at_ : ∀ j t, S[j]? = some t → d.run s0 (p.take j) = some t ∧ d.inS t
  run : d.run s0 p = some s
  inS : d.inS s
  ever : ∀ m, s ∈ d.alive m
theorem Met.start {d : Dsk} {s : HSt} (h : d.inS s) (he : ∀ m, s ∈ d.alive m) : Met d s [] [] s := ⟨rfl, List.nodup_nil, by simp, by simp, rfl, h, he⟩
theorem Met.few {d : Dsk} (hd : d.ok) {s0 s : HSt} {S : List HSt} {p : List (List Nat)} (h : Met d s0 S p s) : S.length ≤ d.nst := by
  have := nodup_len h.nd (m := d.sts) fun t ht => by
    obtain ⟨j, hj⟩ := List.getElem?_of_mem ht
    exact (d.mem_sts hd t).2 (h.at_ j t hj).2
  rw [d.sts_len] at this
  exact this
theorem Met.next {d : Dsk} (hd : d.ok) {s0 s t : HSt} {S : List HSt} {p : List (List Nat)} (h : Met d s0 S p s) (hs : s ∉ S) {l : List Nat} (hl : l ∈ d.trs true) (hn : d.next s l = some t) (he : ∀ m, t ∈ d.alive m) : Met d s0 (S ++ [s]) (p ++ [l]) t where
  len := by rw [List.length_append, List.length_append, h.len]; rfl
  nd := List.nodup_append.2 ⟨h.nd, by simp, fun x hx y hy e => hs (by rw [← List.mem_singleton.1 hy, ← e]; exact hx)⟩
  trs m hm := by
    rcases List.mem_append.1 hm with hm | hm
    · exact h.trs m hm
    · rw [List.mem_singleton.1 hm]; exact hl
  at_ j u hu := by
    have hlen := h.len
    rcases Nat.lt_or_ge j S.length with hj | hj
    · rw [List.getElem?_append_left hj] at hu
      rw [List.take_append_of_le_length (by omega)]
      exact h.at_ j u hu
    · have hj2 := (List.getElem?_eq_some_iff.1 hu).1
      rw [List.length_append, List.length_singleton] at hj2
      obtain rfl : j = S.length := by omega
      rw [List.getElem?_append_right (Nat.le_refl _), Nat.sub_self] at hu
      cases hu
      rw [hlen, List.take_left]
      exact ⟨h.run, h.inS⟩
  run := by rw [d.run_app, h.run]; dsimp only; rw [d.run_one]; exact hn
  inS := d.next_inS hd h.inS (d.trs_lt hl) hn
  ever := he
theorem Met.done {b : Barn} (hok : b.ok) {s : HSt} {S : List HSt} {p : List (List Nat)} (h : Met b.dsk b.state S p s) {j : Nat} (hj : S[j]? = some s) : RndOk b (p.take j) (p.drop j) := by
  have hjl := (List.getElem?_eq_some_iff.1 hj).1
  have hlen := h.len
  have hf := h.few (b.dsk_ok hok)
  have hn := (b.dsk.nst_le (b.dsk_ok hok)).2
  refine ⟨fun l hl => h.trs l (List.mem_of_mem_take hl), fun l hl => h.trs l (List.mem_of_mem_drop hl), fun e => ?_, ?_, s, (h.at_ j s hj).1, ?_⟩
  · have := congrArg List.length e
    rw [List.length_drop, List.length_nil] at this; omega
  · rw [List.length_take, List.length_drop]; omega
  · have h1 := h.run
    rw [← List.take_append_drop j p, b.dsk.run_app, (h.at_ j s hj).1] at h1
    exact h1
def KpF (m : Nat) (kv : KV) (w : World) : Prop := w.heap[m]? = some (mapO true kv)
theorem St.kpf {m : Nat} {kv : KV} {H : Heap} {R : Facts} {w : World} (h : St ((m, mapO true kv) :: H) R w) : St H (KpF m kv :: R) w := St.freeze h
theorem Inn.sub {l k : List PL} (h : ∀ x ∈ k, x ∈ l) {w : World} (hi : Inn l w) : Inn k w := fun x hx => hi x (h x hx)
end Go.Proofs.Ytelegnmfhjfbaaa
namespace Go.Proofs.Ytelegnmfhjfbaaa
set_option linter.unusedSimpArgs false
set_option linter.unusedVariables false
open Go
structure RWant (b : Barn) (p q : List (List Int)) (w u : Int) (g : Bool) : Prop where
  u : u = goesErr b p q
  g : g = true ↔ goesErr b p q = 0 ∧ b.goes p q
  w : (b.check ≠ 0 ∧ w = b.check) ∨ (b.check = 0 ∧ w = 0 ∧ Kpt b.dsk b.state 1000000) ∨ (b.check = 0 ∧ w = 6 ∧ ∃ v, v ≠ 1000000 ∧ Kpt b.dsk b.state v)
theorem RWant.w1 {b : Barn} {p q : List (List Int)} {w u : Int} {g : Bool} (h : RWant b p q w u g) (hc : b.check ≠ 0) : w = b.check := by
  rcases h.w with ⟨_, h2⟩ | ⟨h1, _⟩ | ⟨h1, _⟩
  · exact h2
  · exact absurd h1 hc
  · exact absurd h1 hc
theorem RWant.w2 {b : Barn} {p q : List (List Int)} {w u : Int} {g : Bool} (h : RWant b p q w u g) (hc : b.check = 0) (hk : ∃ v, v ≠ 1000000 ∧ Kpt b.dsk b.state v) : w = 6 := by
  obtain ⟨v, hv, hk⟩ := hk
  rcases h.w with ⟨h1, _⟩ | ⟨_, _, h2⟩ | ⟨_, h2, _⟩
  · exact absurd hc h1
  · exact absurd (kpt_unique hk h2) hv
  · exact h2
theorem RWant.w3 {b : Barn} {p q : List (List Int)} {w u : Int} {g : Bool} (h : RWant b p q w u g) (hc : b.check = 0) (hk : Kpt b.dsk b.state 1000000) : w = 0 := by
  rcases h.w with ⟨h1, _⟩ | ⟨_, h2, _⟩ | ⟨_, _, v, hv, h3⟩
  · exact absurd hc h1
  · exact h2
  · exact absurd (kpt_unique h3 hk) hv
theorem RWant.val {b : Barn} {p q : List (List Int)} {w u : Int} {g : Bool} (h : RWant b p q w u g) {v : Value} (hv : GoesQ b p q v) : v = .tuple #[.bool g, .int .i64 u] := by
  rcases hv with ⟨h1, rfl⟩ | ⟨h1, is, h2, rfl⟩
  · have e : g = false := by
      cases hg : g with
      | false => rfl
      | true => exact absurd (h.g.1 hg).1 h1
    rw [e, h.u]
  · have e : is = g := by
      rw [Bool.eq_iff_iff, h2, h.g]
      exact ⟨fun h3 => ⟨h1, h3⟩, fun h3 => h3.2⟩
    rw [e, h.u, h1]
end Go.Proofs.Ytelegnmfhjfbaaa
namespace Go.Proofs.Ytelegnmfhjfbaaa
set_option linter.unusedSimpArgs false
set_option linter.unusedVariables false
open Go
theorem cal120 : cal Try.prog 120 = true := by kernel_rfl
theorem cal63 : cal Try.prog 63 = true := by kernel_rfl
theorem cal65 : cal Try.prog 65 = true := by kernel_rfl
theorem cn142 : cellN Try.prog 142 = some 1 := by kernel_rfl
theorem el73 : elN Try.prog 73 = some 1 := by kernel_rfl
theorem fo144_0 : fOff Try.prog 144 0 = some 0 := by kernel_rfl
theorem fo144_1 : fOff Try.prog 144 1 = some 1 := by kernel_rfl
theorem fo144_2 : fOff Try.prog 144 2 = some 2 := by kernel_rfl
theorem ik142 : intK Try.prog 142 = some .u32 := by kernel_rfl
theorem ik3 : intK Try.prog 3 = some .i64 := by kernel_rfl
theorem isl73 : isSl Try.prog 73 = true := by kernel_rfl
theorem pl144 : placeL Try.prog 144 = some [(0, 1), (1, 1), (2, 1)] := by kernel_rfl
theorem sc142 : scal Try.prog 142 = true := by kernel_rfl
theorem sc5 : scal Try.prog 5 = true := by kernel_rfl
theorem sc73 : scal Try.prog 73 = true := by kernel_rfl
theorem us142 : (Try.prog.underlying 142).isSome = true := by kernel_rfl
theorem us3 : (Try.prog.underlying 3).isSome = true := by kernel_rfl
theorem us5 : (Try.prog.underlying 5).isSome = true := by kernel_rfl
theorem zl144 : zeroL Try.prog 144 = some ([.slice none 0 0, .int .i64 0, .int .u32 0]) := by kernel_rfl
def nn (l : List Int) (k : Nat) : Int := l.getD k 0
theorem nn_set {l : List Int} {i j : Nat} {v : Int} (h : i < l.length) : nn (l.set i v) j = bif i == j then v else nn l j := by
  unfold nn
  rw [List.getD_eq_getElem?_getD, List.getD_eq_getElem?_getD, List.getElem?_set]
  by_cases e : i = j
  · subst e; rw [if_pos rfl, if_pos h]; simp
  · rw [if_neg e, show (i == j) = false from by simpa using e]; rfl
def urow (x : Int) : List Value := [.int .u8 x]
def urows (l : List Int) : List (List Value) := l.map urow
theorem c_Fill (g : List Int) (ag : Option Addr) (cg : Nat) (hgl : g.length ≤ 9223372036854775807) (H : Heap) (R : Facts) :
    Fn Try.prog 45 [.slice ag g.length cg] H R (fun v H' R' => ∃ bk, ∃ mx : Int, (0 ≤ mx ∧ mx ≤ 4294967295) ∧ v = .pointer (some ⟨bk, 0, none⟩) ∧ H' = (bk, cel 144 [.slice ag g.length cg, .int .i64 (0), .int .u32 (mx)]) :: H ∧ R' = R) := by
 refine fn_of Try.func45 rfl Try.ntmps45 rfl ?_
 refine sy_seq ?_
 refine sy_tx' [0] rfl ?_
 refine sp rfl (PE.assign rfl) rfl ?_
 refine sy_seq ?_
 refine sy_tx' [0, 1, 2, 3, 4, 5, 6, 7] rfl ?_
 refine sp rfl (PE.move rfl) rfl ?_
 refine sp rfl (PE.move rfl) rfl ?_
 refine sp rfl (PE.lenSl isl73 rfl) rfl ?_
 refine spE rfl (PE.convU us3 ik142 rfl) rfl ?_
 rintro _ ⟨u6, rfl, hu6⟩
 refine spE rfl (PE.xorU rfl rfl) rfl ?_
 rintro _ ⟨u7, rfl, hu7⟩
 refine sp rfl (PE.build (out := [_, _, _]) pl144 zl144 rfl rfl) rfl ?_
 refine bx rfl rfl rfl (fun b9 => ?_)
 refine sp rfl (PE.assign rfl) rfl ?_
 refine sy_ret ?_
 exact sy_return (vs := [_]) rfl (.cons (RV.tmp rfl) .nil) rfl ⟨b9, u7, hu7, rfl, rfl, rfl⟩ (fun _ h => h)
theorem c_handful (g : List Int) (ag : Option Addr) (cg bk : Nat) (hgl : g.length ≤ 9223372036854775807) (tq mx : Int) (htq : 0 ≤ tq ∧ tq ≤ 1000000000) (hmx : 0 ≤ mx ∧ mx ≤ 4294967295) (H : Heap) (R : Facts) [hG : MemRows ag 1 (urows g) R] :
    Fn Try.prog 120 [.pointer (some ⟨bk, 0, none⟩)] ((bk, cel 144 [.slice ag g.length cg, .int .i64 (tq), .int .u32 (mx)]) :: H) R (fun v H' R' => ∃ x m' : Int, (0 ≤ x ∧ x ≤ 65535) ∧ v = .int .i64 x ∧ (0 ≤ m' ∧ m' ≤ 4294967295) ∧ H' = (bk, cel 144 [.slice ag g.length cg, .int .i64 (tq + 1), .int .u32 (m')]) :: H ∧ R' = R) := by
 refine fn_of Try.func120 rfl Try.ntmps120 rfl ?_
 refine sy_seq ?_
 refine sy_tx' [0] rfl ?_
 refine sp rfl (PE.assign rfl) rfl ?_
 refine sy_seq ?_
 refine sy_seq ?_
 refine sy_tx' [0, 1, 2, 3, 4, 5] rfl ?_
 refine sp rfl (PE.move rfl) rfl ?_
 refine sp rfl (PE.nilCheck rfl) rfl ?_
 refine sp rfl (PE.fieldAddr fo144_0 rfl) rfl ?_
 refine spL rfl rfl (lh sc73 rfl rfl) rfl ?_
 refine sp rfl (PE.lenSl isl73 rfl) rfl ?_
 refine sp rfl (PE.assign rfl) rfl ?_
 refine sy_seq ?_
 refine sy_tx' [0, 1] rfl ?_
 refine sp rfl (PE.move rfl) rfl ?_
 refine sp rfl (PE.gtr rfl rfl) rfl ?_
 refine sy_cond rfl (fun hc0 => ?_) (fun hc0 => ?_)
 try simp only [decide_eq_true_eq, decide_eq_false_iff_not, Bool.and_eq_true, Bool.or_eq_true, Bool.not_eq_true', Int.not_le, Int.not_lt] at hc0
 obtain ⟨y, hy⟩ : ∃ y, g[(tq % g.length).toNat]? = some y := ⟨_, List.getElem?_eq_getElem (by have := Int.emod_lt_of_pos tq hc0; have := Int.emod_nonneg tq (show (g.length : Int) ≠ 0 by omega); omega)⟩
 refine sy_addr (a := ag) (sz := 1) (rows := urows g) (by intro h0; simp [urows] at h0; simp [h0] at hy) (fun bgr ogr he => ?_)
 subst he
 refine sy_draw [0, 0, 2, 6, 14, 0, 32, 96, 224, 0, 512, 1536, 3584, 0, 15872, 32736, 65504, 131040, 262142, 524286, 1048575, 2097151, 4194303] (.tk 0 (.tk 1 (.tk 2 (.tk 3 (.ld 4 (.tk 5 (.tk 6 (.tk 7 (.ld 8 (.tk 9 (.tk 10 (.tk 11 (.ld 12 (.tk 13 (.tk 14 (.tk 15 (.ld 16 (.tk 17 (.tk 18 (.tk 19 (.tk 20 (.tk 21 (.big 22 .done))))))))))))))))))))))) mixed (by kernel_rfl) ?_
 refine tk rfl (PE.move rfl) rfl ?_
 refine tk rfl (PE.move rfl) rfl ?_
 refine tk rfl (PE.nilCheck rfl) rfl ?_
 refine tk rfl (PE.fieldAddr fo144_2 rfl) rfl ?_
 refine ld rfl rfl (lh sc142 rfl rfl) rfl ?_
 refine tk rfl (PE.move rfl) rfl ?_
 refine tk rfl (PE.nilCheck rfl) rfl ?_
 refine tk rfl (PE.fieldAddr fo144_0 rfl) rfl ?_
 refine ld rfl rfl (lh sc73 rfl rfl) rfl ?_
 refine tk rfl (PE.move rfl) rfl ?_
 refine tk rfl (PE.nilCheck rfl) rfl ?_
 refine tk rfl (PE.fieldAddr fo144_1 rfl) rfl ?_
 refine ld rfl rfl (lh sc3 rfl rfl) rfl ?_
 refine tk rfl (PE.move rfl) rfl ?_
 refine tk rfl (PE.rem rfl rfl (by omega)) rfl ?_
 refine tk rfl (PE.indexAddr el73 rfl rfl (by exact Int.emod_nonneg tq (by omega)) (by exact Int.emod_lt_of_pos tq hc0)) rfl ?_
 refine ld rfl rfl (lf0 (x := .int .u8 y) sc5 (by simp [urows, urow, hy]; rfl) rfl) rfl ?_
 refine tkE rfl (PE.convU us5 ik142 rfl) rfl ?_
 rintro _ ⟨u28, rfl, hu28⟩
 refine tkE rfl (PE.xorU rfl rfl) rfl ?_
 rintro _ ⟨u29, rfl, hu29⟩
 refine tkE rfl (PE.mulU rfl rfl) rfl ?_
 rintro _ ⟨u30, rfl, hu30⟩
 refine tk rfl (PE.nilCheck rfl) rfl ?_
 refine tk rfl (PE.fieldAddr fo144_2 rfl) rfl ?_
 refine sto rfl rfl rfl cn142 rfl rfl rfl rfl ?_
 refine bg (fun w hs => ⟨trivial, trivial, trivial, trivial, trivial⟩) ?_
 refine sy_seq ?_
 refine sy_tx' [0, 1, 2, 3, 4, 5, 6, 7] rfl ?_
 refine sp rfl (PE.move rfl) rfl ?_
 refine sp rfl (PE.nilCheck rfl) rfl ?_
 refine sp rfl (PE.fieldAddr fo144_1 rfl) rfl ?_
 refine spL rfl rfl (lh sc3 rfl rfl) rfl ?_
 refine sp rfl (PE.add rfl rfl (by omega)) rfl ?_
 refine sp rfl (PE.nilCheck rfl) rfl ?_
 refine sp rfl (PE.fieldAddr fo144_1 rfl) rfl ?_
 refine sto rfl rfl rfl cn3 rfl rfl rfl rfl ?_
 refine sy_seq ?_
 refine sy_seq ?_
 refine sy_draw [0, 1, 3, 7, 0, 16, 48, 112, 240, 511] (.tk 0 (.tk 1 (.tk 2 (.ld 3 (.tk 4 (.tk 5 (.tk 6 (.ld 7 (.tk 8 (.tk 9 .done)))))))))) mixed (by kernel_rfl) ?_
 refine tk rfl (PE.move rfl) rfl ?_
 refine tk rfl (PE.nilCheck rfl) rfl ?_
 refine tk rfl (PE.fieldAddr fo144_1 rfl) rfl ?_
 refine ld rfl rfl (lh sc3 rfl rfl) rfl ?_
 refine tk rfl (PE.move rfl) rfl ?_
 refine tk rfl (PE.nilCheck rfl) rfl ?_
 refine tk rfl (PE.fieldAddr fo144_0 rfl) rfl ?_
 refine ld rfl rfl (lh sc73 rfl rfl) rfl ?_
 refine tk rfl (PE.lenSl isl73 rfl) rfl ?_
 refine tk rfl (PE.gtr rfl rfl) rfl ?_
 refine sy_cond rfl (fun hc1 => ?_) (fun hc1 => ?_)
 try simp only [decide_eq_true_eq, decide_eq_false_iff_not, Bool.and_eq_true, Bool.or_eq_true, Bool.not_eq_true', Int.not_le, Int.not_lt] at hc1
 refine sy_tx' [0, 1, 2, 3, 4, 5, 6, 7, 8, 9] rfl ?_
 refine sp rfl (PE.move rfl) rfl ?_
 refine sp rfl (PE.move rfl) rfl ?_
 refine sp rfl (PE.nilCheck rfl) rfl ?_
 refine sp rfl (PE.fieldAddr fo144_2 rfl) rfl ?_
 refine spL rfl rfl (lh sc142 rfl rfl) rfl ?_
 refine spE rfl (PE.mulU rfl rfl) rfl ?_
 rintro _ ⟨u55, rfl, hu55⟩
 refine spE rfl (PE.addU rfl rfl) rfl ?_
 rintro _ ⟨u56, rfl, hu56⟩
 refine sp rfl (PE.nilCheck rfl) rfl ?_
 refine sp rfl (PE.fieldAddr fo144_2 rfl) rfl ?_
 refine sto rfl rfl rfl cn142 rfl rfl rfl rfl ?_
 refine sy_seq ?_
 refine sy_draw [0, 1, 3, 7, 0, 16, 48, 112, 240, 511, 1023, 2047, 4095, 8191] (.tk 0 (.tk 1 (.tk 2 (.ld 3 (.tk 4 (.tk 5 (.tk 6 (.ld 7 (.tk 8 (.tk 9 (.tk 10 (.tk 11 (.tk 12 (.tk 13 .done)))))))))))))) mixed (by kernel_rfl) ?_
 refine tk rfl (PE.move rfl) rfl ?_
 refine tk rfl (PE.nilCheck rfl) rfl ?_
 refine tk rfl (PE.fieldAddr fo144_2 rfl) rfl ?_
 refine ld rfl rfl (lh sc142 rfl rfl) rfl ?_
 refine tk rfl (PE.move rfl) rfl ?_
 refine tk rfl (PE.nilCheck rfl) rfl ?_
 refine tk rfl (PE.fieldAddr fo144_2 rfl) rfl ?_
 refine ld rfl rfl (lh sc142 rfl rfl) rfl ?_
 refine tkE rfl (PE.shrU rfl rfl (by decide) (by omega) (by omega)) rfl ?_
 rintro _ ⟨u67, rfl, hu67⟩
 refine tkE rfl (PE.xorU rfl rfl) rfl ?_
 rintro _ ⟨u68, rfl, hu68⟩
 refine tkE rfl (PE.shrU rfl rfl (by decide) (by omega) (by omega)) rfl ?_
 rintro _ ⟨u69, rfl, hu69⟩
 refine tkE rfl (PE.andU rfl rfl (by decide) (by decide)) rfl ?_
 rintro _ ⟨u70, rfl, hu70⟩
 refine tk rfl (PE.conv64 us142 ik3 rfl (by omega)) rfl ?_
 refine tk rfl (PE.assign rfl) rfl ?_
 refine sy_ret ?_
 first
   | exact sy_return (vs := [_]) rfl (.cons (RV.tmp rfl) .nil) rfl ⟨u70, _, hu70, rfl, hu56, rfl, rfl⟩ (fun _ h => h)
   | exact sy_return (vs := [_]) rfl (.cons (RV.tmp rfl) .nil) rfl ⟨u70, _, hu70, rfl, hu30, rfl, rfl⟩ (fun _ h => h)
   | exact sy_return (vs := [_]) rfl (.cons (RV.tmp rfl) .nil) rfl ⟨u70, _, hu70, rfl, hmx, rfl, rfl⟩ (fun _ h => h)
 try simp only [decide_eq_true_eq, decide_eq_false_iff_not, Bool.and_eq_true, Bool.or_eq_true, Bool.not_eq_true', Int.not_le, Int.not_lt] at hc1
 refine sy_skip ?_
 refine sy_seq ?_
 refine sy_draw [0, 1, 3, 7, 0, 16, 48, 112, 240, 511, 1023, 2047, 4095, 8191] (.tk 0 (.tk 1 (.tk 2 (.ld 3 (.tk 4 (.tk 5 (.tk 6 (.ld 7 (.tk 8 (.tk 9 (.tk 10 (.tk 11 (.tk 12 (.tk 13 .done)))))))))))))) mixed (by kernel_rfl) ?_
 refine tk rfl (PE.move rfl) rfl ?_
 refine tk rfl (PE.nilCheck rfl) rfl ?_
 refine tk rfl (PE.fieldAddr fo144_2 rfl) rfl ?_
 refine ld rfl rfl (lh sc142 rfl rfl) rfl ?_
 refine tk rfl (PE.move rfl) rfl ?_
 refine tk rfl (PE.nilCheck rfl) rfl ?_
 refine tk rfl (PE.fieldAddr fo144_2 rfl) rfl ?_
 refine ld rfl rfl (lh sc142 rfl rfl) rfl ?_
 refine tkE rfl (PE.shrU rfl rfl (by decide) (by omega) (by omega)) rfl ?_
 rintro _ ⟨u67, rfl, hu67⟩
 refine tkE rfl (PE.xorU rfl rfl) rfl ?_
 rintro _ ⟨u68, rfl, hu68⟩
 refine tkE rfl (PE.shrU rfl rfl (by decide) (by omega) (by omega)) rfl ?_
 rintro _ ⟨u69, rfl, hu69⟩
 refine tkE rfl (PE.andU rfl rfl (by decide) (by decide)) rfl ?_
 rintro _ ⟨u70, rfl, hu70⟩
 refine tk rfl (PE.conv64 us142 ik3 rfl (by omega)) rfl ?_
 refine tk rfl (PE.assign rfl) rfl ?_
 refine sy_ret ?_
 first
   | exact sy_return (vs := [_]) rfl (.cons (RV.tmp rfl) .nil) rfl ⟨u70, _, hu70, rfl, hu56, rfl, rfl⟩ (fun _ h => h)
   | exact sy_return (vs := [_]) rfl (.cons (RV.tmp rfl) .nil) rfl ⟨u70, _, hu70, rfl, hu30, rfl, rfl⟩ (fun _ h => h)
   | exact sy_return (vs := [_]) rfl (.cons (RV.tmp rfl) .nil) rfl ⟨u70, _, hu70, rfl, hmx, rfl, rfl⟩ (fun _ h => h)
 try simp only [decide_eq_true_eq, decide_eq_false_iff_not, Bool.and_eq_true, Bool.or_eq_true, Bool.not_eq_true', Int.not_le, Int.not_lt] at hc0
 refine sy_skip ?_
 refine sy_seq ?_
 refine sy_tx' [0, 1, 2, 3, 4, 5, 6, 7] rfl ?_
 refine sp rfl (PE.move rfl) rfl ?_
 refine sp rfl (PE.nilCheck rfl) rfl ?_
 refine sp rfl (PE.fieldAddr fo144_1 rfl) rfl ?_
 refine spL rfl rfl (lh sc3 rfl rfl) rfl ?_
 refine sp rfl (PE.add rfl rfl (by omega)) rfl ?_
 refine sp rfl (PE.nilCheck rfl) rfl ?_
 refine sp rfl (PE.fieldAddr fo144_1 rfl) rfl ?_
 refine sto rfl rfl rfl cn3 rfl rfl rfl rfl ?_
 refine sy_seq ?_
 refine sy_seq ?_
 refine sy_draw [0, 1, 3, 7, 0, 16, 48, 112, 240, 511] (.tk 0 (.tk 1 (.tk 2 (.ld 3 (.tk 4 (.tk 5 (.tk 6 (.ld 7 (.tk 8 (.tk 9 .done)))))))))) mixed (by kernel_rfl) ?_
 refine tk rfl (PE.move rfl) rfl ?_
 refine tk rfl (PE.nilCheck rfl) rfl ?_
 refine tk rfl (PE.fieldAddr fo144_1 rfl) rfl ?_
 refine ld rfl rfl (lh sc3 rfl rfl) rfl ?_
 refine tk rfl (PE.move rfl) rfl ?_
 refine tk rfl (PE.nilCheck rfl) rfl ?_
 refine tk rfl (PE.fieldAddr fo144_0 rfl) rfl ?_
 refine ld rfl rfl (lh sc73 rfl rfl) rfl ?_
 refine tk rfl (PE.lenSl isl73 rfl) rfl ?_
 refine tk rfl (PE.gtr rfl rfl) rfl ?_
 refine sy_cond rfl (fun hc1 => ?_) (fun hc1 => ?_)
 try simp only [decide_eq_true_eq, decide_eq_false_iff_not, Bool.and_eq_true, Bool.or_eq_true, Bool.not_eq_true', Int.not_le, Int.not_lt] at hc1
 refine sy_tx' [0, 1, 2, 3, 4, 5, 6, 7, 8, 9] rfl ?_
 refine sp rfl (PE.move rfl) rfl ?_
 refine sp rfl (PE.move rfl) rfl ?_
 refine sp rfl (PE.nilCheck rfl) rfl ?_
 refine sp rfl (PE.fieldAddr fo144_2 rfl) rfl ?_
 refine spL rfl rfl (lh sc142 rfl rfl) rfl ?_
 refine spE rfl (PE.mulU rfl rfl) rfl ?_
 rintro _ ⟨u55, rfl, hu55⟩
 refine spE rfl (PE.addU rfl rfl) rfl ?_
 rintro _ ⟨u56, rfl, hu56⟩
 refine sp rfl (PE.nilCheck rfl) rfl ?_
 refine sp rfl (PE.fieldAddr fo144_2 rfl) rfl ?_
 refine sto rfl rfl rfl cn142 rfl rfl rfl rfl ?_
 refine sy_seq ?_
 refine sy_draw [0, 1, 3, 7, 0, 16, 48, 112, 240, 511, 1023, 2047, 4095, 8191] (.tk 0 (.tk 1 (.tk 2 (.ld 3 (.tk 4 (.tk 5 (.tk 6 (.ld 7 (.tk 8 (.tk 9 (.tk 10 (.tk 11 (.tk 12 (.tk 13 .done)))))))))))))) mixed (by kernel_rfl) ?_
 refine tk rfl (PE.move rfl) rfl ?_
 refine tk rfl (PE.nilCheck rfl) rfl ?_
 refine tk rfl (PE.fieldAddr fo144_2 rfl) rfl ?_
 refine ld rfl rfl (lh sc142 rfl rfl) rfl ?_
 refine tk rfl (PE.move rfl) rfl ?_
 refine tk rfl (PE.nilCheck rfl) rfl ?_
 refine tk rfl (PE.fieldAddr fo144_2 rfl) rfl ?_
 refine ld rfl rfl (lh sc142 rfl rfl) rfl ?_
 refine tkE rfl (PE.shrU rfl rfl (by decide) (by omega) (by omega)) rfl ?_
 rintro _ ⟨u67, rfl, hu67⟩
 refine tkE rfl (PE.xorU rfl rfl) rfl ?_
 rintro _ ⟨u68, rfl, hu68⟩
 refine tkE rfl (PE.shrU rfl rfl (by decide) (by omega) (by omega)) rfl ?_
 rintro _ ⟨u69, rfl, hu69⟩
 refine tkE rfl (PE.andU rfl rfl (by decide) (by decide)) rfl ?_
 rintro _ ⟨u70, rfl, hu70⟩
 refine tk rfl (PE.conv64 us142 ik3 rfl (by omega)) rfl ?_
 refine tk rfl (PE.assign rfl) rfl ?_
 refine sy_ret ?_
 first
   | exact sy_return (vs := [_]) rfl (.cons (RV.tmp rfl) .nil) rfl ⟨u70, _, hu70, rfl, hu56, rfl, rfl⟩ (fun _ h => h)
   | exact sy_return (vs := [_]) rfl (.cons (RV.tmp rfl) .nil) rfl ⟨u70, _, hu70, rfl, hu30, rfl, rfl⟩ (fun _ h => h)
   | exact sy_return (vs := [_]) rfl (.cons (RV.tmp rfl) .nil) rfl ⟨u70, _, hu70, rfl, hmx, rfl, rfl⟩ (fun _ h => h)
 try simp only [decide_eq_true_eq, decide_eq_false_iff_not, Bool.and_eq_true, Bool.or_eq_true, Bool.not_eq_true', Int.not_le, Int.not_lt] at hc1
 refine sy_skip ?_
 refine sy_seq ?_
 refine sy_draw [0, 1, 3, 7, 0, 16, 48, 112, 240, 511, 1023, 2047, 4095, 8191] (.tk 0 (.tk 1 (.tk 2 (.ld 3 (.tk 4 (.tk 5 (.tk 6 (.ld 7 (.tk 8 (.tk 9 (.tk 10 (.tk 11 (.tk 12 (.tk 13 .done)))))))))))))) mixed (by kernel_rfl) ?_
 refine tk rfl (PE.move rfl) rfl ?_
 refine tk rfl (PE.nilCheck rfl) rfl ?_
 refine tk rfl (PE.fieldAddr fo144_2 rfl) rfl ?_
 refine ld rfl rfl (lh sc142 rfl rfl) rfl ?_
 refine tk rfl (PE.move rfl) rfl ?_
 refine tk rfl (PE.nilCheck rfl) rfl ?_
 refine tk rfl (PE.fieldAddr fo144_2 rfl) rfl ?_
 refine ld rfl rfl (lh sc142 rfl rfl) rfl ?_
 refine tkE rfl (PE.shrU rfl rfl (by decide) (by omega) (by omega)) rfl ?_
 rintro _ ⟨u67, rfl, hu67⟩
 refine tkE rfl (PE.xorU rfl rfl) rfl ?_
 rintro _ ⟨u68, rfl, hu68⟩
 refine tkE rfl (PE.shrU rfl rfl (by decide) (by omega) (by omega)) rfl ?_
 rintro _ ⟨u69, rfl, hu69⟩
 refine tkE rfl (PE.andU rfl rfl (by decide) (by decide)) rfl ?_
 rintro _ ⟨u70, rfl, hu70⟩
 refine tk rfl (PE.conv64 us142 ik3 rfl (by omega)) rfl ?_
 refine tk rfl (PE.assign rfl) rfl ?_
 refine sy_ret ?_
 first
   | exact sy_return (vs := [_]) rfl (.cons (RV.tmp rfl) .nil) rfl ⟨u70, _, hu70, rfl, hu56, rfl, rfl⟩ (fun _ h => h)
   | exact sy_return (vs := [_]) rfl (.cons (RV.tmp rfl) .nil) rfl ⟨u70, _, hu70, rfl, hu30, rfl, rfl⟩ (fun _ h => h)
   | exact sy_return (vs := [_]) rfl (.cons (RV.tmp rfl) .nil) rfl ⟨u70, _, hu70, rfl, hmx, rfl, rfl⟩ (fun _ h => h)
theorem c_Below (g : List Int) (ag : Option Addr) (cg bk : Nat) (hgl : g.length ≤ 9223372036854775807) (tq mx : Int) (htq : 0 ≤ tq ∧ tq ≤ 1000000000) (hmx : 0 ≤ mx ∧ mx ≤ 4294967295) (n : Int) (H : Heap) (R : Facts) [hG : MemRows ag 1 (urows g) R] :
    Fn Try.prog 63 [.pointer (some ⟨bk, 0, none⟩), .int .i64 n] ((bk, cel 144 [.slice ag g.length cg, .int .i64 (tq), .int .u32 (mx)]) :: H) R (fun v H' R' => ∃ x m' : Int, (0 ≤ x ∧ x < max 1 n) ∧ v = .int .i64 x ∧ (0 ≤ m' ∧ m' ≤ 4294967295) ∧ H' = (bk, cel 144 [.slice ag g.length cg, .int .i64 (tq + 1), .int .u32 (m')]) :: H ∧ R' = R) := by
 refine fn_of Try.func63 rfl Try.ntmps63 rfl ?_
 refine sy_seq ?_
 refine sy_tx' [0] rfl ?_
 refine sp rfl (PE.assign rfl) rfl ?_
 refine sy_seq ?_
 refine sy_tx' [0, 1, 2, 3, 4, 5] rfl ?_
 refine sp rfl (PE.move rfl) rfl ?_
 refine cl rfl cal120 rfl rfl (c_handful g ag cg bk hgl tq mx htq hmx _ _) ?_
 rintro _ _ _ ⟨x, m', hx, rfl, hm', rfl, rfl⟩
 refine sp rfl (PE.move rfl) rfl ?_
 refine sp rfl (PE.max rfl rfl) rfl ?_
 refine sp rfl (PE.rem rfl rfl (by omega)) rfl ?_
 refine sp rfl (PE.assign rfl) rfl ?_
 refine sy_ret ?_
 exact sy_return (vs := [_]) rfl (.cons (RV.tmp rfl) .nil) rfl ⟨_, m', ⟨Int.emod_nonneg _ (by omega), Int.emod_lt_of_pos _ (by omega)⟩, rfl, hm', rfl, rfl⟩ (fun _ h => h)
theorem c_Among (g : List Int) (ag : Option Addr) (cg bk : Nat) (hgl : g.length ≤ 9223372036854775807) (tq mx : Int) (htq : 0 ≤ tq ∧ tq ≤ 1000000000) (hmx : 0 ≤ mx ∧ mx ≤ 4294967295) (lo hi : Int) (hb : -1000000 ≤ lo ∧ lo ≤ 1000000 ∧ -1000000 ≤ hi ∧ hi ≤ 1000000) (H : Heap) (R : Facts) [hG : MemRows ag 1 (urows g) R] :
    Fn Try.prog 65 [.pointer (some ⟨bk, 0, none⟩), .int .i64 lo, .int .i64 hi] ((bk, cel 144 [.slice ag g.length cg, .int .i64 (tq), .int .u32 (mx)]) :: H) R (fun v H' R' => ∃ x m' : Int, (lo ≤ x ∧ x < lo + max 1 (hi - lo + 1)) ∧ v = .int .i64 x ∧ (0 ≤ m' ∧ m' ≤ 4294967295) ∧ H' = (bk, cel 144 [.slice ag g.length cg, .int .i64 (tq + 1), .int .u32 (m')]) :: H ∧ R' = R) := by
 refine fn_of Try.func65 rfl Try.ntmps65 rfl ?_
 refine sy_seq ?_
 refine sy_tx' [0] rfl ?_
 refine sp rfl (PE.assign rfl) rfl ?_
 refine sy_seq ?_
 refine sy_tx' [0, 1, 2, 3, 4, 5, 6, 7, 8] rfl ?_
 refine sp rfl (PE.move rfl) rfl ?_
 refine sp rfl (PE.move rfl) rfl ?_
 refine sp rfl (PE.move rfl) rfl ?_
 refine sp rfl (PE.move rfl) rfl ?_
 refine sp rfl (PE.sub rfl rfl (by omega)) rfl ?_
 refine sp rfl (PE.add rfl rfl (by omega)) rfl ?_
 refine cl rfl cal63 rfl rfl (c_Below g ag cg bk hgl tq mx htq hmx (hi - lo + 1) _ _) ?_
 rintro _ _ _ ⟨x, m', hx, rfl, hm', rfl, rfl⟩
 refine sp rfl (PE.add rfl rfl (by omega)) rfl ?_
 refine sp rfl (PE.assign rfl) rfl ?_
 refine sy_ret ?_
 exact sy_return (vs := [_]) rfl (.cons (RV.tmp rfl) .nil) rfl ⟨lo + x, m', ⟨by omega, by omega⟩, rfl, hm', rfl, rfl⟩ (fun _ h => h)
theorem c_Rare (g : List Int) (ag : Option Addr) (cg bk : Nat) (hgl : g.length ≤ 9223372036854775807) (tq mx : Int) (htq : 0 ≤ tq ∧ tq ≤ 1000000000) (hmx : 0 ≤ mx ∧ mx ≤ 4294967295) (n : Int) (H : Heap) (R : Facts) [hG : MemRows ag 1 (urows g) R] :
    Fn Try.prog 64 [.pointer (some ⟨bk, 0, none⟩), .int .i64 n] ((bk, cel 144 [.slice ag g.length cg, .int .i64 (tq), .int .u32 (mx)]) :: H) R (fun v H' R' => ∃ (x : Bool) (m' : Int), v = .bool x ∧ (0 ≤ m' ∧ m' ≤ 4294967295) ∧ H' = (bk, cel 144 [.slice ag g.length cg, .int .i64 (tq + 1), .int .u32 (m')]) :: H ∧ R' = R) := by
 refine fn_of Try.func64 rfl Try.ntmps64 rfl ?_
 refine sy_seq ?_
 refine sy_tx' [0] rfl ?_
 refine sp rfl (PE.assign rfl) rfl ?_
 refine sy_seq ?_
 refine sy_tx' [0, 1, 2, 3, 4] rfl ?_
 refine sp rfl (PE.move rfl) rfl ?_
 refine sp rfl (PE.move rfl) rfl ?_
 refine cl rfl cal63 rfl rfl (c_Below g ag cg bk hgl tq mx htq hmx n _ _) ?_
 rintro _ _ _ ⟨x, m', hx, rfl, hm', rfl, rfl⟩
 refine sp rfl (PE.eql rfl rfl) rfl ?_
 refine sp rfl (PE.assign rfl) rfl ?_
 refine sy_ret ?_
 exact sy_return (vs := [_]) rfl (.cons (RV.tmp rfl) .nil) rfl ⟨_, m', rfl, hm', rfl, rfl⟩ (fun _ h => h)
theorem OSl.freezeC {e sz : Nat} {rows : List (List Value)} (o : OSl e sz rows) : ∃ a c, o.fs = .slice a rows.length c ∧ rows.length ≤ c ∧ ∀ {H : Heap} {R : Facts} {w : World}, St (o.G ++ H) R w → St H (RowsA a sz rows :: R) w := by
  obtain ⟨fs, G, hl, his⟩ := o
  rcases his with ⟨rfl, rfl, rfl⟩ | ⟨b, cap, junk, rfl, rfl, _, hc, _⟩
  · exact ⟨none, 0, rfl, Nat.le_refl _, fun {H R w} h => (St.also (H := H) (R := R) h (f := RowsA none sz []) (fun w' _ => fun i row hi => by simp at hi))⟩
  · exact ⟨_, cap, rfl, hc, fun {H R w} h => St.rows (rest := junk) h hl⟩
structure Ord (p : List Nat) (n : Nat) : Prop where
  len : p.length = n
  nd : p.Nodup
  lt : ∀ i ∈ p, i < n
theorem Ord.nil : Ord [] 0 := ⟨rfl, List.nodup_nil, by simp⟩
structure InsI (l xs : List Int) (i j : Nat) : Prop where
  perm : xs.Perm l
  le : j ≤ i
  at_ : ∀ p q, p < q → q ≤ i → q ≠ j → nn xs p ≤ nn xs q
structure SrtI (l xs : List Int) (i : Nat) : Prop where
  perm : xs.Perm l
  at_ : ∀ p q, p < q → q < i → nn xs p ≤ nn xs q
theorem SrtI.start (l : List Int) : SrtI l l 1 := ⟨.refl _, fun p q h1 h2 => by omega⟩
theorem InsI.done {l xs : List Int} {i j : Nat} (h : InsI l xs i j) (hj : j = 0 ∨ nn xs (j - 1) ≤ nn xs j) : SrtI l xs (i + 1) := ⟨h.perm, fun p q h1 h2 => by
  by_cases hq : q = j
  · subst hq
    have h3 : nn xs (q - 1) ≤ nn xs q := hj.resolve_left (by omega)
    by_cases hp : p = q - 1
    · subst hp; exact h3
    · have := h.at_ p (q - 1) (by omega) (by omega) (by omega); omega
  · exact h.at_ p q h1 (by omega) hq⟩
theorem nn_at {xs : List Int} {k : Nat} (h : k < xs.length) : nn xs k = xs[k] := by unfold nn; rw [List.getD_eq_getElem?_getD, List.getElem?_eq_getElem h]; rfl
theorem InsI.swap {l xs : List Int} {i j : Nat} (h : InsI l xs i j) (hj : 0 < j) (hi : i < xs.length) (hlt : nn xs j < nn xs (j - 1)) : InsI l ((xs.set j (nn xs (j - 1))).set (j - 1) (nn xs j)) i (j - 1) := by
  have hle := h.le
  have hv : ∀ q, nn ((xs.set j (nn xs (j - 1))).set (j - 1) (nn xs j)) q = if q = j - 1 then nn xs j else if q = j then nn xs (j - 1) else nn xs q := fun q => by
    rw [nn_set (by rw [List.length_set]; omega), nn_set (by omega)]
    by_cases h1 : q = j - 1
    · subst h1; simp
    · have e1 : (j - 1 == q) = false := by simp; omega
      rw [e1, if_neg h1]
      by_cases h2 : q = j
      · subst h2; simp
      · have e2 : (j == q) = false := by simp; omega
        rw [e2, if_neg h2]; rfl
  refine ⟨?_, by omega, fun p q h1 h2 h3 => ?_⟩
  · have e := @List.set_set_perm Int xs j (j - 1) (by omega) (by omega)
    rw [nn_at (k := j - 1) (by omega), nn_at (k := j) (by omega)]
    exact e.trans h.perm
  · rw [hv p, hv q]
    have A := h.at_ p q h1 h2
    have B := h.at_ p (j - 1)
    have C := h.at_ j q
    have E := h.at_ (j - 1) q
    rw [if_neg h3]
    by_cases hq : q = j
    · rw [if_pos hq]
      split
      · omega
      · rw [if_neg (by omega)]; exact B (by omega) (by omega) (by omega)
    · rw [if_neg hq]
      split
      · exact C (by omega) h2 hq
      · split
        · exact E (by omega) h2 hq
        · exact A hq
structure RiseI (n c : Nat) (rs : List Int) : Prop where
  len : rs.length = 6
  le : n ≤ c ∧ c ≤ 6 ∧ n ≤ 2
  zero : ∀ j, j < 6 → j < n ∨ c ≤ j → na rs j = 0
  rise : ∀ j, n ≤ j → j < c → 6 ≤ na rs j ∧ na rs j ≤ 20
  up : ∀ j, n ≤ j → j + 1 < c → na rs j ≤ na rs (j + 1)
theorem RiseI.start {n : Nat} (h : n ≤ 2) : RiseI n n [0, 0, 0, 0, 0, 0] := ⟨rfl, ⟨by omega, by omega, h⟩, fun j hj _ => by
  match j, hj with
  | 0, _ | 1, _ | 2, _ | 3, _ | 4, _ | 5, _ => rfl, fun j h1 h2 => by omega, fun j h1 h2 => by omega⟩
theorem RiseI.more {n c : Nat} {rs : List Int} {v : Int} (h : RiseI n c rs) (hc : c < 6) (hv : 6 ≤ v ∧ v ≤ 20) (hu : n < c → na rs (c - 1) ≤ v) : RiseI n (c + 1) (rs.set c v) := by
  have hle := h.le
  have hat : ∀ j, na (rs.set c v) j = if c = j then v else na rs j := fun j => na_set (by rw [h.len]; omega)
  refine ⟨by rw [List.length_set]; exact h.len, ⟨by omega, by omega, hle.2.2⟩, fun j hj h1 => ?_, fun j h1 h2 => ?_, fun j h1 h2 => ?_⟩
  · rw [hat, if_neg (by omega)]; exact h.zero j hj (by omega)
  · rw [hat]
    split
    · exact hv
    · exact h.rise j h1 (by omega)
  · rw [hat, hat, if_neg (show ¬ c = j by omega)]
    split
    · rename_i e
      have := hu (by omega)
      rw [show c - 1 = j by omega] at this
      exact this
    · exact h.up j h1 (by omega)
structure BinH (x : HBin) : Prop where
  mark : 18 ≤ x.mark ∧ x.mark ≤ 60
  warm : 0 ≤ x.warm ∧ x.warm ≤ x.mark
  lo : 0 ≤ x.lo ∧ x.lo ≤ 5
  hi : x.lo ≤ x.hi ∧ x.hi ≤ 5
structure MadeH (b : Barn) (nb ng : Int) : Prop where
  ok : b.ok
  check : b.check = 0
  nb : (b.bins.length : Int) ≤ nb
  ng : b.gangs ≤ ng
  bins : ∀ x ∈ b.bins, BinH x
theorem list6e {l : List Int} (h : l.length = 6) : ∃ a b c d e f, l = [a, b, c, d, e, f] := by
  match l, h with
  | [a, b, c, d, e, f], _ => exact ⟨a, b, c, d, e, f, rfl⟩
theorem made_ok {n : Nat} {rs : List Int} {bl : List HBin} {cool gangs nb ng : Int} (hr : RiseI n 6 rs) (hb : ∀ x ∈ bl, BinH x) (hl : 1 ≤ bl.length ∧ bl.length ≤ 4) (hnb : (bl.length : Int) ≤ nb) (hc : 0 ≤ cool ∧ cool ≤ 60) (hg : 0 ≤ gangs ∧ gangs ≤ 3) (hng : gangs ≤ ng) : MadeH ⟨cool, gangs, rs, bl⟩ nb ng := by
  have hok : Barn.ok ⟨cool, gangs, rs, bl⟩ := by
    refine ⟨hr.len, hl, hc, ⟨hg.1, by show gangs ≤ 4; omega⟩, fun v hv => ?_, fun x hx => ?_, ?_, fun x hx => (hb x hx).hi.1⟩
    · obtain ⟨j, hj⟩ := List.getElem?_of_mem hv
      have hj6 := (List.getElem?_eq_some_iff.1 hj).1
      have hv2 : na rs j = v := by unfold na; rw [List.getD_eq_getElem?_getD, hj]; rfl
      have hlen := hr.len
      have hj6 : j < 6 := by have : (Barn.mk cool gangs rs bl).rise.length = 6 := hlen; omega
      rcases Nat.lt_or_ge j n with h1 | h1
      · left; rw [← hv2]; exact hr.zero j hj6 (.inl h1)
      · right; rw [← hv2]; exact hr.rise j h1 hj6
    · have h1 := hb x hx
      exact ⟨⟨by have := h1.mark; omega, h1.mark.2⟩, h1.warm, h1.lo, by have := h1.lo; have := h1.hi; omega⟩
    · have key : ∀ j, j + 1 < 6 → na rs j ≤ na rs (j + 1) := fun j hj => by
        rcases Nat.lt_or_ge j n with h1 | h1
        · rw [hr.zero j (by omega) (.inl h1)]
          rcases Nat.lt_or_ge (j + 1) n with h2 | h2
          · rw [hr.zero (j + 1) hj (.inl h2)]; exact Int.le_refl _
          · have := hr.rise (j + 1) h2 hj; omega
        · exact hr.up j h1 hj
      show srt rs = true
      have k0 := key 0 (by omega); have k1 := key 1 (by omega); have k2 := key 2 (by omega); have k3 := key 3 (by omega); have k4 := key 4 (by omega)
      obtain ⟨a, b, c, d, e, f, rfl⟩ := list6e hr.len
      simp only [na, List.getD_cons_zero, List.getD_cons_succ] at k0 k1 k2 k3 k4
      simp [srt, k0, k1, k2, k3, k4]
  exact ⟨hok, check_of hok hg.2, hnb, hng, hb⟩
theorem btl_get {c g : Int} {rs : List Int} {bl : List HBin} {sl : Value} {k : Nat} (hk : k < 6) : (btl ⟨c, g, rs, bl⟩ sl)[0 + 2 + ((k : Nat) : Int).toNat * 1]? = some (.int .i64 (na rs k)) := by
  match k, hk with
  | 0, _ | 1, _ | 2, _ | 3, _ | 4, _ | 5, _ => rfl
theorem btl_put {c g : Int} {rs : List Int} {bl : List HBin} {sl : Value} {k : Nat} (hk : k < 6) (hr : rs.length = 6) (v : Int) : spl (btl ⟨c, g, rs, bl⟩ sl) (0 + 2 + ((k : Nat) : Int).toNat * 1) [.int .i64 v] = btl ⟨c, g, rs.set k v, bl⟩ sl := by
  obtain ⟨a, b, c, d, e, f, rfl⟩ := list6e hr
  match k, hk with
  | 0, _ | 1, _ | 2, _ | 3, _ | 4, _ | 5, _ => rfl
theorem c_Made (g : List Int) (ag : Option Addr) (cg bk : Nat) (hgl : g.length ≤ 9223372036854775807) (tq mx : Int) (htq : 0 ≤ tq ∧ tq ≤ 1000000) (hmx : 0 ≤ mx ∧ mx ≤ 4294967295) (nb ng : Int) (hnb : 1 ≤ nb ∧ nb ≤ 4) (hng : 0 ≤ ng ∧ ng ≤ 3) (H : Heap) (R : Facts) [hG : MemRows ag 1 (urows g) R] :
    Fn Try.prog 44 [.pointer (some ⟨bk, 0, none⟩), .int .i64 nb, .int .i64 ng] ((bk, cel 144 [.slice ag g.length cg, .int .i64 (tq), .int .u32 (mx)]) :: H) R (fun v H' R' => ∃ (b : Barn) (ab : Option Addr) (cb : Nat) (tq' mx' : Int), MadeH b nb ng ∧ v = b.v (b.sl ab cb) ∧ (tq ≤ tq' ∧ tq' ≤ tq + 40) ∧ (0 ≤ mx' ∧ mx' ≤ 4294967295) ∧
      H' = (bk, cel 144 [.slice ag g.length cg, .int .i64 (tq'), .int .u32 (mx')]) :: H ∧ R' = RowsA ab 4 (brows b.bins) :: R) := by
 refine fn_of Try.func44 rfl Try.ntmps44 rfl ?_
 refine sy_seq ?_
 refine sy_tx' [0] rfl ?_
 refine alc rfl zl25 rfl (fun b6 => ?_)
 refine sy_seq ?_
 refine sy_tx' [0, 1, 2, 3, 4, 5, 6, 7] rfl ?_
 refine sp rfl (PE.move rfl) rfl ?_
 refine sy_pull bk ?_
 refine cl rfl cal63 rfl rfl (c_Below g ag cg bk hgl _ _ (by omega) (by assumption) (30) _ _) ?_
 rintro _ _ R1 ⟨x13, m13, hx13, rfl, hm13, rfl, hR1⟩
 obtain rfl := hR1.symm
 refine sp rfl (PE.move rfl) rfl ?_
 refine sp rfl (PE.move rfl) rfl ?_
 refine cl rfl cal65 rfl rfl (c_Among g ag cg bk hgl _ _ (by omega) (by assumption) (0) (ng) (by first | omega | (dsimp only; omega)) _ _) ?_
 rintro _ _ R1 ⟨x16, m16, hx16, rfl, hm16, rfl, hR1⟩
 obtain rfl := hR1.symm
 refine sp rfl (PE.build (out := btl ⟨x13, x16, [0, 0, 0, 0, 0, 0], []⟩ (.slice none 0 0)) pl25 zl25 rfl rfl) rfl ?_
 refine alc rfl zl25 rfl (fun b7 => ?_)
 refine sto rfl rfl rfl cn25 rfl rfl rfl rfl ?_
 refine sy_seq ?_
 refine sy_tx' [0, 1, 2] rfl ?_
 refine sp rfl (PE.move rfl) rfl ?_
 refine sy_pull bk ?_
 refine cl rfl cal65 rfl rfl (c_Among g ag cg bk hgl _ _ (by omega) (by assumption) (0) (2) (by first | omega | (dsimp only; omega)) _ _) ?_
 rintro _ _ R1 ⟨x19, m19, hx19, rfl, hm19, rfl, hR1⟩
 obtain rfl := hR1.symm
 refine sp rfl (PE.assign rfl) rfl ?_
 refine sy_seq ?_
 refine sy_seq ?_
 refine sy_tx' [0, 1] rfl ?_
 refine sp rfl (PE.move rfl) rfl ?_
 refine sp rfl (PE.assign rfl) rfl ?_
 refine sy_block ?_
 obtain ⟨n, rfl⟩ : ∃ n : Nat, x19 = n := ⟨x19.toNat, by omega⟩
 refine sy_loop (ι := {x : Nat × List Int × Int × Int // RiseI n x.1 x.2.1 ∧ (tq + 3 ≤ x.2.2.1 ∧ x.2.2.1 ≤ tq + 3 + x.1) ∧ (0 ≤ x.2.2.2 ∧ x.2.2.2 ≤ 4294967295)}) (fun x => ⟨[(0, .pointer (some ⟨bk, 0, none⟩)), (1, .int .i64 nb), (6, .pointer (some ⟨b6, 0, none⟩)), (7, .pointer (some ⟨b7, 0, none⟩)), (8, .int .i64 n), (9, .int .i64 x.1.1)], (bk, cel 144 [.slice ag g.length cg, .int .i64 (x.1.2.2.1), .int .u32 (x.1.2.2.2)]) :: (b7, cel 25 (btl ⟨x13, x16, x.1.2.1, []⟩ (.slice none 0 0))) :: (b6, cel 25 (btl zbarn (.slice none 0 0))) :: H, R⟩) (fun x => 6 - x.1.1) ⟨(n, [0, 0, 0, 0, 0, 0], tq + 1 + 1 + 1, m19), RiseI.start (by omega), by dsimp only; omega, by assumption⟩ ?_ (fun x => ?_)
 exact sy_at (by repeat' first | exact Sub.nil | apply Sub.cons | rfl | (simp [lk]; omega)) (fun _ h => h)
 obtain ⟨⟨c, rs, tq2, mx2⟩, hri, htq2, hmx2⟩ := x
 dsimp only at hri htq2 hmx2 ⊢
 have hle := hri.le
 have hrl := hri.len
 refine sy_seq ?_
 refine sy_seq ?_
 refine sy_tx' [0, 1] rfl ?_
 refine sp rfl (PE.move rfl) rfl ?_
 refine sp rfl (PE.lss rfl rfl) rfl ?_
 refine sy_cond rfl (fun hc0 => ?_) (fun hc0 => ?_)
 try simp only [decide_eq_true_eq, decide_eq_false_iff_not, Bool.and_eq_true, Bool.or_eq_true, Bool.not_eq_true', Int.not_le, Int.not_lt] at hc0
 refine sy_skip ?_
 refine sy_seq ?_
 refine sy_block ?_
 refine sy_seq ?_
 refine sy_tx' [0] rfl ?_
 refine sp rfl (PE.assign rfl) rfl ?_
 refine sy_seq ?_
 refine sy_seq ?_
 refine sy_tx' [0, 1, 2] rfl ?_
 refine sp rfl (PE.move rfl) rfl ?_
 refine sp rfl (PE.move rfl) rfl ?_
 refine sp rfl (PE.gtr rfl rfl) rfl ?_
 refine sy_cond rfl (fun hc1 => ?_) (fun hc1 => ?_)
 try simp only [decide_eq_true_eq, decide_eq_false_iff_not, Bool.and_eq_true, Bool.or_eq_true, Bool.not_eq_true', Int.not_le, Int.not_lt] at hc1
 have hrp := hri.rise (c - 1) (by omega) (by omega)
 refine sy_tx' [0, 1, 2, 3, 4, 5] rfl ?_
 refine sp rfl (PE.move rfl) rfl ?_
 refine sp rfl (PE.sub rfl rfl (by omega)) rfl ?_
 rw [show (c : Int) - 1 = ((c - 1 : Nat) : Int) by omega]
 refine sp rfl (PE.fieldAddr fo25_2 rfl) rfl ?_
 refine sp rfl (PE.indexArr ar22 rfl rfl (by omega) (by omega)) rfl ?_
 refine spL rfl rfl (lh sc3 rfl (btl_get (by omega))) rfl ?_
 refine sp rfl (PE.assign rfl) rfl ?_
 refine sy_tx' [0, 1, 2, 3, 4, 5, 6, 7, 8] rfl ?_
 refine sp rfl (PE.move rfl) rfl ?_
 refine sp rfl (PE.move rfl) rfl ?_
 refine sp rfl (PE.move rfl) rfl ?_
 refine sy_pull bk ?_
 refine cl rfl cal63 rfl rfl (c_Below g ag cg bk hgl _ _ (by omega) (by assumption) (4) _ _) ?_
 rintro _ _ R1 ⟨x36, m36, hx36, rfl, hm36, rfl, hR1⟩
 obtain rfl := hR1.symm
 refine sp rfl (PE.add rfl rfl (by omega)) rfl ?_
 refine sp rfl (PE.min rfl rfl) rfl ?_
 refine sp rfl (PE.fieldAddr fo25_2 rfl) rfl ?_
 refine sp rfl (PE.indexArr ar22 rfl rfl (by omega) (by omega)) rfl ?_
 first | refine stoE (l' := btl ⟨x13, x16, rs.set c (min 20 (na rs (c - 1) + x36)), []⟩ (.slice none 0 0)) rfl rfl rfl cn3 rfl rfl rfl (btl_put (by omega) hrl _) (by show 0 + 2 + ((c : Nat) : Int).toNat * 1 + 1 ≤ 9; omega) ?_ | refine stoE (l' := btl ⟨x13, x16, rs.set c (min 20 (6 + x36)), []⟩ (.slice none 0 0)) rfl rfl rfl cn3 rfl rfl rfl (btl_put (by omega) hrl _) (by show 0 + 2 + ((c : Nat) : Int).toNat * 1 + 1 ≤ 9; omega) ?_
 refine sy_tx' [0, 1, 2] rfl ?_
 refine sp rfl (PE.move rfl) rfl ?_
 refine sp rfl (PE.add rfl rfl (by omega)) rfl ?_
 refine sp rfl (PE.assign rfl) rfl ?_
 first | exact sy_next ⟨(c + 1, rs.set c (min 20 (na rs (c - 1) + x36)), tq2 + 1, m36), hri.more (by omega) (by omega) (fun _ => by omega), by dsimp only; omega, by assumption⟩ (by dsimp only; omega) (by repeat' first | exact Sub.nil | apply Sub.cons | rfl | (simp [lk]; omega)) (fun _ h => h) | exact sy_next ⟨(c + 1, rs.set c (min 20 (6 + x36)), tq2 + 1, m36), hri.more (by omega) (by omega) (fun h => by omega), by dsimp only; omega, by assumption⟩ (by dsimp only; omega) (by repeat' first | exact Sub.nil | apply Sub.cons | rfl | (simp [lk]; omega)) (fun _ h => h)
 try simp only [decide_eq_true_eq, decide_eq_false_iff_not, Bool.and_eq_true, Bool.or_eq_true, Bool.not_eq_true', Int.not_le, Int.not_lt] at hc1
 refine sy_skip ?_
 refine sy_tx' [0, 1, 2, 3, 4, 5, 6, 7, 8] rfl ?_
 refine sp rfl (PE.move rfl) rfl ?_
 refine sp rfl (PE.move rfl) rfl ?_
 refine sp rfl (PE.move rfl) rfl ?_
 refine sy_pull bk ?_
 refine cl rfl cal63 rfl rfl (c_Below g ag cg bk hgl _ _ (by omega) (by assumption) (4) _ _) ?_
 rintro _ _ R1 ⟨x36, m36, hx36, rfl, hm36, rfl, hR1⟩
 obtain rfl := hR1.symm
 refine sp rfl (PE.add rfl rfl (by omega)) rfl ?_
 refine sp rfl (PE.min rfl rfl) rfl ?_
 refine sp rfl (PE.fieldAddr fo25_2 rfl) rfl ?_
 refine sp rfl (PE.indexArr ar22 rfl rfl (by omega) (by omega)) rfl ?_
 first | refine stoE (l' := btl ⟨x13, x16, rs.set c (min 20 (na rs (c - 1) + x36)), []⟩ (.slice none 0 0)) rfl rfl rfl cn3 rfl rfl rfl (btl_put (by omega) hrl _) (by show 0 + 2 + ((c : Nat) : Int).toNat * 1 + 1 ≤ 9; omega) ?_ | refine stoE (l' := btl ⟨x13, x16, rs.set c (min 20 (6 + x36)), []⟩ (.slice none 0 0)) rfl rfl rfl cn3 rfl rfl rfl (btl_put (by omega) hrl _) (by show 0 + 2 + ((c : Nat) : Int).toNat * 1 + 1 ≤ 9; omega) ?_
 refine sy_tx' [0, 1, 2] rfl ?_
 refine sp rfl (PE.move rfl) rfl ?_
 refine sp rfl (PE.add rfl rfl (by omega)) rfl ?_
 refine sp rfl (PE.assign rfl) rfl ?_
 first | exact sy_next ⟨(c + 1, rs.set c (min 20 (na rs (c - 1) + x36)), tq2 + 1, m36), hri.more (by omega) (by omega) (fun _ => by omega), by dsimp only; omega, by assumption⟩ (by dsimp only; omega) (by repeat' first | exact Sub.nil | apply Sub.cons | rfl | (simp [lk]; omega)) (fun _ h => h) | exact sy_next ⟨(c + 1, rs.set c (min 20 (6 + x36)), tq2 + 1, m36), hri.more (by omega) (by omega) (fun h => by omega), by dsimp only; omega, by assumption⟩ (by dsimp only; omega) (by repeat' first | exact Sub.nil | apply Sub.cons | rfl | (simp [lk]; omega)) (fun _ h => h)
 try simp only [decide_eq_true_eq, decide_eq_false_iff_not, Bool.and_eq_true, Bool.or_eq_true, Bool.not_eq_true', Int.not_le, Int.not_lt] at hc0
 obtain rfl : c = 6 := by omega
 refine sy_exit ?_
 repeat refine sy_tx ?_
 refine sy_bx ?_
 refine sy_seq ?_
 refine sy_seq ?_
 refine sy_tx' [0, 1, 2, 3] rfl ?_
 refine sp rfl (PE.move rfl) rfl ?_
 refine sp rfl (PE.move rfl) rfl ?_
 refine cl rfl cal65 rfl rfl (c_Among g ag cg bk hgl _ _ (by omega) (by assumption) (1) (nb) (by first | omega | (dsimp only; omega)) _ _) ?_
 rintro _ _ R1 ⟨x43, m43, hx43, rfl, hm43, rfl, hR1⟩
 obtain rfl := hR1.symm
 refine sp rfl (PE.move rfl) rfl ?_
 refine sy_block ?_
 obtain ⟨n43, rfl⟩ : ∃ n : Nat, x43 = n := ⟨x43.toNat, by omega⟩
 refine sy_loop (ι := (x : {x : Nat × List HBin × Int × Int // x.1 ≤ n43 ∧ x.2.1.length = x.1 ∧ (∀ y ∈ x.2.1, BinH y) ∧ (tq ≤ x.2.2.1 ∧ x.2.2.1 ≤ tq + 10 + 4 * x.1) ∧ (0 ≤ x.2.2.2 ∧ x.2.2.2 ≤ 4294967295)}) × OSl 45 4 (brows x.1.2.1)) (fun x => ⟨[(0, .pointer (some ⟨bk, 0, none⟩)), (1, .int .i64 nb), (6, .pointer (some ⟨b6, 0, none⟩)), (7, .pointer (some ⟨b7, 0, none⟩)), (8, .int .i64 n), (43, .int .i64 n43), (44, .int .i64 x.1.1.1)], (bk, cel 144 [.slice ag g.length cg, .int .i64 (x.1.1.2.2.1), .int .u32 (x.1.1.2.2.2)]) :: (x.2.G ++ (b7, cel 25 (btl ⟨x13, x16, rs, x.1.1.2.1⟩ x.2.fs)) :: (b6, cel 25 (btl zbarn (.slice none 0 0))) :: H), R⟩) (fun x => n43 - x.1.1.1) ⟨⟨(0, [], tq2 + 1, m43), Nat.zero_le _, rfl, by simp, by dsimp only; omega, by assumption⟩, OSl.nil _ _⟩ ?_ (fun x => ?_)
 exact sy_at (by repeat' first | exact Sub.nil | apply Sub.cons | rfl | (simp [lk]; omega)) (fun _ h => h)
 obtain ⟨⟨⟨i, bl, tq3, mx3⟩, hi, hbl, hbh, htq3, hmx3⟩, o⟩ := x
 dsimp only at hi hbl hbh htq3 hmx3 o ⊢
 refine sy_seq ?_
 refine sy_tx' [0] rfl ?_
 refine sp rfl (PE.lss rfl rfl) rfl ?_
 refine sy_seq ?_
 refine sy_cond rfl (fun hc2 => ?_) (fun hc2 => ?_)
 try simp only [decide_eq_true_eq, decide_eq_false_iff_not, Bool.and_eq_true, Bool.or_eq_true, Bool.not_eq_true', Int.not_le, Int.not_lt] at hc2
 refine sy_skip ?_
 refine sy_seq ?_
 refine sy_block ?_
 refine sy_seq ?_
 refine sy_tx' [0, 1, 2, 3, 4, 5, 6, 7] rfl ?_
 refine sp rfl (PE.move rfl) rfl ?_
 refine cl rfl cal65 rfl rfl (c_Among g ag cg bk hgl _ _ (by omega) (by assumption) (18) (60) (by first | omega | (dsimp only; omega)) _ _) ?_
 rintro _ _ R1 ⟨x47, m47, hx47, rfl, hm47, rfl, hR1⟩
 obtain rfl := hR1.symm
 refine sp rfl (PE.move rfl) rfl ?_
 refine cl rfl cal63 rfl rfl (c_Below g ag cg bk hgl _ _ (by omega) (by assumption) (6) _ _) ?_
 rintro _ _ R1 ⟨x49, m49, hx49, rfl, hm49, rfl, hR1⟩
 obtain rfl := hR1.symm
 refine sp rfl (PE.build (out := [_, _]) pl43 zl43 rfl rfl) rfl ?_
 refine sp rfl (PE.build (out := [_, _, _, _]) pl45 zl45 rfl rfl) rfl ?_
 refine alc rfl zl45 rfl (fun b11 => ?_)
 refine sto rfl rfl rfl cn45 rfl rfl rfl rfl ?_
 refine sy_seq ?_
 refine sy_draw [0, 0, 2, 6, 14, 31, 0, 0, 128, 384, 0, 1024, 3072, 7168, 15360, 32767, 8127, 131071, 262143, 524287, 1048575] (.tk 0 (.tk 1 (.ld 2 (.tk 3 (.tk 4 (.tk 6 (.tk 7 (.tk 8 (.ld 9 (.tk 10 (.tk 11 (.ld 12 (.tk 13 (.tk 14 (.big 5 (.tk 16 (.big 15 (.big 17 (.tk 18 (.tk 19 (.big 20 .done))))))))))))))))))))) mixed (by kernel_rfl) ?_
 refine tk rfl (PE.move rfl) rfl ?_
 refine tk rfl (PE.fieldAddr fo45_1 rfl) rfl ?_
 refine ld rfl rfl (lh sc3 rfl rfl) rfl ?_
 refine tk rfl (PE.min rfl rfl) rfl ?_
 refine tk rfl (PE.add rfl rfl (by omega)) rfl ?_
 refine tk rfl (PE.move rfl) rfl ?_
 refine tk rfl (PE.fieldAddr fo45_2 rfl) rfl ?_
 refine tk rfl (PE.fieldAddr fo43_0 rfl) rfl ?_
 refine ld rfl rfl (lh sc3 rfl rfl) rfl ?_
 refine tk rfl (PE.fieldAddr fo45_2 rfl) rfl ?_
 refine tk rfl (PE.fieldAddr fo43_0 rfl) rfl ?_
 refine ld rfl rfl (lh sc3 rfl rfl) rfl ?_
 refine tk rfl (PE.add rfl rfl (by omega)) rfl ?_
 refine tk rfl (PE.min rfl rfl) rfl ?_
 refine sy_pull bk ?_
 refine cl rfl cal63 rfl rfl (c_Below g ag cg bk hgl _ _ (by omega) (by assumption) (min x47 30 + 1) _ _) ?_
 rintro _ _ R1 ⟨x57, m57, hx57, rfl, hm57, rfl, hR1⟩
 obtain rfl := hR1.symm
 refine bg (fun w hs => ⟨(lh sc3 rfl rfl) w hs, (lh sc3 rfl rfl) w hs, trivial, trivial⟩) ?_
 refine tk rfl (PE.fieldAddr fo45_0 rfl) rfl ?_
 refine sy_pull bk ?_
 refine cl rfl cal65 rfl rfl (c_Among g ag cg bk hgl _ _ (by omega) (by assumption) (x49) (min 5 (x49 + 2)) (by first | omega | (dsimp only; omega)) _ _) ?_
 rintro _ _ R1 ⟨x67, m67, hx67, rfl, hm67, rfl, hR1⟩
 obtain rfl := hR1.symm
 refine bg (fun w hs => ⟨trivial, trivial, trivial⟩) ?_
 refine sto rfl rfl rfl cn3 rfl rfl rfl rfl ?_
 refine bg (fun w hs => trivial) ?_
 refine tk rfl (PE.fieldAddr fo45_2 rfl) rfl ?_
 refine tk rfl (PE.fieldAddr fo43_1 rfl) rfl ?_
 refine sto rfl rfl rfl cn3 rfl rfl rfl rfl ?_
 refine bg (fun w hs => trivial) ?_
 refine sy_tx' [0, 1, 2, 3, 4, 5, 6] rfl ?_
 refine sp rfl (PE.fieldAddr fo25_3 rfl) rfl ?_
 refine spL rfl rfl (lh sc23 rfl rfl) rfl ?_
 refine spL rfl rfl (lhA [.int .i64 x57, .int .i64 x47, .int .i64 x49, .int .i64 x67] ag45 rfl rfl rfl) rfl ?_
 refine bsl (out := [_, _, _, _]) rfl sl23 zl45 rfl rfl rfl rfl rfl rfl (fun b74 => ?_)
 refine apO (o) rfl ap23 rfl rfl (rowsH (row := brow ⟨x57, x47, x49, x67⟩) rfl) rfl rfl ((by rw [brows_len]; simp only [List.length_singleton]; omega)) rfl (fun o75 => ?_)
 refine sp rfl (PE.fieldAddr fo25_3 rfl) rfl ?_
 refine stoE (l' := btl ⟨x13, x16, rs, bl ++ [⟨x57, x47, x49, x67⟩]⟩ o75.fs) rfl rfl rfl cn23 rfl (by rw [o75.cells.1]; first | done | rfl) (by rw [o75.cells.1]; simp [o75.cells.2]) (by rw [o75.cells.1]; first | done | rfl) (by rw [o75.cells.1]; first | done | exact Nat.le_of_ble_eq_true rfl) ?_
 refine sy_tx' [0, 1] rfl ?_
 refine sp rfl (PE.add rfl rfl (by omega)) rfl ?_
 refine sp rfl (PE.move rfl) rfl ?_
 exact sy_next ⟨⟨(i + 1, bl ++ [⟨x57, x47, x49, x67⟩], tq3 + 1 + 1 + 1 + 1, m67), by dsimp only; omega, by rw [List.length_append, hbl]; rfl, fun y hy => by
   rcases List.mem_append.1 hy with hy | hy
   · exact hbh y hy
   · rw [List.mem_singleton.1 hy]; exact ⟨by dsimp only; omega, by dsimp only; omega, by dsimp only; omega, by dsimp only; omega⟩, by dsimp only; omega, by assumption⟩, o75.cast (by rw [brows_app]; rfl)⟩ (by dsimp only; omega) (by repeat' first | exact Sub.nil | apply Sub.cons | rfl | (simp [lk]; omega)) (fun w h => (h.del b74).del b11)
 try simp only [decide_eq_true_eq, decide_eq_false_iff_not, Bool.and_eq_true, Bool.or_eq_true, Bool.not_eq_true', Int.not_le, Int.not_lt] at hc2
 obtain rfl : i = n43 := by omega
 obtain ⟨ab, cb, he, hf⟩ := o.freeze
 rw [he, brows_len]
 refine Sy.heap (H' := _) (fun w h => hf (h.perm (List.perm_middle (l₁ := o.G) (a := _)).symm)) ?_
 clear he hf
 have hmade := made_ok (nb := nb) (ng := ng) hri hbh (by omega) (by omega) (show 0 ≤ x13 ∧ x13 ≤ 60 by omega) (show 0 ≤ x16 ∧ x16 ≤ 3 by omega) (by omega)
 refine sy_exit ?_
 repeat refine sy_tx ?_
 refine sy_bx ?_
 refine sy_seq ?_
 refine sy_tx' [0, 1] rfl ?_
 refine spL rfl rfl (lhA (btl ⟨x13, x16, rs, bl⟩ (.slice ab bl.length cb)) ag25 rfl rfl rfl) rfl ?_
 refine sto rfl rfl rfl cn25 rfl rfl rfl rfl ?_
 refine sy_ret ?_
 exact sy_return (vs := [_]) rfl (.cons (RV.cell rfl (lhA (btl ⟨x13, x16, rs, bl⟩ (.slice ab bl.length cb)) ag25 rfl rfl rfl)) .nil) rfl ⟨⟨x13, x16, rs, bl⟩, ab, cb, _, _, hmade, rfl, ⟨by omega, by omega⟩, by assumption, rfl, rfl⟩ (fun w h => ((h.del b7).del b6))
end Go.Proofs.Ytelegnmfhjfbaaa
namespace Go.Proofs.Ytelegnmfhjfbaaa
set_option linter.unusedSimpArgs false
set_option linter.unusedVariables false
open Go
theorem cal64 : cal Try.prog 64 = true := by kernel_rfl
structure DayI (sp : List Nat) (k : Nat) (l : List Int) : Prop where
  nd : l.Nodup
  mem : ∀ y ∈ l, ∃ i j : Nat, i < k ∧ sp[i]? = some j ∧ y = (j : Int)
theorem DayI.skip {sp : List Nat} {k : Nat} {l : List Int} (h : DayI sp k l) : DayI sp (k + 1) l := ⟨h.nd, fun y hy => by obtain ⟨i, j, h1, h2⟩ := h.mem y hy; exact ⟨i, j, by omega, h2⟩⟩
theorem DayI.more {sp : List Nat} {k j : Nat} {l : List Int} (h : DayI sp k l) (hn : sp.Nodup) (hj : sp[k]? = some j) : DayI sp (k + 1) (l ++ [(j : Int)]) := by
  refine ⟨List.nodup_append.2 ⟨h.nd, by simp, fun x hx y hy e => ?_⟩, fun y hy => ?_⟩
  · rw [List.mem_singleton] at hy
    obtain ⟨i, j', h1, h2, h3⟩ := h.mem x hx
    have e2 : j' = j := by omega
    subst e2
    have hi := (List.getElem?_eq_some_iff.1 h2).1
    have := (List.getElem?_inj hi hn).1 (h2.trans hj.symm)
    omega
  · rcases List.mem_append.1 hy with hy | hy
    · obtain ⟨i, j', h1, h2⟩ := h.mem y hy; exact ⟨i, j', by omega, h2⟩
    · rw [List.mem_singleton.1 hy]; exact ⟨k, j, by omega, hj, rfl⟩
structure Cls (b : Barn) (cl : List Int) : Prop where
  len : cl.length = b.bins.length
  at_ : ∀ k x, b.bins[k]? = some x → x.lo ≤ na cl k ∧ na cl k ≤ x.hi
theorem Cls.rise {b : Barn} (hok : b.ok) {cl : List Int} (h : Cls b cl) : ∀ k < b.bins.length, na b.rise (na cl k).toNat ≤ b.worst (b.bins.getD k hb0) := fun k hk => by
  obtain ⟨x, hx⟩ : ∃ x, b.bins[k]? = some x := ⟨_, List.getElem?_eq_getElem hk⟩
  rw [bin_getD hx]
  have h1 := h.at_ k x hx
  have h2 := hok.bins x (List.mem_of_getElem? hx)
  exact srt_le hok.srt (by omega) (by rw [hok.len]; omega)
end Go.Proofs.Ytelegnmfhjfbaaa
namespace Go.Proofs.Ytelegnmfhjfbaaa
set_option linter.unusedSimpArgs false
set_option linter.unusedVariables false
open Go
theorem cal44 : cal Try.prog 44 = true := by kernel_rfl
theorem cal45 : cal Try.prog 45 = true := by kernel_rfl
theorem days_fin {b : Barn} (hok : b.ok) {x : HBin} (hx : x ∈ b.bins) (h0 : b.worst x ≠ 0) {w : Int} (hw : 0 ≤ w) : 0 ≤ b.days x w ∧ b.days x w ≤ 10 := by
  have h1 := b.worst_range hok hx
  have h2 := (hok.bins x hx).1
  unfold Barn.days daysB
  rw [decide_eq_false h0, cond_false]
  by_cases h3 : x.mark < w
  · rw [decide_eq_true h3, cond_true]; omega
  · rw [decide_eq_false h3, cond_false]
    have h4 : (x.mark - w) / b.worst x < 11 := Int.ediv_lt_of_lt_mul (by omega) (by omega)
    have h5 : 0 ≤ (x.mark - w) / b.worst x := Int.ediv_nonneg (by omega) (by omega)
    omega
theorem days_ever {b : Barn} {x : HBin} (h0 : b.worst x = 0) (w : Int) : b.days x w = 1000000 := by unfold Barn.days daysB; rw [h0]; rfl
theorem c_LeftK (b : Barn) (ab : Option Addr) (cb : Nat) (hl : b.bins.length ≤ 9223372036854775807) (hr : b.rise.length = 6) (hck : b.check = 0) {k : Nat} {x : HBin} (hx : b.bins[k]? = some x) (H : Heap) (R : Facts) [hB : MemRows ab 4 (brows b.bins) R] : FnV Try.prog 51 [b.v (b.sl ab cb), .int .i64 k] H R (.tuple #[.int .i64 (b.days x x.warm), .int .i64 0]) := by
  have h := c_Left b ab cb hl hr k H R
  rw [Barn.known_ok hck hx, binAt_of hx] at h
  exact h
end Go.Proofs.Ytelegnmfhjfbaaa
namespace Go.Proofs.Ytelegnmfhjfbaaa
set_option linter.unusedSimpArgs false
set_option linter.unusedVariables false
open Go
theorem c_LongestX (b : Barn) (ab : Option Addr) (cb : Nat) (hl : b.bins.length ≤ 9223372036854775807) (hr : b.rise.length = 6) (hck : b.check = 0) (H : Heap) (R : Facts) [hB : MemRows ab 4 (brows b.bins) R] : Fn Try.prog 35 [b.v (b.sl ab cb)] H R (fun v H' R' => (∃ m, Kpt b.dsk b.state m ∧ v = .tuple #[.int .i64 m, .int .i64 0]) ∧ H' = H ∧ R' = R) := fun w hw => by
  refine CallsIn.mono (c_Longest b ab cb hl hr H R w hw) ?_
  rintro e' w' ⟨u, H', R', ⟨h1, h2, h3⟩, he, hs'⟩
  refine ⟨u, H', R', ⟨?_, h2, h3⟩, he, hs'⟩
  rcases h1 with ⟨h, _⟩ | ⟨_, m, hm, rfl⟩
  · exact absurd hck h
  · exact ⟨m, hm, rfl⟩
end Go.Proofs.Ytelegnmfhjfbaaa
namespace Go.Proofs.Ytelegnmfhjfbaaa
set_option linter.unusedSimpArgs false
set_option linter.unusedVariables false
open Go
structure NoW (b b' : Barn) : Prop where
  ok : b'.ok
  check : b'.check = 0
  les : Les b.dsk b'.dsk
  st : ∀ k < b.dsk.n, na b.state k ≤ na b'.state k
theorem NoW.kpt {b b' : Barn} (h : NoW b b') (hok : b.ok) {v v' : Int} (hv : Kpt b.dsk b.state v) (hv' : Kpt b'.dsk b'.state v') : v ≤ v' :=
  (h.les.kpt (b.dsk_ok hok) (b'.dsk_ok h.ok) (b.state_inS hok) (b'.state_inS h.ok) h.st hv hv').1
end Go.Proofs.Ytelegnmfhjfbaaa
namespace Go.Proofs.Ytelegnmfhjfbaaa
set_option linter.unusedSimpArgs false
set_option linter.unusedVariables false
open Go
structure Prm (d d' : Dsk) (f g : Nat → Nat) : Prop where
  n : d.n = d'.n
  gg : d.gangs = d'.gangs
  st : ∀ i < d.n, f i < d.n ∧ g (f i) = i
  ts : ∀ i < d.n, g i < d.n ∧ f (g i) = i
  lasts : ∀ i < d.n, na d'.lasts (f i) = na d.lasts i
theorem Prm.symm {d d' : Dsk} {f g : Nat → Nat} (h : Prm d d' f g) : Prm d' d g f where
  n := h.n.symm
  gg := h.gg.symm
  st i hi := by have hn := h.n; have := h.ts i (by omega); exact ⟨by omega, this.2⟩
  ts i hi := by have hn := h.n; have := h.st i (by omega); exact ⟨by omega, this.2⟩
  lasts i hi := by
    have hn := h.n
    obtain ⟨h1, h2⟩ := h.ts i (by omega)
    have := h.lasts (g i) h1
    rw [h2] at this
    exact this.symm
def Prs (n : Nat) (f : Nat → Nat) (s s' : HSt) : Prop := ∀ i < n, na s' (f i) = na s i
def prl (n : Nat) (f : Nat → Nat) (l : List Nat) : List Nat := bitl n (setN (l.map f))
theorem Prm.mem {d d' : Dsk} {f g : Nat → Nat} (h : Prm d d' f g) {l : List Nat} (hl : ∀ k ∈ l, k < d.n) {i : Nat} (hi : i < d.n) : f i ∈ prl d.n f l ↔ i ∈ l := by
  unfold prl
  rw [mem_bitl, setN_mem, decide_eq_true_eq, List.mem_map]
  constructor
  · rintro ⟨_, j, hj, e⟩
    have h1 := (h.st j (hl j hj)).2
    have h2 := (h.st i hi).2
    rw [e, h2] at h1
    rw [h1]; exact hj
  · intro hm; exact ⟨(h.st i hi).1, i, hm, rfl⟩
theorem bitl_nodup (n u : Nat) : (bitl n u).Nodup := by unfold bitl; exact List.nodup_range.filter _
theorem Prm.len {d d' : Dsk} {f g : Nat → Nat} (h : Prm d d' f g) {l : List Nat} (hl : ∀ k ∈ l, k < d.n) (hn : l.Nodup) : (prl d.n f l).length = l.length := by
  have h1 : (prl d.n f l).length ≤ (l.map f).length := nodup_len (bitl_nodup _ _) fun x hx => by
    unfold prl at hx
    rw [mem_bitl, setN_mem, decide_eq_true_eq] at hx
    exact hx.2
  have h2 : (l.map f).length ≤ (prl d.n f l).length := nodup_len (nodup_map (fun x hx y hy e => by
    have e1 := (h.st x (hl x hx)).2
    have e2 := (h.st y (hl y hy)).2
    rw [e, e2] at e1; exact e1.symm) hn) fun x hx => by
      obtain ⟨j, hj, rfl⟩ := List.mem_map.1 hx
      exact (h.mem hl (hl j hj)).2 hj
  rw [List.length_map] at h1 h2
  omega
theorem Prm.trs {d d' : Dsk} {f g : Nat → Nat} (h : Prm d d' f g) {l : List Nat} (hl : l ∈ d.trs false) : prl d.n f l ∈ d'.trs false ∧ (prl d.n f l).length = l.length := by
  have hlt := d.trs_lt hl
  obtain ⟨u, hu, rfl, h1, _⟩ := d.mem_trs.1 hl
  have e := h.len hlt (bitl_nodup _ _)
  have hn := h.n; have hg := h.gg
  refine ⟨d'.mem_trs.2 ⟨setN ((bitl d.n u).map f), ?_, by rw [← hn]; rfl, ?_, fun h => by cases h⟩, e⟩
  · rw [← hn]
    exact setN_lt fun k hk => by
      obtain ⟨j, hj, rfl⟩ := List.mem_map.1 hk
      exact (h.st j (hlt j hj)).1
  · rw [e]
    unfold Dsk.g at h1 ⊢
    omega
theorem Prm.mid {d d' : Dsk} {f g : Nat → Nat} (h : Prm d d' f g) {s s' : HSt} (hs : Prs d.n f s s') {l : List Nat} (hl : ∀ k ∈ l, k < d.n) {i : Nat} (hi : i < d.n) : d'.mid s' (prl d.n f l) (f i) = d.mid s l i := by
  unfold Dsk.mid
  rw [hs i hi, h.lasts i hi]
  by_cases hm : i ∈ l
  · rw [if_pos hm, if_pos ((h.mem hl hi).2 hm)]
  · rw [if_neg hm, if_neg (fun h2 => hm ((h.mem hl hi).1 h2))]
theorem Prm.next {d d' : Dsk} {f g : Nat → Nat} (h : Prm d d' f g) (hd : d.ok) {s s' t : HSt} (hsl : s.length = 4) (hsl' : s'.length = 4) (hs : Prs d.n f s s') {l : List Nat} (hl : ∀ k ∈ l, k < d.n) (e : d.next s l = some t) :
    ∃ t', d'.next s' (prl d.n f l) = some t' ∧ Prs d.n f t t' ∧ t.length = 4 ∧ t'.length = 4 := by
  have hn := h.n; have hn4 := hd.n
  obtain ⟨h1, h2⟩ := d.next_at hd.n.2 hsl hl e
  have hl' : ∀ k ∈ prl d.n f l, k < d'.n := fun k hk => by rw [← hn]; exact bitl_lt hk
  obtain ⟨t', ht'⟩ := d'.next_some (by omega) hsl' hl' (fun k hk => by
    have hk0 : k < d.n := by omega
    obtain ⟨g1, g2⟩ := h.ts k hk0
    have := h.mid hs hl g1
    rw [g2] at this
    rw [this]
    exact (h2 (g k)).1 g1)
  obtain ⟨h3, h4⟩ := d'.next_at (by omega) hsl' hl' ht'
  refine ⟨t', ht', fun i hi => ?_, h1, h3⟩
  obtain ⟨f1, _⟩ := h.st i hi
  rw [(h4 (f i)).2, (h2 i).2, h.mid hs hl hi]
  by_cases hc : d.mid s l i ≠ 1000000
  · rw [if_pos ⟨by omega, hc⟩, if_pos ⟨hi, hc⟩]
  · rw [if_neg (fun h => hc h.2), if_neg (fun h => hc h.2)]
theorem Prm.pth {d d' : Dsk} {f g : Nat → Nat} (h : Prm d d' f g) (hd : d.ok) {s s' : HSt} (hsl : s.length = 4) (hsl' : s'.length = 4) (hs : Prs d.n f s s') : ∀ {m : Nat} {t : HSt} {c : Nat}, d.pth m s t c → ∃ t', d'.pth m s' t' c ∧ Prs d.n f t t' ∧ t.length = 4 ∧ t'.length = 4
  | 0, t, c, hp => by obtain ⟨rfl, rfl⟩ := hp; exact ⟨s', ⟨rfl, rfl⟩, hs, hsl, hsl'⟩
  | m + 1, t, c, hp => by
    obtain ⟨u, a, l, h1, h2, h3, rfl⟩ := hp
    obtain ⟨u', i1, i2, i3, i4⟩ := Prm.pth h hd hsl hsl' hs h1
    obtain ⟨t', j1, j2, j3, j4⟩ := h.next hd i3 i4 i2 (d.trs_lt h2) h3
    obtain ⟨k1, k2⟩ := h.trs h2
    exact ⟨t', ⟨u', a, _, i1, k1, j1, by rw [k2]⟩, j2, j3, j4⟩
theorem Prs.symm {d d' : Dsk} {f g : Nat → Nat} (h : Prm d d' f g) {s s' : HSt} (hs : Prs d.n f s s') : Prs d'.n g s' s := fun i hi => by
  have hn := h.n
  obtain ⟨h1, h2⟩ := h.ts i (by omega)
  have := hs (g i) h1
  rw [h2] at this
  exact this.symm
theorem Prm.kpt {d d' : Dsk} {f g : Nat → Nat} (h : Prm d d' f g) (hd : d.ok) (hd' : d'.ok) {s s' : HSt} (hs : d.inS s) (hs' : d'.inS s') (hp : Prs d.n f s s') {v v' : Int} (hv : Kpt d s v) (hv' : Kpt d' s' v') : v = v' := by
  have a := (kpt_le hd hd' hs hs' (fun n ⟨t, c, q⟩ => by obtain ⟨t', i, _⟩ := h.pth hd hs.len hs'.len hp q; exact ⟨t', c, i⟩) hv hv').1
  have b := (kpt_le hd' hd hs' hs (fun n ⟨t, c, q⟩ => by obtain ⟨t', i, _⟩ := h.symm.pth hd' hs'.len hs.len (hp.symm h) q; exact ⟨t', c, i⟩) hv' hv).1
  omega
theorem Prm.few {d d' : Dsk} {f g : Nat → Nat} (h : Prm d d' f g) (hd : d.ok) (hd' : d'.ok) {s s' : HSt} (hsl : s.length = 4) (hsl' : s'.length = 4) (hp : Prs d.n f s s') (n : Nat) :
    ((∃ t c, d.pth n s t c) ↔ ∃ t c, d'.pth n s' t c) ∧ ∀ c c', FewC d s n c → FewC d' s' n c' → c = c' := by
  refine ⟨⟨fun ⟨t, c, q⟩ => ?_, fun ⟨t, c, q⟩ => ?_⟩, fun c c' h1 h2 => ?_⟩
  · obtain ⟨t', i, _⟩ := h.pth hd hsl hsl' hp q; exact ⟨t', c, i⟩
  · obtain ⟨t', i, _⟩ := h.symm.pth hd' hsl' hsl (hp.symm h) q; exact ⟨t', c, i⟩
  · obtain ⟨t, ht⟩ := h1.is
    obtain ⟨t', i, _⟩ := h.pth hd hsl hsl' hp ht
    have := h2.le _ _ i
    obtain ⟨u, hu⟩ := h2.is
    obtain ⟨u', j, _⟩ := h.symm.pth hd' hsl' hsl (hp.symm h) hu
    have := h1.le _ _ j
    omega
noncomputable def invP (p : List Nat) (i : Nat) : Nat := Classical.epsilon (fun j : Nat => p[j]? = some i)
theorem Ord.get {p : List Nat} {n i : Nat} (h : Ord p n) (hi : i < n) : ∃ j, p[i]? = some j ∧ j < n := by
  have hl := h.len
  refine ⟨_, List.getElem?_eq_getElem (by omega), h.lt _ (List.getElem_mem (by omega))⟩
theorem Ord.onto {p : List Nat} {n i : Nat} (h : Ord p n) (hi : i < n) : ∃ j : Nat, p[j]? = some i := by
  apply Classical.byContradiction
  intro hno
  have hm : i ∉ p := fun hm => hno (List.getElem?_of_mem hm)
  have h1 := nodup_len (l := i :: p) (m := List.range n) (List.nodup_cons.2 ⟨hm, h.nd⟩) (fun x hx => by
    rcases List.mem_cons.1 hx with rfl | hx
    · exact List.mem_range.2 hi
    · exact List.mem_range.2 (h.lt x hx))
  have hl := h.len
  rw [List.length_cons, List.length_range] at h1
  omega
theorem Ord.inv {p : List Nat} {n i : Nat} (h : Ord p n) (hi : i < n) : p[invP p i]? = some i := Classical.epsilon_spec (h.onto hi)
structure Put (b : Barn) (p : List Nat) (L : List HBin) : Prop where
  ord : Ord p b.bins.length
  len : L.length = b.bins.length
  at_ : ∀ (j q : Nat), p[j]? = some q → L[q]? = b.bins[j]?
theorem Put.ok {b : Barn} {p : List Nat} {L : List HBin} (h : Put b p L) (hb : b.ok) : (b.withB L).ok := by
  have key : ∀ x ∈ L, x ∈ b.bins := fun x hx => by
    obtain ⟨q, hq⟩ := List.getElem?_of_mem hx
    have hql := (List.getElem?_eq_some_iff.1 hq).1
    have hl := h.len
    obtain ⟨j, hj⟩ := h.ord.onto (i := q) (by omega)
    rw [h.at_ j q hj] at hq
    exact List.mem_of_getElem? hq
  exact ⟨hb.len, by show 1 ≤ L.length ∧ L.length ≤ 4; rw [h.len]; exact hb.many, hb.cool, hb.gangs, hb.rise, fun x hx => hb.bins x (key x hx), hb.srt, fun x hx => hb.ord x (key x hx)⟩
structure SamB (b b' : Barn) : Prop where
  ok : b'.ok
  check : b'.check = 0
  n : b'.bins.length = b.bins.length
  kpt : ∀ v, Kpt b.dsk b.state v ↔ Kpt b'.dsk b'.state v
  kptG : ∀ g : Nat, g ≤ 4 → ∀ v, Kpt (b.withG g).dsk b.state v ↔ Kpt (b'.withG g).dsk b'.state v
  few : ∀ n : Nat, n ≤ 20 → planE b' n = planE b n ∧ turnsV b' n = turnsV b n
theorem SamB.spare {b b' : Barn} (h : SamB b b') (hb : b.ok) (hck : b.check = 0) {v v' : Value} (hv : SpareQ b v) (hv' : SpareQ b' v') : v' = v := by
  have hmn := hb.many
  have hn := h.n
  have he : ∀ g : Nat, g ≤ 4 → (b.ends g ↔ b'.ends g) := fun g hg => exists_congr fun w => and_congr_right fun _ => h.kptG g hg w
  have no : ∀ g : Nat, b.ends g → Kpt (b.withG g).dsk b.state 1000000 → False := fun g ⟨w, h1, h2⟩ h3 => h1 (kpt_unique h2 h3)
  rcases hv with ⟨h0, _⟩ | ⟨_, ⟨g, g1, g2, g3, rfl⟩ | ⟨g1, rfl⟩⟩
  · exact absurd hck h0
  · rcases hv' with ⟨h0, _⟩ | ⟨_, ⟨k, k1, k2, k3, rfl⟩ | ⟨k1, rfl⟩⟩
    · exact absurd h.check h0
    · rw [← h.kptG k (by omega)] at k3
      rcases Nat.lt_trichotomy g k with e | rfl | e
      · exact (no g ((he g (by omega)).2 (k2 g e)) g3).elim
      · rfl
      · exact (no k (g2 k e) k3).elim
    · exact (no g ((he g (by omega)).2 (k1 g (by omega))) g3).elim
  · rcases hv' with ⟨h0, _⟩ | ⟨_, ⟨k, k1, k2, k3, rfl⟩ | ⟨k1, rfl⟩⟩
    · exact absurd h.check h0
    · rw [← h.kptG k (by omega)] at k3
      exact (no k (g1 k (by omega)) k3).elim
    · rfl
structure PutI (b : Barn) (p : List Nat) (i : Nat) (L : List HBin) : Prop where
  ord : Ord p b.bins.length
  len : L.length = b.bins.length
  at_ : ∀ j, j < i → ∀ q, p[j]? = some q → L[q]? = b.bins[j]?
theorem PutI.more {b : Barn} {p : List Nat} {i q : Nat} {L : List HBin} {x : HBin} (h : PutI b p i L) (hq : p[i]? = some q) (hx : b.bins[i]? = some x) : PutI b p (i + 1) (L.set q x) := by
  have hql := h.ord.lt q (List.mem_of_getElem? hq)
  have hl := h.len
  refine ⟨h.ord, by rw [List.length_set]; exact h.len, fun j hj r hr => ?_⟩
  rw [List.getElem?_set]
  by_cases e : q = r
  · subst e
    have h1 := (List.getElem?_eq_some_iff.1 hr).1
    obtain rfl := (List.getElem?_inj h1 h.ord.nd).1 (hr.trans hq.symm)
    rw [if_pos rfl, if_pos (by omega), hx]
  · rw [if_neg e]
    refine h.at_ j ?_ r hr
    rcases Nat.lt_or_ge j i with h1 | h1
    · exact h1
    · obtain rfl : j = i := by omega
      rw [hq] at hr; cases hr
      exact absurd rfl e
theorem PutI.done {b : Barn} {p : List Nat} {L : List HBin} (h : PutI b p b.bins.length L) : Put b p L := ⟨h.ord, h.len, fun j q hq => h.at_ j (by have := (List.getElem?_eq_some_iff.1 hq).1; have := h.ord.len; omega) q hq⟩
end Go.Proofs.Ytelegnmfhjfbaaa
namespace Go.Proofs.Ytelegnmfhjfbaaa
set_option linter.unusedSimpArgs false
set_option linter.unusedVariables false
open Go
theorem Barn.most_ever {b : Barn} (hb : b.ok) {k : Nat} {x : HBin} (hx : b.bins[k]? = some x) : (na b.dsk.most k = 1000000 ↔ b.worst x = 0) ∧ na b.dsk.lasts k = b.days x b.cool := by
  have hm := List.mem_of_getElem? hx
  have hk := (List.getElem?_eq_some_iff.1 hx).1
  have h2 : na b.dsk.most k = max (b.days x x.warm) (b.days x b.cool) := na_at (b.map_get hb _ hx)
  have h3 : na b.dsk.lasts k = b.days x b.cool := na_at (b.map_get hb _ hx)
  refine ⟨?_, h3⟩
  rw [h2]
  have h8 := (hb.bins x hm).1
  have h7 := (hb.bins x hm).2.1
  have h9 := b.worst_range hb hm
  have hc := hb.cool
  have z : ∀ w, 0 ≤ w → b.worst x ≠ 0 → b.days x w < 11 := fun w hw h0 => by
    unfold Barn.days daysB
    rw [decide_eq_false h0, cond_false]
    by_cases h3 : x.mark < w
    · rw [decide_eq_true h3, cond_true]; omega
    · rw [decide_eq_false h3, cond_false]
      exact Int.ediv_lt_of_lt_mul (by omega) (by omega)
  constructor
  · intro h
    apply Classical.byContradiction
    intro h0
    have := z _ h7.1 h0
    have := z _ hc.1 h0
    omega
  · intro h
    have e : ∀ w, b.days x w = 1000000 := fun w => by unfold Barn.days daysB; rw [h]; rfl
    rw [e, e]; rfl
structure Cnt (b : Barn) (i : Nat) (ok : Bool) (c : Int) : Prop where
  all : ok = true ↔ ∀ (k : Nat) (x : HBin), k < i → b.bins[k]? = some x → b.worst x = 0 ∨ 1 ≤ b.days x b.cool
  nn : 0 ≤ c ∧ c ≤ i
  none : c = 0 ↔ ∀ (k : Nat) (x : HBin), k < i → b.bins[k]? = some x → b.worst x = 0
theorem Cnt.start (b : Barn) : Cnt b 0 true 0 := ⟨⟨fun _ k x h => absurd h (Nat.not_lt_zero _), fun _ => rfl⟩, by omega, ⟨fun _ k x h => absurd h (Nat.not_lt_zero _), fun _ => rfl⟩⟩
end Go.Proofs.Ytelegnmfhjfbaaa
namespace Go.Proofs.Ytelegnmfhjfbaaa
set_option linter.unusedSimpArgs false
set_option linter.unusedVariables false
open Go
abbrev WL := List (List Int × Int)
def undP (n : Nat) (s t : List Int) : Bool := (List.range n).all fun k => decide (na s k ≤ na t k)
theorem undP_iff {n : Nat} {s t : List Int} : undP n s t = true ↔ ∀ k < n, na s k ≤ na t k := by
  unfold undP
  rw [List.all_eq_true]
  exact ⟨fun h k hk => of_decide_eq_true (h k (List.mem_range.2 hk)), fun h k hk => decide_eq_true (h k (List.mem_range.1 hk))⟩
theorem undP_no {n : Nat} {s t : List Int} {k : Nat} (hk : k < n) (h : na t k < na s k) : undP n s t = false := by
  rw [Bool.eq_false_iff]
  intro h1
  have := undP_iff.1 h1 k hk
  omega
theorem undP_padR (n : Nat) (s t : List Int) : undP n s (pad t) = undP n s t := by unfold undP; simp only [pad_na]
theorem undP_trans {n : Nat} {s t u : List Int} (h1 : undP n s t = true) (h2 : undP n t u = true) : undP n s u = true := undP_iff.2 fun k hk => Int.le_trans (undP_iff.1 h1 k hk) (undP_iff.1 h2 k hk)
def shnS (n : Nat) (t : List Int) (m : Int) (s : List Int × Int) : Int := bif undP n t s.1 then min m s.2 else m
def shnV (n : Nat) (W : WL) (t : List Int) : Int := W.foldl (shnS n t) 1000000
theorem shnV_snoc (n : Nat) (W : WL) (s : List Int × Int) (t : List Int) : shnV n (W ++ [s]) t = shnS n t (shnV n W t) s := by unfold shnV; rw [List.foldl_append]; rfl
theorem shn_fold {n : Nat} {t : List Int} : ∀ (W : WL) (m : Int), W.foldl (shnS n t) m ≤ m ∧ (∀ s ∈ W, undP n t s.1 = true → W.foldl (shnS n t) m ≤ s.2) ∧ (W.foldl (shnS n t) m = m ∨ ∃ s ∈ W, undP n t s.1 = true ∧ W.foldl (shnS n t) m = s.2)
  | [], m => ⟨Int.le_refl _, by simp, .inl rfl⟩
  | x :: W, m => by
    obtain ⟨h1, h2, h3⟩ := shn_fold (n := n) (t := t) W (shnS n t m x)
    rw [List.foldl_cons]
    have hx : shnS n t m x ≤ m ∧ (undP n t x.1 = true → shnS n t m x ≤ x.2) ∧ (shnS n t m x = m ∨ (undP n t x.1 = true ∧ shnS n t m x = x.2)) := by
      unfold shnS
      cases undP n t x.1 with
      | false => exact ⟨Int.le_refl _, by simp, .inl rfl⟩
      | true => simp only [cond_true, forall_const, true_and]; omega
    refine ⟨by omega, fun s hs hu => ?_, ?_⟩
    · rcases List.mem_cons.1 hs with rfl | hs
      · have := hx.2.1 hu; omega
      · exact h2 s hs hu
    · rcases h3 with h3 | ⟨s, hs, hu, h3⟩
      · rcases hx.2.2 with h4 | ⟨h4, h5⟩
        · exact .inl (by omega)
        · exact .inr ⟨x, by simp, h4, by omega⟩
      · exact .inr ⟨s, by simp [hs], hu, h3⟩
theorem shnV_mem {n : Nat} {W : WL} {t : List Int} {s : List Int × Int} (hs : s ∈ W) (hu : undP n t s.1 = true) : shnV n W t ≤ s.2 := (shn_fold W 1000000).2.1 s hs hu
theorem shnV_is {n : Nat} {W : WL} {t : List Int} (h : shnV n W t ≠ 1000000) : ∃ s ∈ W, undP n t s.1 = true ∧ shnV n W t = s.2 := (shn_fold W 1000000).2.2.resolve_left h
def badL (b : Barn) (k : Nat) (v : Int) : Bool := bif decide (b.worst (b.bins.getD k hb0) = 0) then decide (v ≠ 1000000) else !(inB v 0 10)
def stErr (b : Barn) (s : List Int × Int) : Int := bif decide (s.1.length ≠ b.bins.length) then 2 else bif !(inB s.2 0 20000) then 3 else bif (List.range b.bins.length).any (fun k => badL b k (na s.1 k)) then 3 else 0
def wlErr (b : Barn) (W : WL) : Int := bif !(inB (W.length : Int) 1 20000) then 2 else match W.find? (fun s => decide (stErr b s ≠ 0)) with
  | some s => stErr b s
  | none => 0
theorem stErr_len {b : Barn} {s : List Int × Int} (h : s.1.length ≠ b.bins.length) : stErr b s = 2 := by unfold stErr; rw [decide_eq_true h]; rfl
theorem stErr_days {b : Barn} {s : List Int × Int} (h : s.1.length = b.bins.length) (hd : inB s.2 0 20000 = false) : stErr b s = 3 := by unfold stErr; rw [decide_eq_false (by simpa using h), hd]; rfl
theorem stErr_num {b : Barn} {s : List Int × Int} (h : s.1.length = b.bins.length) (hd : inB s.2 0 20000 = true) {k : Nat} (hk : k < b.bins.length) (hb : badL b k (na s.1 k) = true) : stErr b s = 3 := by
  unfold stErr
  rw [decide_eq_false (by simpa using h), hd, show (List.range b.bins.length).any (fun k => badL b k (na s.1 k)) = true from List.any_eq_true.2 ⟨k, List.mem_range.2 hk, hb⟩]; rfl
theorem stErr_ok {b : Barn} {s : List Int × Int} (h : s.1.length = b.bins.length) (hd : inB s.2 0 20000 = true) (hb : ∀ k < b.bins.length, badL b k (na s.1 k) = false) : stErr b s = 0 := by
  unfold stErr
  rw [decide_eq_false (by simpa using h), hd, show (List.range b.bins.length).any (fun k => badL b k (na s.1 k)) = false from List.any_eq_false.2 fun k hk => by rw [hb k (List.mem_range.1 hk)]; simp]; rfl
theorem stErr_zero {b : Barn} {s : List Int × Int} (h : stErr b s = 0) : s.1.length = b.bins.length ∧ (0 ≤ s.2 ∧ s.2 ≤ 20000) ∧ ∀ k < b.bins.length, badL b k (na s.1 k) = false := by
  unfold stErr at h
  by_cases h1 : s.1.length = b.bins.length
  · rw [decide_eq_false (by simpa using h1), cond_false] at h
    cases h2 : inB s.2 0 20000 with
    | false => rw [h2] at h; cases h
    | true =>
      rw [h2, Bool.not_true, cond_false] at h
      cases h3 : (List.range b.bins.length).any (fun k => badL b k (na s.1 k)) with
      | true => rw [h3] at h; cases h
      | false =>
        refine ⟨h1, by simpa [inB] using h2, fun k hk => ?_⟩
        have := List.any_eq_false.1 h3 k (List.mem_range.2 hk)
        simpa using this
  · rw [decide_eq_true h1] at h; cases h
theorem badL_ok {b : Barn} {k : Nat} {v : Int} (h : badL b k v = false) : (b.worst (b.bins.getD k hb0) = 0 → v = 1000000) ∧ (b.worst (b.bins.getD k hb0) ≠ 0 → 0 ≤ v ∧ v ≤ 10) := by
  unfold badL at h
  by_cases h0 : b.worst (b.bins.getD k hb0) = 0
  · rw [decide_eq_true h0, cond_true, decide_eq_false_iff_not] at h
    exact ⟨fun _ => by simpa using h, fun h1 => absurd h0 h1⟩
  · rw [decide_eq_false h0, cond_false, Bool.not_eq_false'] at h
    exact ⟨fun h1 => absurd h1 h0, fun _ => by simpa [inB] using h⟩
theorem wlErr_len {b : Barn} {W : WL} (h : inB (W.length : Int) 1 20000 = false) : wlErr b W = 2 := by unfold wlErr; rw [h]; rfl
theorem find_first {α : Type} {p : α → Bool} : ∀ {l : List α} {i : Nat} {x : α}, l[i]? = some x → p x = true → (∀ y ∈ l.take i, p y = false) → l.find? p = some x
  | [], i, x, h, _, _ => by cases h
  | y :: l, 0, x, h, hp, _ => by cases h; rw [List.find?_cons, hp]
  | y :: l, i + 1, x, h, hp, hn => by
    rw [List.find?_cons, hn y (by simp)]
    exact find_first (l := l) (i := i) (by simpa using h) hp fun z hz => hn z (by simp [hz])
theorem wlErr_at {b : Barn} {W : WL} {i : Nat} {s : List Int × Int} (h : inB (W.length : Int) 1 20000 = true) (hs : W[i]? = some s) (hn : ∀ y ∈ W.take i, stErr b y = 0) (he : stErr b s ≠ 0) : wlErr b W = stErr b s := by
  unfold wlErr
  rw [h, Bool.not_true, cond_false, find_first (p := fun s => decide (stErr b s ≠ 0)) hs (decide_eq_true he) (fun y hy => decide_eq_false (by rw [hn y hy]; simp))]
theorem wlErr_ok {b : Barn} {W : WL} (h : inB (W.length : Int) 1 20000 = true) (hn : ∀ y ∈ W, stErr b y = 0) : wlErr b W = 0 := by
  unfold wlErr
  rw [h, Bool.not_true, cond_false, List.find?_eq_none.2 fun y hy => by rw [hn y hy]; simp]
theorem wlErr_zero {b : Barn} {W : WL} (h : wlErr b W = 0) : (1 ≤ W.length ∧ W.length ≤ 20000) ∧ ∀ y ∈ W, stErr b y = 0 := by
  unfold wlErr at h
  cases h1 : inB (W.length : Int) 1 20000 with
  | false => rw [h1] at h; cases h
  | true =>
    rw [h1, Bool.not_true, cond_false] at h
    refine ⟨by simp [inB] at h1; omega, fun y hy => ?_⟩
    cases hf : W.find? (fun s => decide (stErr b s ≠ 0)) with
    | some s =>
      rw [hf] at h
      have := List.find?_some hf
      dsimp only at h
      rw [h] at this; simp at this
    | none =>
      have := List.find?_eq_none.1 hf y hy
      simpa using this
theorem take_all {α : Type} {l : List α} {i : Nat} {x : α} {p : α → Prop} (hx : l[i]? = some x) (h : ∀ y ∈ l.take i, p y) (hp : p x) : ∀ y ∈ l.take (i + 1), p y := fun y hy => by
  rw [take_snoc hx] at hy
  rcases List.mem_append.1 hy with hy | hy
  · exact h y hy
  · rw [List.mem_singleton.1 hy]; exact hp
def wlL (d : Dsk) (W : WL) (s : List Int × Int) (l : List Nat) : Bool := match d.next (pad s.1) l with
  | none => true
  | some t => decide (shnV d.n W t < s.2)
def wlSt (d : Dsk) (W : WL) (s : List Int × Int) : Bool := (d.trs false).all (wlL d W s)
theorem wlSt_any (d : Dsk) (W : WL) (s : List Int × Int) : wlSt d W s = !((d.trs false).any fun l => !wlL d W s l) := by
  unfold wlSt
  rw [Bool.eq_iff_iff, List.all_eq_true, Bool.not_eq_true', List.any_eq_false]
  simp
def isWl (d : Dsk) (W : WL) : Bool := W.all (wlSt d W)
def shwV (b : Barn) (W : WL) : Int × Int := bif decide (wlErr b W = 0) then (bif isWl b.dsk W && decide (shnV b.dsk.n W b.state ≠ 1000000) then (shnV b.dsk.n W b.state, 0) else (0, 8)) else (0, wlErr b W)
theorem shw_err {b : Barn} {W : WL} (h : wlErr b W ≠ 0) : shwV b W = (0, wlErr b W) := by unfold shwV; rw [decide_eq_false h]; rfl
theorem shw_no {b : Barn} {W : WL} (h : wlErr b W = 0) {s : List Int × Int} (hs : s ∈ W) (hw : wlSt b.dsk W s = false) : shwV b W = (0, 8) := by
  unfold shwV
  rw [decide_eq_true h, cond_true, show isWl b.dsk W = false from List.all_eq_false.2 ⟨s, hs, by rw [hw]; simp⟩]; rfl
theorem shw_none {b : Barn} {W : WL} (h : wlErr b W = 0) (hs : shnV b.dsk.n W b.state = 1000000) : shwV b W = (0, 8) := by
  unfold shwV
  rw [decide_eq_true h, cond_true, decide_eq_false (show ¬ shnV b.dsk.n W b.state ≠ 1000000 by simpa using hs), Bool.and_false]; rfl
theorem shw_yes {b : Barn} {W : WL} (h : wlErr b W = 0) (hw : ∀ s ∈ W, wlSt b.dsk W s = true) (hs : shnV b.dsk.n W b.state ≠ 1000000) : shwV b W = (shnV b.dsk.n W b.state, 0) := by
  unfold shwV
  rw [decide_eq_true h, cond_true, decide_eq_true hs, show isWl b.dsk W = true from List.all_eq_true.2 hw]; rfl
theorem shw_zero {b : Barn} {W : WL} (h : (shwV b W).2 = 0) : wlErr b W = 0 ∧ (∀ s ∈ W, wlSt b.dsk W s = true) ∧ shnV b.dsk.n W b.state ≠ 1000000 ∧ (shwV b W).1 = shnV b.dsk.n W b.state := by
  by_cases h0 : wlErr b W = 0
  · refine ⟨h0, ?_⟩
    cases hw : isWl b.dsk W with
    | false => unfold shwV at h; rw [decide_eq_true h0, hw] at h; cases h
    | true =>
      by_cases hs : shnV b.dsk.n W b.state = 1000000
      · rw [shw_none h0 hs] at h; cases h
      · have hw2 := List.all_eq_true.1 hw
        exact ⟨hw2, hs, by rw [shw_yes h0 hw2 hs]⟩
  · rw [shw_err h0] at h; exact absurd h h0
theorem shw_two {b : Barn} {W : WL} (h : wlErr b W = 0) : (shwV b W).2 = 0 ∨ (shwV b W).2 = 8 := by
  unfold shwV
  rw [decide_eq_true h, cond_true]
  cases isWl b.dsk W && decide (shnV b.dsk.n W b.state ≠ 1000000)
  · exact .inr rfl
  · exact .inl rfl
theorem und_next {d : Dsk} (hd : d.ok) {s s' : HSt} (h : s.length = 4) (h' : s'.length = 4) (hm : ∀ k < d.n, na s' k ≤ 1000000) (hle : undP d.n s s' = true) {l : List Nat} (hl : ∀ k ∈ l, k < d.n) {t : HSt} (e : d.next s l = some t) :
    ∃ t', d.next s' l = some t' ∧ undP d.n t t' = true := by
  have hn := hd.n
  obtain ⟨_, h2⟩ := d.next_at hn.2 h hl e
  have hm2 : ∀ k < d.n, d.mid s l k ≤ d.mid s' l k ∧ d.mid s' l k ≤ 1000000 := fun k hk => by
    have := undP_iff.1 hle k hk
    have := hm k hk
    have := hd.lasts.at_ k (by omega)
    unfold Dsk.mid
    split <;> omega
  obtain ⟨t', ht'⟩ := d.next_some hn.2 h' hl (fun k hk => by have := hm2 k hk; have := (h2 k).1 hk; omega)
  refine ⟨t', ht', undP_iff.2 fun k hk => ?_⟩
  obtain ⟨_, h3⟩ := d.next_at hn.2 h' hl ht'
  have := hm2 k hk
  rw [(h2 k).2, (h3 k).2]
  split <;> split <;> omega
theorem wall_run {b : Barn} (hok : b.ok) {W : WL} (he : wlErr b W = 0) (hw : ∀ s ∈ W, wlSt b.dsk W s = true) : ∀ {p : List (List Nat)} {s t : HSt} {x : List Int × Int}, s.length = 4 → (∀ l ∈ p, l ∈ b.dsk.trs false) → x ∈ W → undP b.dsk.n s x.1 = true → b.dsk.run s p = some t → (p.length : Int) ≤ x.2
  | [], s, t, x, _, _, hx, _, _ => by have := stErr_zero ((wlErr_zero he).2 x hx); simp; omega
  | l :: p, s, t, x, hs, hp, hx, hu, hr => by
    have hd := b.dsk_ok hok
    unfold Dsk.run at hr
    split at hr
    · cases hr
    · rename_i u hu2
      have hlt := b.dsk.trs_lt (hp l (by simp))
      obtain ⟨x1, x2, x3⟩ := stErr_zero ((wlErr_zero he).2 x hx)
      have hmn := hok.many
      have hn : b.dsk.n = b.bins.length := rfl
      obtain ⟨t', h1, h2⟩ := und_next hd hs (pad_len' (l := x.1) (by omega)) (fun k hk => by
        rw [pad_na]
        have := badL_ok (x3 k (hn ▸ hk))
        by_cases h0 : b.worst (b.bins.getD k hb0) = 0
        · have := this.1 h0; omega
        · have := this.2 h0; omega) (by rw [undP_padR]; exact hu) hlt hu2
      have h3 := List.all_eq_true.1 (hw x hx) l (hp l (by simp))
      unfold wlL at h3
      rw [h1] at h3
      dsimp only at h3
      have h3 := of_decide_eq_true h3
      obtain ⟨y, hy, hyu, hye⟩ := shnV_is (n := b.dsk.n) (W := W) (t := t') (by omega)
      have ul : u.length = 4 := (b.dsk.next_at hd.n.2 hs hlt hu2).1
      have := wall_run hok he hw (p := p) ul (fun m hm => hp m (by simp [hm])) hy (undP_trans h2 hyu) hr
      rw [List.length_cons]; push_cast; omega
theorem wall_sound {b : Barn} (hok : b.ok) {W : WL} (h : (shwV b W).2 = 0) {m : Int} (hm : Kpt b.dsk b.state m) : m ≠ 1000000 ∧ m ≤ (shwV b W).1 := by
  obtain ⟨h1, h2, h3, h4⟩ := shw_zero h
  obtain ⟨x, hx, hu, hxe⟩ := shnV_is h3
  have hd := b.dsk_ok hok
  have hs := b.state_inS hok
  have key : ∀ n : Nat, (m = 1000000 ∨ (n : Int) ≤ m) → (n : Int) ≤ x.2 := fun n hn => by
    obtain ⟨t, c, hp⟩ := (kpt_pth hd hs hm n).2 hn
    obtain ⟨p, p1, p2, p3, _⟩ := b.dsk.pth_run hp
    have := wall_run hok h1 h2 hs.len p2 hx hu p3
    omega
  have hx2 := (stErr_zero ((wlErr_zero h1).2 x hx)).2.1
  have hmr := kpt_nn hm
  have hne : m ≠ 1000000 := fun e => by have := key 20001 (.inl e); omega
  refine ⟨hne, ?_⟩
  have := key m.toNat (.inr (by omega))
  omega
structure WE where
  a : Option Addr
  c : Nat
  l : List Int
  d : Int
def werow (x : WE) : List Value := [.slice x.a x.l.length x.c, .int .i64 x.d]
def werows (l : List WE) : List (List Value) := l.map werow
def wls (l : List WE) : WL := l.map fun x => (x.l, x.d)
theorem werows_len (l : List WE) : (werows l).length = l.length := List.length_map _
theorem wls_len (l : List WE) : (wls l).length = l.length := List.length_map _
theorem we_get {l : List WE} {i : Nat} {x : WE} (h : l[i]? = some x) : (werows l)[i]? = some (werow x) := by unfold werows; rw [List.getElem?_map, h]; rfl
theorem wls_get {l : List WE} {i : Nat} {x : WE} (h : l[i]? = some x) : (wls l)[i]? = some (x.l, x.d) := by unfold wls; rw [List.getElem?_map, h]; rfl
theorem wls_mem {l : List WE} {x : WE} (h : x ∈ l) : (x.l, x.d) ∈ wls l := List.mem_map.2 ⟨x, h, rfl⟩
theorem wls_app (l k : List WE) : wls (l ++ k) = wls l ++ wls k := by unfold wls; rw [List.map_append]
theorem werows_app (l k : List WE) : werows (l ++ k) = werows l ++ werows k := by unfold werows; rw [List.map_append]
theorem we_two (l : List WE) : ∀ r ∈ werows l, r.length = 2 := fun r hr => by obtain ⟨y, _, rfl⟩ := List.mem_map.1 hr; rfl
theorem we_onec (l : List WE) : onecells (werows l) = true := by
  unfold onecells
  rw [List.all_eq_true]
  intro r hr
  obtain ⟨x, _, rfl⟩ := List.mem_map.1 hr
  rfl
def InW (l : List WE) : World → Prop := fun w => ∀ x ∈ l, RowsA x.a 1 (irows x.l) w
theorem St.inw0 {H : Heap} {R : Facts} {w : World} (h : St H R w) : St H (InW [] :: R) w := h.also fun _ _ x hx => by cases hx
theorem St.inwAt {l : List WE} {x : WE} {H : Heap} {R : Facts} {w : World} [m : MemF (InW l) R] (h : St H R w) (hx : x ∈ l) : St H (RowsA x.a 1 (irows x.l) :: R) w := h.also fun _ hw => hw _ m.mem x hx
theorem St.inwSnoc {l : List WE} {H : Heap} {R : Facts} {w : World} (x : WE) [m1 : MemF (InW l) R] [m2 : MemRows x.a 1 (irows x.l) R] (h : St H R w) : St H (InW (l ++ [x]) :: R) w := h.also fun _ hw y hy => by
  rcases List.mem_append.1 hy with hy | hy
  · exact hw _ m1.mem y hy
  · rw [List.mem_singleton.1 hy]; exact hw _ m2.mem
theorem St.inwPart {l : List WE} {H : Heap} {R : Facts} {w : World} [m : MemF (InW l) R] (h : St H R w) (k : List WE) (hk : ∀ x ∈ k, x ∈ l) : St H (InW k :: R) w := h.also fun _ hw x hx => hw _ m.mem x (hk x hx)
end Go.Proofs.Ytelegnmfhjfbaaa
namespace Go.Proofs.Ytelegnmfhjfbaaa
set_option linter.unusedSimpArgs false
set_option linter.unusedVariables false
open Go
theorem shnV_rng {b : Barn} {W : WL} (h : ∀ y ∈ W, stErr b y = 0) (n : Nat) (t : List Int) : 0 ≤ shnV n W t ∧ (shnV n W t = 1000000 ∨ shnV n W t ≤ 20000) := by
  by_cases h0 : shnV n W t = 1000000
  · exact ⟨by omega, .inl h0⟩
  · obtain ⟨s, hs, _, h2⟩ := shnV_is h0
    have := (stErr_zero (h s hs)).2.1
    omega
end Go.Proofs.Ytelegnmfhjfbaaa
namespace Go.Proofs.Ytelegnmfhjfbaaa
set_option linter.unusedSimpArgs false
set_option linter.unusedVariables false
open Go
theorem ag93 : aggN Try.prog 93 = some 2 := by kernel_rfl
theorem cn93 : cellN Try.prog 93 = some 2 := by kernel_rfl
theorem el91 : elN Try.prog 91 = some 2 := by kernel_rfl
theorem fo93_0 : fOff Try.prog 93 0 = some 0 := by kernel_rfl
theorem fo93_1 : fOff Try.prog 93 1 = some 1 := by kernel_rfl
theorem isl91 : isSl Try.prog 91 = true := by kernel_rfl
theorem zl93 : zeroL Try.prog 93 = some ([.slice none 0 0, .int .i64 0]) := by kernel_rfl
theorem notT {x : Bool} (h : (!x) = true) : x = false := by cases x <;> simp at h ⊢
theorem notF {x : Bool} (h : (!x) = false) : x = true := by cases x <;> simp at h ⊢
theorem bl_badL {b : Barn} {k : Nat} {v : Int} {z : HBin} (hz : b.bins[k]? = some z) (h : (decide (v = 1000000) != decide (b.worst z = 0)) = true) : badL b k v = true := by
  unfold badL
  rw [bin_getD hz]
  by_cases h0 : b.worst z = 0 <;> by_cases h1 : v = 1000000 <;> simp [h0, h1] at h ⊢
  all_goals rfl
theorem bl_ever {b : Barn} {k : Nat} {v : Int} {z : HBin} (hz : b.bins[k]? = some z) (h : (decide (v = 1000000) != decide (b.worst z = 0)) = false) (hv : v = 1000000) : badL b k v = false := by
  unfold badL
  rw [bin_getD hz]
  by_cases h0 : b.worst z = 0
  · rw [decide_eq_true h0, cond_true]; exact decide_eq_false (by simpa using hv)
  · rw [decide_eq_true hv, decide_eq_false h0] at h; cases h
theorem bl_num {b : Barn} {k : Nat} {v : Int} {z : HBin} (hz : b.bins[k]? = some z) (h : (decide (v = 1000000) != decide (b.worst z = 0)) = false) (hv : v ≠ 1000000) : badL b k v = !(inB v 0 10) := by
  unfold badL
  rw [bin_getD hz]
  by_cases h0 : b.worst z = 0
  · rw [decide_eq_false hv, decide_eq_true h0] at h; cases h
  · rw [decide_eq_false h0]; rfl
theorem c_under (b : Barn) (hok : b.ok) (ab : Option Addr) (cb bd m : Nat) (s t : HSt) (hs : s.length = 4) (ht : t.length = 4) (H : Heap) (R : Facts) [hD : MemRows (some ⟨bd, 0, none⟩) 18 [dcs b (b.sl ab cb) b.lasts b.most m] R] :
    FnV Try.prog 119 [.pointer (some ⟨bd, 0, none⟩), stv s, stv t] H R (.bool (undP b.bins.length s t)) := by
 have hmn := hok.many
 refine fn_of Try.func119 rfl Try.ntmps119 rfl ?_
 refine sy_seq ?_
 refine sy_tx' [0, 1, 2] rfl ?_
 refine bx rfl rfl rfl (fun b4 => ?_)
 refine bx rfl rfl rfl (fun b5 => ?_)
 refine sp rfl (PE.assign rfl) rfl ?_
 refine sy_seq ?_
 refine sy_seq ?_
 refine sy_tx' [0, 1, 2, 3, 4, 5, 6] rfl ?_
 refine sp rfl (PE.move rfl) rfl ?_
 refine sp rfl (PE.nilCheck rfl) rfl ?_
 refine sp rfl (PE.fieldAddr fo130_0 rfl) rfl ?_
 refine sp rfl (PE.fieldAddr fo25_3 rfl) rfl ?_
 refine spL rfl rfl (lfB (sz := 18) sc23 rfl) rfl ?_
 refine sp rfl (PE.lenSl isl23 rfl) rfl ?_
 refine sp rfl (PE.move rfl) rfl ?_
 refine sy_block ?_
 refine sy_loop (ι := {k : Nat // k ≤ b.bins.length ∧ ∀ j < k, na s j ≤ na t j}) (fun k => ⟨[(4, .pointer (some ⟨b4, 0, none⟩)), (5, .pointer (some ⟨b5, 0, none⟩)), (13, .int .i64 b.bins.length), (14, .int .i64 k.1)], (b5, cel 127 (ints t)) :: (b4, cel 127 (ints s)) :: H, R⟩) (fun k => b.bins.length - k.1) ⟨0, Nat.zero_le _, fun j hj => absurd hj (Nat.not_lt_zero _)⟩ ?_ (fun k => ?_)
 exact sy_at (by repeat' first | exact Sub.nil | apply Sub.cons | rfl | (simp [lk]; omega)) (fun _ h => h)
 obtain ⟨k, hk, hin⟩ := k
 dsimp only at hk hin ⊢
 refine sy_seq ?_
 refine sy_tx' [0] rfl ?_
 refine sp rfl (PE.lss rfl rfl) rfl ?_
 refine sy_seq ?_
 refine sy_cond rfl (fun hc0 => ?_) (fun hc0 => ?_)
 try simp only [decide_eq_true_eq, decide_eq_false_iff_not, Bool.and_eq_true, Bool.or_eq_true, Bool.not_eq_true', Int.not_le, Int.not_lt] at hc0
 refine sy_skip ?_
 refine sy_seq ?_
 refine sy_block ?_
 refine sy_seq ?_
 refine sy_tx' [0, 1] rfl ?_
 refine sp rfl (PE.move rfl) rfl ?_
 refine sp rfl (PE.assign rfl) rfl ?_
 refine sy_seq ?_
 refine sy_draw [0, 1, 3, 0, 8, 24, 63] (.tk 0 (.tk 1 (.ld 2 (.tk 3 (.tk 4 (.ld 5 (.tk 6 .done))))))) mixed (by kernel_rfl) ?_
 refine tk rfl (PE.move rfl) rfl ?_
 refine tk rfl (PE.indexArr ar127 rfl rfl (by omega) (by omega)) rfl ?_
 refine ld rfl rfl (lh sc3 rfl (st_at (k := k) hs (by omega) (by show 0 + ((k : Nat) : Int).toNat * 1 = _; omega))) rfl ?_
 refine tk rfl (PE.move rfl) rfl ?_
 refine tk rfl (PE.indexArr ar127 rfl rfl (by omega) (by omega)) rfl ?_
 refine ld rfl rfl (lh sc3 rfl (st_at (k := k) ht (by omega) (by show 0 + ((k : Nat) : Int).toNat * 1 = _; omega))) rfl ?_
 refine tk rfl (PE.gtr rfl rfl) rfl ?_
 refine sy_cond rfl (fun hc1 => ?_) (fun hc1 => ?_)
 try simp only [decide_eq_true_eq, decide_eq_false_iff_not, Bool.and_eq_true, Bool.or_eq_true, Bool.not_eq_true', Int.not_le, Int.not_lt] at hc1
 have hun := undP_no (n := b.bins.length) (s := s) (t := t) (k := k) (by omega) hc1
 refine sy_seq ?_
 refine sy_tx' [0] rfl ?_
 refine sp rfl (PE.assign rfl) rfl ?_
 refine sy_ret ?_
 exact sy_return (vs := [_]) rfl (.cons (RV.tmp rfl) .nil) rfl ⟨by rw [hun]; rfl, rfl, rfl⟩ (fun w h => (h.del b5).del b4)
 try simp only [decide_eq_true_eq, decide_eq_false_iff_not, Bool.and_eq_true, Bool.or_eq_true, Bool.not_eq_true', Int.not_le, Int.not_lt] at hc1
 have hin2 : ∀ j < k + 1, na s j ≤ na t j := fun j hj => by
   rcases Nat.lt_or_ge j k with h1 | h1
   · exact hin j h1
   · obtain rfl : j = k := by omega
     exact hc1
 refine sy_skip ?_
 refine sy_tx' [0, 1] rfl ?_
 refine sp rfl (PE.add rfl rfl (by omega)) rfl ?_
 refine sp rfl (PE.move rfl) rfl ?_
 exact sy_next ⟨k + 1, by omega, hin2⟩ (by dsimp only; omega) (by repeat' first | exact Sub.nil | apply Sub.cons | rfl | (simp [lk]; omega)) (fun _ h => h)
 try simp only [decide_eq_true_eq, decide_eq_false_iff_not, Bool.and_eq_true, Bool.or_eq_true, Bool.not_eq_true', Int.not_le, Int.not_lt] at hc0
 obtain rfl : k = b.bins.length := by omega
 have hun : undP b.bins.length s t = true := undP_iff.2 hin
 refine sy_exit ?_
 repeat refine sy_tx ?_
 refine sy_bx ?_
 refine sy_seq ?_
 refine sy_tx' [0] rfl ?_
 refine sp rfl (PE.assign rfl) rfl ?_
 refine sy_ret ?_
 exact sy_return (vs := [_]) rfl (.cons (RV.tmp rfl) .nil) rfl ⟨by rw [hun]; rfl, rfl, rfl⟩ (fun w h => (h.del b5).del b4)
theorem c_right (b : Barn) (hok : b.ok) (ab : Option Addr) (cb bd m : Nat) (W : List WE) (aw : Option Addr) (cw : Nat) (hwl : W.length ≤ 1000000) (hwx : ∀ x ∈ W, x.l.length ≤ 1000000) (H : Heap) (R : Facts) [hB : MemRows ab 4 (brows b.bins) R] [hD : MemRows (some ⟨bd, 0, none⟩) 18 [dcs b (b.sl ab cb) b.lasts b.most m] R] [hW : MemRows aw 2 (werows W) R] [hN : MemF (InW W) R] :
    FnV Try.prog 117 [.pointer (some ⟨bd, 0, none⟩), .slice aw W.length cw] H R (.int .i64 (wlErr b (wls W))) := by
 have hmn := hok.many
 refine fn_of Try.func117 rfl Try.ntmps117 rfl ?_
 refine sy_seq ?_
 refine sy_tx' [0] rfl ?_
 refine sp rfl (PE.assign rfl) rfl ?_
 refine sy_seq ?_
 refine sy_seq ?_
 refine sy_tx' [0, 1, 2, 3] rfl ?_
 obtain ⟨z0, hx⟩ : ∃ x, b.bins[0]? = some x := ⟨_, List.getElem?_eq_getElem (by omega)⟩
 refine sy_addr (a := ab) (sz := 4) (rows := brows b.bins) (by intro h0; simp [brows] at h0; simp [h0] at hx) (fun ba oa he => ?_)
 subst he
 clear hx
 refine sp rfl (PE.move rfl) rfl ?_
 refine sp rfl (PE.lenSl isl91 rfl) rfl ?_
 refine clV rfl cal101 rfl rfl (c_in _ _ _ _ _) ?_
 refine sp rfl (PE.not rfl) rfl ?_
 refine sy_cond rfl (fun hc0 => ?_) (fun hc0 => ?_)
 have hil : inB ((wls W).length : Int) 1 20000 = false := by rw [wls_len]; exact notT hc0
 have hsv := wlErr_len (b := b) hil
 refine sy_seq ?_
 refine sy_tx' [0] rfl ?_
 refine sp rfl (PE.assign rfl) rfl ?_
 refine sy_ret ?_
 exact sy_return (vs := [_]) rfl (.cons (RV.tmp rfl) .nil) rfl ⟨by rw [hsv]; rfl, rfl, rfl⟩ (fun _ h => h)
 have hil : inB ((wls W).length : Int) 1 20000 = true := by rw [wls_len]; exact notF hc0
 have hil2 : 1 ≤ W.length ∧ W.length ≤ 20000 := by rw [wls_len] at hil; simp [inB] at hil; omega
 refine sy_addr (a := aw) (sz := 2) (rows := werows W) (by intro h0; have := congrArg List.length h0; rw [werows_len] at this; simp only [List.length_nil] at this; omega) (fun bw ow he => ?_)
 subst he
 refine sy_skip ?_
 refine sy_seq ?_
 refine sy_seq ?_
 refine sy_tx' [0, 1, 2] rfl ?_
 refine sp rfl (PE.move rfl) rfl ?_
 refine sp rfl (PE.lenSl isl91 rfl) rfl ?_
 refine sp rfl (PE.move rfl) rfl ?_
 refine sy_block ?_
 refine sy_loop (ι := {i : Nat // i ≤ W.length ∧ ∀ y ∈ (wls W).take i, stErr b y = 0}) (fun i => ⟨[(0, .pointer (some ⟨bd, 0, none⟩)), (13, .slice (some ⟨bw, ow, none⟩) W.length cw), (14, .int .i64 W.length), (15, .int .i64 i.1)], H, R⟩) (fun i => W.length - i.1) ⟨0, Nat.zero_le _, by simp⟩ ?_ (fun i => ?_)
 exact sy_at (by repeat' first | exact Sub.nil | apply Sub.cons | rfl | (simp [lk]; omega)) (fun _ h => h)
 obtain ⟨i, hi, hpre⟩ := i
 dsimp only at hi hpre ⊢
 refine sy_seq ?_
 refine sy_tx' [0] rfl ?_
 refine sp rfl (PE.lss rfl rfl) rfl ?_
 refine sy_seq ?_
 refine sy_cond rfl (fun hc1 => ?_) (fun hc1 => ?_)
 try simp only [decide_eq_true_eq, decide_eq_false_iff_not, Bool.and_eq_true, Bool.or_eq_true, Bool.not_eq_true', Int.not_le, Int.not_lt] at hc1
 obtain ⟨x, hx⟩ : ∃ x, W[i]? = some x := ⟨_, List.getElem?_eq_getElem (by omega)⟩
 have hxm := List.mem_of_getElem? hx
 have hxl9 := hwx x hxm
 have hpe : ∀ e, stErr b (x.l, x.d) = e → e ≠ 0 → wlErr b (wls W) = e := fun e h1 h2 => by
   have h3 := wlErr_at hil (wls_get hx) hpre (by rw [h1]; exact h2)
   rw [h3, h1]
 refine sy_skip ?_
 refine sy_seq ?_
 refine sy_block ?_
 refine sy_seq ?_
 refine sy_tx' [0, 1, 2, 3] rfl ?_
 refine sp rfl (PE.indexAddr el91 rfl rfl (by omega) (by omega)) rfl ?_
 refine spL rfl rfl (lfA ag93 (row := werow x) (we_get hx) rfl) rfl ?_
 refine alc rfl zl93 rfl (fun b6 => ?_)
 refine stoE (l' := werow x) rfl rfl rfl cn93 rfl rfl rfl rfl (Nat.le_of_ble_eq_true rfl) ?_
 refine sy_seq ?_
 refine sy_seq ?_
 refine sy_draw [0, 1, 3, 0, 8, 24, 56, 120, 248, 511] (.tk 0 (.ld 1 (.tk 2 (.tk 3 (.tk 4 (.tk 5 (.tk 6 (.ld 7 (.tk 8 (.tk 9 .done)))))))))) mixed (by kernel_rfl) ?_
 refine tk rfl (PE.fieldAddr fo93_0 rfl) rfl ?_
 refine ld rfl rfl (lh sc40 rfl rfl) rfl ?_
 refine tk rfl (PE.lenSl isl40 rfl) rfl ?_
 refine tk rfl (PE.move rfl) rfl ?_
 refine tk rfl (PE.nilCheck rfl) rfl ?_
 refine tk rfl (PE.fieldAddr fo130_0 rfl) rfl ?_
 refine tk rfl (PE.fieldAddr fo25_3 rfl) rfl ?_
 refine ld rfl rfl (lfB (sz := 18) sc23 rfl) rfl ?_
 refine tk rfl (PE.lenSl isl23 rfl) rfl ?_
 refine tk rfl (PE.neq rfl rfl) rfl ?_
 refine sy_cond rfl (fun hc2 => ?_) (fun hc2 => ?_)
 try simp only [decide_eq_true_eq, decide_eq_false_iff_not, Bool.and_eq_true, Bool.or_eq_true, Bool.not_eq_true', Int.not_le, Int.not_lt] at hc2
 have hsv := hpe 2 (stErr_len (s := (x.l, x.d)) (by dsimp only; omega)) (by decide)
 refine sy_seq ?_
 refine sy_tx' [0] rfl ?_
 refine sp rfl (PE.assign rfl) rfl ?_
 refine sy_ret ?_
 exact sy_return (vs := [_]) rfl (.cons (RV.tmp rfl) .nil) rfl ⟨by rw [hsv]; rfl, rfl, rfl⟩ (fun w h => h.del b6)
 try simp only [decide_eq_true_eq, decide_eq_false_iff_not, Bool.and_eq_true, Bool.or_eq_true, Bool.not_eq_true', Int.not_le, Int.not_lt] at hc2
 have hxl : x.l.length = b.bins.length := by omega
 refine sy_skip ?_
 refine sy_seq ?_
 refine sy_seq ?_
 refine sy_tx' [0, 1, 2, 3] rfl ?_
 refine sp rfl (PE.fieldAddr fo93_1 rfl) rfl ?_
 refine spL rfl rfl (lh sc3 rfl rfl) rfl ?_
 refine clV rfl cal101 rfl rfl (c_in _ _ _ _ _) ?_
 refine sp rfl (PE.not rfl) rfl ?_
 refine sy_cond rfl (fun hc3 => ?_) (fun hc3 => ?_)
 have hsv := hpe 3 (stErr_days (s := (x.l, x.d)) hxl (notT hc3)) (by decide)
 refine sy_seq ?_
 refine sy_tx' [0] rfl ?_
 refine sp rfl (PE.assign rfl) rfl ?_
 refine sy_ret ?_
 exact sy_return (vs := [_]) rfl (.cons (RV.tmp rfl) .nil) rfl ⟨by rw [hsv]; rfl, rfl, rfl⟩ (fun w h => h.del b6)
 have hxd : inB x.d 0 20000 = true := notF hc3
 refine Sy.heap (H' := (b6, cel 93 [.slice x.a x.l.length x.c, .int .i64 x.d]) :: H) (fun w h => St.inwAt (x := x) h hxm) ?_
 refine sy_addr (a := x.a) (sz := 1) (rows := irows x.l) (by intro h0; have := congrArg List.length h0; rw [irows_len] at this; simp only [List.length_nil] at this; omega) (fun bx ox he => ?_)
 rw [he]
 refine sy_skip ?_
 refine sy_seq ?_
 refine sy_tx' [0, 1, 2, 3] rfl ?_
 refine sp rfl (PE.fieldAddr fo93_0 rfl) rfl ?_
 refine spL rfl rfl (lh sc40 rfl rfl) rfl ?_
 refine sp rfl (PE.lenSl isl40 rfl) rfl ?_
 refine sp rfl (PE.move rfl) rfl ?_
 refine sy_block ?_
 refine sy_loop (ι := {k : Nat // k ≤ b.bins.length ∧ ∀ j < k, badL b j (na x.l j) = false}) (fun k => ⟨[(0, .pointer (some ⟨bd, 0, none⟩)), (13, .slice (some ⟨bw, ow, none⟩) W.length cw), (14, .int .i64 W.length), (15, .int .i64 i), (34, .slice (some ⟨bx, ox, none⟩) x.l.length x.c), (35, .int .i64 x.l.length), (36, .int .i64 k.1)], (b6, cel 93 [.slice (some ⟨bx, ox, none⟩) x.l.length x.c, .int .i64 x.d]) :: H, RowsA (some ⟨bx, ox, none⟩) 1 (irows x.l) :: R⟩) (fun k => b.bins.length - k.1) ⟨0, Nat.zero_le _, fun j hj => absurd hj (Nat.not_lt_zero _)⟩ ?_ (fun k => ?_)
 exact sy_at (by repeat' first | exact Sub.nil | apply Sub.cons | rfl | (simp [lk]; omega)) (fun _ h => h)
 obtain ⟨k, hk, hbl⟩ := k
 dsimp only at hk hbl ⊢
 refine sy_seq ?_
 refine sy_tx' [0] rfl ?_
 refine sp rfl (PE.lss rfl rfl) rfl ?_
 refine sy_seq ?_
 refine sy_cond rfl (fun hc4 => ?_) (fun hc4 => ?_)
 try simp only [decide_eq_true_eq, decide_eq_false_iff_not, Bool.and_eq_true, Bool.or_eq_true, Bool.not_eq_true', Int.not_le, Int.not_lt] at hc4
 obtain ⟨z, hz⟩ : ∃ z, b.bins[k]? = some z := ⟨_, List.getElem?_eq_getElem (by omega)⟩
 have hzo := hok.bins z (List.mem_of_getElem? hz)
 have hm2 : ∀ j < k + 1, badL b k (na x.l k) = false → badL b j (na x.l j) = false := fun j hj h => by
   rcases Nat.lt_or_ge j k with h1 | h1
   · exact hbl j h1
   · obtain rfl : j = k := by omega
     exact h
 refine sy_skip ?_
 refine sy_seq ?_
 refine sy_block ?_
 refine sy_seq ?_
 refine sy_tx' [0, 1, 2, 3, 4] rfl ?_
 refine sp rfl (PE.move rfl) rfl ?_
 refine sp rfl (PE.indexAddr el40 rfl rfl (by omega) (by omega)) rfl ?_
 refine spL rfl rfl (lf0 sc3 (ir_get (na_get (l := x.l) (k := k) (by omega))) rfl) rfl ?_
 refine sp rfl (PE.assign rfl) rfl ?_
 refine sp rfl (PE.assign rfl) rfl ?_
 refine sy_seq ?_
 refine sy_tx' [0, 1, 2, 3, 4, 5, 6, 7, 8, 9, 10, 11, 12, 13, 14, 15, 16, 17, 18] rfl ?_
 refine sp rfl (PE.move rfl) rfl ?_
 refine sp rfl (PE.eql rfl rfl) rfl ?_
 refine sp rfl (PE.move rfl) rfl ?_
 refine sp rfl (PE.nilCheck rfl) rfl ?_
 refine sp rfl (PE.fieldAddr fo130_0 rfl) rfl ?_
 refine spL rfl rfl (lfBA (sz := 18) (btl b (b.sl (some ⟨ba, oa, none⟩) cb)) ag25 rfl rfl) rfl ?_
 refine sp rfl (PE.move rfl) rfl ?_
 refine clV rfl cal77 rfl rfl (c_worst b (some ⟨ba, oa, none⟩) cb k z hz hzo.2.2.2 _ _) ?_
 refine sp rfl (PE.eql rfl rfl) rfl ?_
 refine sp rfl (PE.neqBool ub4 rfl rfl) rfl ?_
 refine sp rfl (PE.move rfl) rfl ?_
 refine sy_case (t := 51) rfl (fun g51 => ?_) (fun g51 => ?_)
 have hbv := bl_badL hz g51
 repeat refine spN rfl rfl rfl rfl rfl rfl rfl rfl ?_
 repeat refine spU rfl rfl rfl rfl rfl rfl rfl ?_
 refine spN rfl rfl rfl rfl rfl rfl rfl rfl ?_
 refine sp rfl (PE.pick rfl rfl rfl) rfl ?_
 refine sy_condT rfl ?_
 refine sy_seq ?_
 refine sy_tx' [0] rfl ?_
 have hsv := hpe 3 (stErr_num (s := (x.l, x.d)) hxl hxd (k := k) (by omega) hbv) (by decide)
 refine sp rfl (PE.assign rfl) rfl ?_
 refine sy_ret ?_
 first | exact sy_return (vs := [_]) rfl (.cons (RV.tmp rfl) .nil) rfl ⟨by rw [hsv]; rfl, rfl, rfl⟩ (fun w h => (h.del b6).ftail) | exact sy_return (vs := [_]) rfl (.cons (RV.tmp rfl) .nil) rfl ⟨by rw [hsv]; rfl, rfl, rfl⟩ (fun _ h => h)
 refine spG rfl rfl rfl rfl (PE.move rfl) rfl ?_
 refine spG rfl rfl rfl rfl (PE.neq rfl rfl) rfl ?_
 refine spG rfl rfl rfl rfl (PE.move rfl) rfl ?_
 refine sy_case (t := 54) rfl (fun g54 => ?_) (fun g54 => ?_)
 have hnum := bl_num hz g51 (of_decide_eq_true g54)
 refine spG rfl rfl rfl rfl (PE.move rfl) rfl ?_
 refine clVG rfl rfl rfl rfl cal101 rfl rfl (c_in _ _ _ _ _) ?_
 refine spG rfl rfl rfl rfl (PE.not rfl) rfl ?_
 refine spG rfl rfl rfl rfl (PE.pick rfl rfl rfl) rfl ?_
 refine sp rfl (PE.pick rfl rfl rfl) rfl ?_
 refine sy_cond rfl (fun hc5 => ?_) (fun hc5 => ?_)
 have hbv : badL b k (na x.l k) = true := hnum.trans hc5
 refine sy_seq ?_
 refine sy_tx' [0] rfl ?_
 have hsv := hpe 3 (stErr_num (s := (x.l, x.d)) hxl hxd (k := k) (by omega) hbv) (by decide)
 refine sp rfl (PE.assign rfl) rfl ?_
 refine sy_ret ?_
 first | exact sy_return (vs := [_]) rfl (.cons (RV.tmp rfl) .nil) rfl ⟨by rw [hsv]; rfl, rfl, rfl⟩ (fun w h => (h.del b6).ftail) | exact sy_return (vs := [_]) rfl (.cons (RV.tmp rfl) .nil) rfl ⟨by rw [hsv]; rfl, rfl, rfl⟩ (fun _ h => h)
 have hbv : badL b k (na x.l k) = false := hnum.trans hc5
 refine sy_skip ?_
 refine sy_tx' [0, 1] rfl ?_
 refine sp rfl (PE.add rfl rfl (by omega)) rfl ?_
 refine sp rfl (PE.move rfl) rfl ?_
 exact sy_next ⟨k + 1, by omega, fun j hj => hm2 j hj hbv⟩ (by dsimp only; omega) (by repeat' first | exact Sub.nil | apply Sub.cons | rfl | (simp [lk]; omega)) (fun _ h => h)
 have hbv := bl_ever hz g51 (by have := of_decide_eq_false g54; omega)
 repeat refine spN rfl rfl rfl rfl rfl rfl rfl rfl ?_
 refine spG rfl rfl rfl rfl (PE.pick rfl rfl rfl) rfl ?_
 refine sp rfl (PE.pick rfl rfl rfl) rfl ?_
 refine sy_condF rfl ?_
 refine sy_skip ?_
 refine sy_tx' [0, 1] rfl ?_
 refine sp rfl (PE.add rfl rfl (by omega)) rfl ?_
 refine sp rfl (PE.move rfl) rfl ?_
 exact sy_next ⟨k + 1, by omega, fun j hj => hm2 j hj hbv⟩ (by dsimp only; omega) (by repeat' first | exact Sub.nil | apply Sub.cons | rfl | (simp [lk]; omega)) (fun _ h => h)
 try simp only [decide_eq_true_eq, decide_eq_false_iff_not, Bool.and_eq_true, Bool.or_eq_true, Bool.not_eq_true', Int.not_le, Int.not_lt] at hc4
 obtain rfl : k = b.bins.length := by omega
 have hst := stErr_ok (s := (x.l, x.d)) hxl hxd hbl
 refine sy_exit ?_
 repeat refine sy_tx ?_
 refine sy_bx ?_
 refine sy_tx' [0, 1] rfl ?_
 refine sp rfl (PE.add rfl rfl (by omega)) rfl ?_
 refine sp rfl (PE.move rfl) rfl ?_
 exact sy_next ⟨i + 1, by omega, take_all (wls_get hx) hpre hst⟩ (by dsimp only; omega) (by repeat' first | exact Sub.nil | apply Sub.cons | rfl | (simp [lk]; omega)) (fun w h => (h.del b6).ftail)
 try simp only [decide_eq_true_eq, decide_eq_false_iff_not, Bool.and_eq_true, Bool.or_eq_true, Bool.not_eq_true', Int.not_le, Int.not_lt] at hc1
 obtain rfl : i = W.length := by omega
 rw [List.take_of_length_le (by rw [wls_len]; exact Nat.le_refl _)] at hpre
 have hsv := wlErr_ok hil hpre
 refine sy_exit ?_
 repeat refine sy_tx ?_
 refine sy_bx ?_
 refine sy_seq ?_
 refine sy_tx' [0] rfl ?_
 refine sp rfl (PE.assign rfl) rfl ?_
 refine sy_ret ?_
 first | exact sy_return (vs := [_]) rfl (.cons (RV.tmp rfl) .nil) rfl ⟨by rw [hsv]; rfl, rfl, rfl⟩ (fun w h => (h.del b6).ftail) | exact sy_return (vs := [_]) rfl (.cons (RV.tmp rfl) .nil) rfl ⟨by rw [hsv]; rfl, rfl, rfl⟩ (fun _ h => h)
end Go.Proofs.Ytelegnmfhjfbaaa
namespace Go.Proofs.Ytelegnmfhjfbaaa
set_option linter.unusedSimpArgs false
set_option linter.unusedVariables false
open Go
theorem cal117 : cal Try.prog 117 = true := by kernel_rfl
theorem cal118 : cal Try.prog 118 = true := by kernel_rfl
theorem cal119 : cal Try.prog 119 = true := by kernel_rfl
theorem cn164 : cellN Try.prog 164 = some 1 := by kernel_rfl
theorem cn36 : cellN Try.prog 36 = some 1 := by kernel_rfl
theorem eqg127 : Try.prog.eqGuardType Try.prog.depth 127 = false := by kernel_rfl
theorem sc164 : scal Try.prog 164 = true := by kernel_rfl
theorem sc36 : scal Try.prog 36 = true := by kernel_rfl
theorem sc91 : scal Try.prog 91 = true := by kernel_rfl
theorem zl164 : zeroL Try.prog 164 = some ([.nilFunc]) := by kernel_rfl
theorem zl36 : zeroL Try.prog 36 = some ([.int .i64 0]) := by kernel_rfl
section
variable {P : Program} {r : Option Nat} {ops : Array Oper} {n : Nat} {L : Slots} {D : List Deferred} {H : Heap} {R : Facts} {K : Act → World → Prop}
  {i d : Nat} {ty : TypeId} {pos : String} {af : Array Edge}
theorem cpyRo {T T2 e s od : Nat} {x y : Operand} {b dl dc sc e2 : Nat} {l : List Value} {ax : Option Addr} {rows : List (List Value)} {H' : Heap}
    (ho : ops[i]? = some ⟨some d, .call { callee := .builtin .copy, args := #[x, y], argTypes := #[T, T2] }, ty, pos, af, none⟩) (hT : slE P T = some (e, s))
    (hx : ev L x = some (.slice (some ⟨b, od, none⟩) dl dc)) (hy : ev L y = some (.slice ax rows.length sc)) [mr : MemRows ax s rows R] (hl : ∀ q ∈ rows, q.length = s) (hle : rows.length ≤ dl)
    (h1 : rows.flatten.all (·.oneCell') = true) (hb : od + rows.flatten.length ≤ l.length) (hd : Nat.blt d n = true)
    [m : Mem1 b (cel e2 l) H] [rp : Rep [(b, cel e2 l)] [(b, cel e2 (spl l od rows.flatten))] H H']
    (h : Sy n ((d, .int .i64 rows.length) :: L) D H' R K) : Sy n L D H R (stp P r ops i K) := fun a w ha hD hs => by
  obtain ⟨ie, hu, hi, rfl⟩ := slE_und hT
  have hr := run_rows (P := P) (sc := sc) (hs.now mr.mem) hl hle
  have hst := run_storeA (P := P) (e := e2) h1 hb (hs.held _ m.mem)
  refine stp_value ho (wanted_none _ rfl _) (v := .int .i64 rows.length) (w' := { w with heap := w.heap.setIfInBounds b (cel e2 (spl l od rows.flatten)) }) ?_
    (h _ _ (ha.put (by simpa using hd) _) hD (hs.rep (F := [(b, cel e2 l)]) (F' := [(b, cel e2 (spl l od rows.flatten))]) fun T hT => St.set hT))
  simp only [execOp, resolve, invoke, builtin, Sem.run_bind, Sem.run_pure, Result.andThen, List.map_toArray, List.map_cons, List.map_nil, ha.reads _ _ hx, ha.reads _ _ hy]
  have e1 : (Builtin.copy_ #[T, T2] ty #[.slice (some ⟨b, od, none⟩) dl dc, .slice ax rows.length sc]).run P w = .ok (goInt (rows.length : Nat)) { w with heap := w.heap.setIfInBounds b (cel e2 (spl l od rows.flatten)) } := by
    have e3 : (Builtin.firstCells ie.size rows.length (.slice ax rows.length sc)).run P w = .ok rows.flatten.toArray w := by
      rw [show Nat.min rows.length dl = rows.length from Nat.min_eq_left hle] at hr; exact hr
    simp [Builtin.copy_, run_underlying hu, Builtin.lenOf, sizeOf, typeInfo, hi, e3, hst, Nat.min_eq_left hle]
  rw [e1]
  rfl
end
def wpd (W : List WE) : List HSt := W.map fun x => pad x.l
theorem wpd_len (W : List WE) : (wpd W).length = W.length := List.length_map _
theorem wpd_get {W : List WE} {i : Nat} {x : WE} (h : W[i]? = some x) : (wpd W)[i]? = some (pad x.l) := by unfold wpd; rw [List.getElem?_map, h]; rfl
theorem st4 {l : List HSt} (h : ∀ s ∈ l, s.length = 4) : ∀ r ∈ strows l, r.length = 4 := fun r hr => by
  obtain ⟨s, hs, rfl⟩ := List.mem_map.1 hr
  rw [ints_length]; exact h s hs
def wgap (W : List WE) (i : Nat) : List Value := (strows (wpd (W.take i))).flatten ++ (List.replicate (W.length - i) [Value.int .i64 0, .int .i64 0, .int .i64 0, .int .i64 0]).flatten
theorem wpd_four {W : List WE} {n : Nat} (hn : n ≤ 4) (h : ∀ x ∈ W, x.l.length = n) : ∀ s ∈ wpd W, s.length = 4 := fun s hs => by
  obtain ⟨x, hx, rfl⟩ := List.mem_map.1 hs
  have := h x hx
  exact pad_len' (by omega)
theorem spl_pad {p rest : List Value} {l : List Int} (hl : l.length ≤ 4) : spl (p ++ ([Value.int .i64 0, .int .i64 0, .int .i64 0, .int .i64 0] ++ rest)) p.length (ints l) = p ++ (ints (pad l) ++ rest) := by
  unfold spl
  rw [List.take_left, ints_length, List.append_assoc]
  congr 1
  rw [show p.length + l.length = (p ++ ([] : List Value)).length + l.length by simp, List.append_nil, List.drop_append, List.drop_of_length_le (by omega), List.nil_append, show p.length + l.length - p.length = l.length by omega,
    List.drop_append_of_le_length (by simpa using hl)]
  rw [← List.append_assoc]
  congr 1
  have e : ([Value.int .i64 0, .int .i64 0, .int .i64 0, .int .i64 0] : List Value) = List.replicate 4 (.int .i64 0) := rfl
  rw [e, List.drop_replicate]
  unfold pad ints
  rw [List.map_append, List.map_replicate]
theorem wgap_put {W : List WE} {n i : Nat} {x : WE} (hn : n ≤ 4) (h : ∀ x ∈ W, x.l.length = n) (hx : W[i]? = some x) {o : Nat} (e : o = i * 4) : spl (wgap W i) o (irows x.l).flatten = wgap W (i + 1) := by
  have hi := (List.getElem?_eq_some_iff.1 hx).1
  have hp : (strows (wpd (W.take i))).flatten.length = i * 4 := by
    rw [flat_len (sz := 4) (st4 (wpd_four hn fun x hx => h x (List.mem_of_mem_take hx))), strows_len, wpd_len, List.length_take, Nat.min_eq_left (by omega)]
  unfold wgap
  rw [e, ← hp, show W.length - i = (W.length - (i + 1)) + 1 by omega, List.replicate_succ, List.flatten_cons, show (irows x.l).flatten = ints x.l from irows_flat x.l, spl_pad (by have := h x (List.mem_of_getElem? hx); omega), take_snoc hx]
  unfold wpd strows
  rw [List.map_append, List.map_append, List.flatten_append, List.append_assoc]
  simp
theorem wgap_len {W : List WE} {n i : Nat} (hn : n ≤ 4) (h : ∀ x ∈ W, x.l.length = n) (hi : i ≤ W.length) : (wgap W i).length = W.length * 4 := by
  unfold wgap
  rw [List.length_append, flat_len (sz := 4) (st4 (wpd_four hn fun x hx => h x (List.mem_of_mem_take hx))), strows_len, wpd_len, List.length_take, Nat.min_eq_left hi, flat_len (sz := 4) (fun r hr => by rw [(List.mem_replicate.1 hr).2]; rfl), List.length_replicate]
  omega
theorem irows_ones (l : List Int) : (irows l).flatten.all (·.oneCell') = true := by rw [irows_flat]; exact ints_one l
def shwE (b : Barn) (W : WL) : Int × Int := bif decide (b.check = 0) then shwV b W else (0, b.check)
theorem undP_refl (n : Nat) (s : List Int) : undP n s s = true := undP_iff.2 fun _ _ => Int.le_refl _
theorem c_shows1 (b : Barn) (hok : b.ok) (ab : Option Addr) (cb bd m : Nat) (W : List WE) (aw : Option Addr) (cw : Nat) (bl b1 b2 b3 : Nat) (hwl : W.length ≤ 1000000) (hwz : ∀ x ∈ W, x.l.length = b.bins.length ∧ (0 ≤ x.d ∧ x.d ≤ 20000)) (t : HSt) (ht : t.length = 4) (H : Heap) (R : Facts) [hD : MemRows (some ⟨bd, 0, none⟩) 18 [dcs b (b.sl ab cb) b.lasts b.most m] R] [hW : MemRows aw 2 (werows W) R] [h1 : MemRows (some ⟨b1, 0, none⟩) 1 [[.slice (some ⟨bl, 0, none⟩) W.length W.length]] R] [h2 : MemRows (some ⟨b2, 0, none⟩) 1 [[.pointer (some ⟨bd, 0, none⟩)]] R] [h3 : MemRows (some ⟨b3, 0, none⟩) 1 [[.slice aw W.length cw]] R] [h4 : MemRows (some ⟨bl, 0, none⟩) 4 (strows (wpd W)) R] :
    FnV Try.prog 118 [stv t, .pointer (some ⟨b1, 0, none⟩), .pointer (some ⟨b2, 0, none⟩), .pointer (some ⟨b3, 0, none⟩)] H R (.int .i64 (shnV b.bins.length (wls W) t)) := by
 have hmn := hok.many
 refine fn_of Try.func118 rfl Try.ntmps118 rfl ?_
 refine sy_seq ?_
 refine sy_tx' [0, 1] rfl ?_
 refine bx rfl rfl rfl (fun b4 => ?_)
 refine sp rfl (PE.assign rfl) rfl ?_
 refine sy_seq ?_
 refine sy_tx' [0] rfl ?_
 refine sp rfl (PE.assign rfl) rfl ?_
 refine sy_seq ?_
 refine sy_seq ?_
 refine sy_tx' [0, 1, 2] rfl ?_
 refine spL rfl rfl (lfB (sz := 1) sc156 rfl) rfl ?_
 refine sp rfl (PE.lenSl isl156 rfl) rfl ?_
 refine sp rfl (PE.move rfl) rfl ?_
 refine sy_block ?_
 refine sy_loop (ι := {y : Nat × Int // y.1 ≤ W.length ∧ y.2 = shnV b.bins.length (wls (W.take y.1)) t}) (fun y => ⟨[(1, .pointer (some ⟨b1, 0, none⟩)), (2, .pointer (some ⟨b2, 0, none⟩)), (3, .pointer (some ⟨b3, 0, none⟩)), (4, .pointer (some ⟨b4, 0, none⟩)), (6, .int .i64 y.1.2), (9, .slice (some ⟨bl, 0, none⟩) W.length W.length), (10, .int .i64 W.length), (11, .int .i64 y.1.1)], (b4, cel 127 (ints t)) :: H, R⟩) (fun y => W.length - y.1.1) ⟨(0, 1000000), Nat.zero_le _, rfl⟩ ?_ (fun y => ?_)
 exact sy_at (by repeat' first | exact Sub.nil | apply Sub.cons | rfl | (simp [lk]; omega)) (fun _ h => h)
 obtain ⟨⟨i, mi⟩, hi, hm⟩ := y
 dsimp only at hi hm ⊢
 refine sy_seq ?_
 refine sy_tx' [0] rfl ?_
 refine sp rfl (PE.lss rfl rfl) rfl ?_
 refine sy_seq ?_
 refine sy_cond rfl (fun hc0 => ?_) (fun hc0 => ?_)
 try simp only [decide_eq_true_eq, decide_eq_false_iff_not, Bool.and_eq_true, Bool.or_eq_true, Bool.not_eq_true', Int.not_le, Int.not_lt] at hc0
 obtain ⟨x, hx⟩ : ∃ x, W[i]? = some x := ⟨_, List.getElem?_eq_getElem (by omega)⟩
 have hxm := List.mem_of_getElem? hx
 obtain ⟨hxl, hxd⟩ := hwz x hxm
 have hpl : (pad x.l).length = 4 := pad_len' (by omega)
 have hnx : shnV b.bins.length (wls (W.take (i + 1))) t = bif undP b.bins.length t (pad x.l) then min mi x.d else mi := by rw [take_snoc hx, wls_app, show wls [x] = [(x.l, x.d)] from rfl, shnV_snoc, ← hm, undP_padR]; rfl
 have hsr : (strows (wpd W)).length = W.length := by rw [strows_len, wpd_len]
 refine sy_addr (a := aw) (sz := 2) (rows := werows W) (by intro h0; have := congrArg List.length h0; rw [werows_len] at this; simp only [List.length_nil] at this; omega) (fun bw ow he => ?_)
 subst he
 refine sy_skip ?_
 refine sy_seq ?_
 refine sy_block ?_
 refine sy_seq ?_
 refine sy_tx' [0, 1, 2, 3, 4, 5] rfl ?_
 refine sp rfl (PE.move rfl) rfl ?_
 refine sp rfl (PE.indexAddr el156 rfl rfl (by omega) (by omega)) rfl ?_
 refine spL rfl rfl (lfA ag127 (row := ints (pad x.l)) (strows_get (wpd_get hx)) (by rw [ints_length]; exact hpl)) rfl ?_
 refine alc rfl zl127 rfl (fun b8 => ?_)
 refine sp rfl (PE.assign rfl) rfl ?_
 refine stoA rfl rfl rfl cn127 rfl (by rw [ints_length]; exact hpl) rfl (ints_one _) ?_
 refine sy_seq ?_
 refine sy_tx' [0, 1, 2, 3, 4, 5, 6, 7, 8] rfl ?_
 refine spL rfl rfl (lhA (rest := []) (ints t) ag127 rfl (by rw [List.append_nil]; rfl) (by rw [ints_length]; exact ht)) rfl ?_
 refine spL rfl rfl (lhA (rest := []) (ints (pad x.l)) ag127 rfl (by rw [List.append_nil]; rfl) (by rw [ints_length]; exact hpl)) rfl ?_
 refine sp rfl (PE.eqlAgg t (pad x.l) (eqB_ok 10000 127 true 4 eqf127) eqg127 rfl rfl ht hpl) rfl ?_
 refine sp rfl (PE.move rfl) rfl ?_
 refine sy_case (t := 19) rfl (fun g19 => ?_) (fun g19 => ?_)
 have hun : undP b.bins.length t (pad x.l) = true := by rw [← of_decide_eq_true g19]; exact undP_refl _ _
 repeat refine spN rfl rfl rfl rfl rfl rfl rfl rfl ?_
 refine sp rfl (PE.pick rfl rfl rfl) rfl ?_
 refine sy_condT rfl ?_
 refine sy_tx' [0, 1, 2, 3, 4, 5, 6, 7] rfl ?_
 rw [hun, cond_true] at hnx
 refine sp rfl (PE.move rfl) rfl ?_
 refine spL rfl rfl (lfB (sz := 1) sc91 rfl) rfl ?_
 refine sp rfl (PE.move rfl) rfl ?_
 refine sp rfl (PE.indexAddr el91 rfl rfl (by omega) (by omega)) rfl ?_
 refine sp rfl (PE.fieldAddr fo93_1 rfl) rfl ?_
 refine spL rfl rfl (lf (j := 1) (row := werow x) sc3 (we_get hx) rfl) rfl ?_
 refine sp rfl (PE.min rfl rfl) rfl ?_
 refine sp rfl (PE.assign rfl) rfl ?_
 refine sy_tx' [0, 1] rfl ?_
 refine sp rfl (PE.add rfl rfl (by omega)) rfl ?_
 refine sp rfl (PE.move rfl) rfl ?_
 first
   | exact sy_next ⟨(i + 1, min mi x.d), by dsimp only; omega, hnx.symm⟩ (by dsimp only; omega) (by repeat' first | exact Sub.nil | apply Sub.cons | rfl | (simp [lk]; omega)) (fun w h => h.del b8)
   | exact sy_next ⟨(i + 1, mi), by dsimp only; omega, hnx.symm⟩ (by dsimp only; omega) (by repeat' first | exact Sub.nil | apply Sub.cons | rfl | (simp [lk]; omega)) (fun w h => h.del b8)
 refine spLG rfl rfl rfl rfl rfl (lfB (sz := 1) sc123 rfl) rfl ?_
 refine spLG rfl rfl rfl rfl rfl (lhA (rest := []) (ints t) ag127 rfl (by rw [List.append_nil]; rfl) (by rw [ints_length]; exact ht)) rfl ?_
 refine spLG rfl rfl rfl rfl rfl (lhA (rest := []) (ints (pad x.l)) ag127 rfl (by rw [List.append_nil]; rfl) (by rw [ints_length]; exact hpl)) rfl ?_
 refine clVG rfl rfl rfl rfl cal119 rfl rfl (c_under b hok ab cb bd m t (pad x.l) ht hpl _ _) ?_
 refine sp rfl (PE.pick rfl rfl rfl) rfl ?_
 refine sy_cond rfl (fun hc1 => ?_) (fun hc1 => ?_)
 have hun : undP b.bins.length t (pad x.l) = true := hc1
 refine sy_tx' [0, 1, 2, 3, 4, 5, 6, 7] rfl ?_
 rw [hun, cond_true] at hnx
 refine sp rfl (PE.move rfl) rfl ?_
 refine spL rfl rfl (lfB (sz := 1) sc91 rfl) rfl ?_
 refine sp rfl (PE.move rfl) rfl ?_
 refine sp rfl (PE.indexAddr el91 rfl rfl (by omega) (by omega)) rfl ?_
 refine sp rfl (PE.fieldAddr fo93_1 rfl) rfl ?_
 refine spL rfl rfl (lf (j := 1) (row := werow x) sc3 (we_get hx) rfl) rfl ?_
 refine sp rfl (PE.min rfl rfl) rfl ?_
 refine sp rfl (PE.assign rfl) rfl ?_
 refine sy_tx' [0, 1] rfl ?_
 refine sp rfl (PE.add rfl rfl (by omega)) rfl ?_
 refine sp rfl (PE.move rfl) rfl ?_
 first
   | exact sy_next ⟨(i + 1, min mi x.d), by dsimp only; omega, hnx.symm⟩ (by dsimp only; omega) (by repeat' first | exact Sub.nil | apply Sub.cons | rfl | (simp [lk]; omega)) (fun w h => h.del b8)
   | exact sy_next ⟨(i + 1, mi), by dsimp only; omega, hnx.symm⟩ (by dsimp only; omega) (by repeat' first | exact Sub.nil | apply Sub.cons | rfl | (simp [lk]; omega)) (fun w h => h.del b8)
 have hun : undP b.bins.length t (pad x.l) = false := hc1
 rw [hun, cond_false] at hnx
 refine sy_skip ?_
 refine sy_tx' [0, 1] rfl ?_
 refine sp rfl (PE.add rfl rfl (by omega)) rfl ?_
 refine sp rfl (PE.move rfl) rfl ?_
 first
   | exact sy_next ⟨(i + 1, min mi x.d), by dsimp only; omega, hnx.symm⟩ (by dsimp only; omega) (by repeat' first | exact Sub.nil | apply Sub.cons | rfl | (simp [lk]; omega)) (fun w h => h.del b8)
   | exact sy_next ⟨(i + 1, mi), by dsimp only; omega, hnx.symm⟩ (by dsimp only; omega) (by repeat' first | exact Sub.nil | apply Sub.cons | rfl | (simp [lk]; omega)) (fun w h => h.del b8)
 try simp only [decide_eq_true_eq, decide_eq_false_iff_not, Bool.and_eq_true, Bool.or_eq_true, Bool.not_eq_true', Int.not_le, Int.not_lt] at hc0
 obtain rfl : i = W.length := by omega
 rw [List.take_length] at hm
 subst hm
 refine sy_exit ?_
 repeat refine sy_tx ?_
 refine sy_bx ?_
 refine sy_seq ?_
 refine sy_tx' [0, 1] rfl ?_
 refine sp rfl (PE.move rfl) rfl ?_
 refine sp rfl (PE.assign rfl) rfl ?_
 refine sy_ret ?_
 exact sy_return (vs := [_]) rfl (.cons (RV.tmp rfl) .nil) rfl ⟨rfl, rfl, rfl⟩ (fun w h => h.del b4)
theorem c_Shows (b : Barn) (ab : Option Addr) (cb : Nat) (hl : b.bins.length ≤ 9223372036854775807) (hr : b.rise.length = 6) (W : List WE) (aw : Option Addr) (cw : Nat) (hwl : W.length ≤ 1000000) (hwx : ∀ x ∈ W, x.l.length ≤ 1000000) (H : Heap) (R : Facts) [hB : MemRows ab 4 (brows b.bins) R] [hW : MemRows aw 2 (werows W) R] [hN : MemF (InW W) R] :
    FnV Try.prog 61 [b.v (b.sl ab cb), .slice aw W.length cw] H R (.tuple #[.int .i64 (shwE b (wls W)).1, .int .i64 (shwE b (wls W)).2]) := by
 refine fnM_of Try.func61 rfl Try.ntmps61 rfl ?_
 refine sy_seq ?_
 refine sy_tx' [0, 1, 2, 3] rfl ?_
 refine bx rfl rfl rfl (fun b2 => ?_)
 refine bx rfl rfl rfl (fun b3 => ?_)
 refine alc rfl zl3 rfl (fun b4 => ?_)
 refine alc rfl zl36 rfl (fun b5 => ?_)
 refine sy_seq ?_
 refine sy_tx' [0, 1, 2, 3, 4, 5, 6, 7] rfl ?_
 refine spL rfl rfl (lhA (btl b (b.sl ab cb)) ag25 rfl rfl rfl) rfl ?_
 refine cl rfl cal89 rfl rfl (c_opened b ab cb hl hr _ _) ?_
 rintro _ _ _ (⟨hck, rfl, rfl, rfl⟩ | ⟨hck, bd, m, rfl, rfl, rfl⟩)
 refine sp rfl (PE.move rfl) rfl ?_
 refine sp rfl (PE.extract rfl rfl) rfl ?_
 refine sp rfl (PE.extract rfl rfl) rfl ?_
 refine alc rfl zl123 rfl (fun b6 => ?_)
 refine sto rfl rfl rfl cn123 rfl rfl rfl rfl ?_
 refine sp rfl (PE.assign rfl) rfl ?_
 refine sy_seq ?_
 refine sy_seq ?_
 refine sy_tx' [0, 1] rfl ?_
 refine sp rfl (PE.move rfl) rfl ?_
 refine sp rfl (PE.neq rfl rfl) rfl ?_
 refine sy_condT (congrArg (fun b => some (Value.bool b)) (decide_eq_true hck)) ?_
 refine sy_seq ?_
 refine sy_tx' [0, 1, 2] rfl ?_
 refine sp rfl (PE.move rfl) rfl ?_
 refine sto rfl rfl rfl cn3 rfl rfl rfl rfl ?_
 refine sto rfl rfl rfl cn36 rfl rfl rfl rfl ?_
 refine sy_ret ?_
 have hsv : shwE b (wls W) = (0, b.check) := by unfold shwE; rw [decide_eq_false hck]; rfl
 exact sy_returnM [] (fun _ h => h) rfl (.cons (RV.cell rfl (lh sc3 rfl rfl)) (.cons (RV.cell rfl (lh sc36 rfl rfl)) .nil)) rfl ⟨by rw [hsv]; rfl, rfl, rfl⟩ (fun w h => ((((h.del b6).del b5).del b4).del b3).del b2)
 ·
  have hok := Barn.ok_of hr hck
  have hdk := b.dsk_ok hok
  have hl4 := hdk.lasts.len
  have hm4 := hdk.most.len
  refine sp rfl (PE.move rfl) rfl ?_
  refine sp rfl (PE.extract rfl rfl) rfl ?_
  refine sp rfl (PE.extract rfl rfl) rfl ?_
  refine alc rfl zl123 rfl (fun b6 => ?_)
  refine sto rfl rfl rfl cn123 rfl rfl rfl rfl ?_
  refine sp rfl (PE.assign rfl) rfl ?_
  refine sy_seq ?_
  refine sy_seq ?_
  refine sy_tx' [0, 1] rfl ?_
  refine sp rfl (PE.move rfl) rfl ?_
  refine sp rfl (PE.neq rfl rfl) rfl ?_
  refine sy_condF (rfl) ?_
  refine sy_skip ?_
  refine sy_seq ?_
  refine sy_seq ?_
  refine sy_tx' [0, 1, 2, 3] rfl ?_
  refine spL rfl rfl (lh sc123 rfl rfl) rfl ?_
  refine spL rfl rfl (lh sc91 rfl rfl) rfl ?_
  refine clV rfl cal117 rfl rfl (c_right b hok ab cb bd m W aw cw hwl hwx _ _) ?_
  refine sp rfl (PE.assign rfl) rfl ?_
  refine sy_seq ?_
  refine sy_tx' [0, 1] rfl ?_
  refine sp rfl (PE.move rfl) rfl ?_
  refine sp rfl (PE.neq rfl rfl) rfl ?_
  refine sy_cond rfl (fun hc1 => ?_) (fun hc1 => ?_)
  try simp only [decide_eq_true_eq, decide_eq_false_iff_not, Bool.and_eq_true, Bool.or_eq_true, Bool.not_eq_true', Int.not_le, Int.not_lt] at hc1
  have hsv : shwE b (wls W) = (0, wlErr b (wls W)) := by unfold shwE; rw [decide_eq_true hck, cond_true, shw_err (by omega)]
  refine sy_seq ?_
  refine sy_tx' [0, 1, 2] rfl ?_
  refine sp rfl (PE.move rfl) rfl ?_
  refine sto rfl rfl rfl cn3 rfl rfl rfl rfl ?_
  refine sto rfl rfl rfl cn36 rfl rfl rfl rfl ?_
  refine sy_ret ?_
  exact sy_returnM [] (fun _ h => h) rfl (.cons (RV.cell rfl (lh sc3 rfl rfl)) (.cons (RV.cell rfl (lh sc36 rfl rfl)) .nil)) rfl ⟨by rw [hsv]; rfl, rfl, rfl⟩ (fun w h => St.sub (((((h.del b6).del m).del b5).del b4).del b3 |>.del b2))
  ·
   try simp only [decide_eq_true_eq, decide_eq_false_iff_not, Bool.and_eq_true, Bool.or_eq_true, Bool.not_eq_true', Int.not_le, Int.not_lt] at hc1
   have hmn := hok.many
   have hwe : wlErr b (wls W) = 0 := by omega
   have hpre := (wlErr_zero hwe).2
   have hwlz := (wlErr_zero hwe).1
   rw [wls_len] at hwlz
   have hwz : ∀ x ∈ W, x.l.length = b.bins.length ∧ (0 ≤ x.d ∧ x.d ≤ 20000) := fun x hx => by have := stErr_zero (hpre _ (wls_mem hx)); exact ⟨this.1, this.2.1⟩
   have hwb : ∀ x ∈ W, ∀ k < b.bins.length, badL b k (na x.l k) = false := fun x hx => (stErr_zero (hpre _ (wls_mem hx))).2.2
   have hws4 : ∀ x ∈ W, x.l.length = b.bins.length := fun x hx => (hwz x hx).1
   have hE : ∀ p, shwV b (wls W) = p → shwE b (wls W) = p := fun p hp => by unfold shwE; rw [decide_eq_true hck]; exact hp
   refine sy_addr (a := aw) (sz := 2) (rows := werows W) (by intro h0; have := congrArg List.length h0; rw [werows_len] at this; simp only [List.length_nil] at this; omega) (fun bw ow he => ?_)
   subst he
   refine sy_skip ?_
   refine sy_seq ?_
   refine sy_tx' [0, 1, 2, 3, 4] rfl ?_
   refine spL rfl rfl (lh sc91 rfl rfl) rfl ?_
   refine sp rfl (PE.lenSl isl91 rfl) rfl ?_
   refine mkS rfl ap156 zl127 rfl rfl (Nat.le_refl _) ⟨by omega, by omega⟩ rfl (fun b35 => ?_)
   refine alc rfl zl156 rfl (fun b9 => ?_)
   refine sto rfl rfl rfl cn156 rfl rfl rfl rfl ?_
   refine sy_seq ?_
   refine sy_seq ?_
   refine sy_tx' [0, 1, 2] rfl ?_
   refine spL rfl rfl (lh sc91 rfl rfl) rfl ?_
   refine sp rfl (PE.lenSl isl91 rfl) rfl ?_
   refine sp rfl (PE.move rfl) rfl ?_
   refine sy_block ?_
   refine Sy.heap (H' := (b9, cel 156 [.slice (some ⟨b35, 0, none⟩) W.length W.length]) :: (b35, cel 127 (wgap W 0)) :: (b6, cel 123 [.pointer (some ⟨bd, 0, none⟩)]) :: (m, mapO true []) :: (b5, cel 36 [.int .i64 0]) :: (b4, cel 3 [.int .i64 0]) :: (b3, cel 91 [.slice (some ⟨bw, ow, none⟩) W.length cw]) :: (b2, cel 25 (btl b (b.sl ab cb))) :: H) (fun w h => by
     have e : wgap W 0 = repl W.length [Value.int .i64 0, .int .i64 0, .int .i64 0, .int .i64 0] := by unfold wgap; rw [flat_repl]; rfl
     rw [e]; exact h) ?_
   refine sy_loop (ι := {i : Nat // i ≤ W.length}) (fun i => ⟨[(2, .pointer (some ⟨b2, 0, none⟩)), (3, .pointer (some ⟨b3, 0, none⟩)), (4, .pointer (some ⟨b4, 0, none⟩)), (5, .pointer (some ⟨b5, 0, none⟩)), (6, .pointer (some ⟨b6, 0, none⟩)), (9, .pointer (some ⟨b9, 0, none⟩)), (36, .slice (some ⟨bw, ow, none⟩) W.length cw), (37, .int .i64 W.length), (38, .int .i64 i.1)], (b9, cel 156 [.slice (some ⟨b35, 0, none⟩) W.length W.length]) :: (b35, cel 127 (wgap W i.1)) :: (b6, cel 123 [.pointer (some ⟨bd, 0, none⟩)]) :: (m, mapO true []) :: (b5, cel 36 [.int .i64 0]) :: (b4, cel 3 [.int .i64 0]) :: (b3, cel 91 [.slice (some ⟨bw, ow, none⟩) W.length cw]) :: (b2, cel 25 (btl b (b.sl ab cb))) :: H, RowsA (some ⟨bd, 0, none⟩) 18 [dcs b (b.sl ab cb) b.lasts b.most m] :: R⟩) (fun i => W.length - i.1) ⟨0, Nat.zero_le _⟩ ?_ (fun i => ?_)
   exact sy_at (by repeat' first | exact Sub.nil | apply Sub.cons | rfl | (simp [lk]; omega)) (fun _ h => h)
   ·
    obtain ⟨i, hi⟩ := i
    dsimp only at hi ⊢
    refine sy_seq ?_
    refine sy_tx' [0] rfl ?_
    refine sp rfl (PE.lss rfl rfl) rfl ?_
    refine sy_seq ?_
    refine sy_cond rfl (fun hc2 => ?_) (fun hc2 => ?_)
    try simp only [decide_eq_true_eq, decide_eq_false_iff_not, Bool.and_eq_true, Bool.or_eq_true, Bool.not_eq_true', Int.not_le, Int.not_lt] at hc2
    obtain ⟨x, hx⟩ : ∃ x, W[i]? = some x := ⟨_, List.getElem?_eq_getElem (by omega)⟩
    have hxm := List.mem_of_getElem? hx
    have hgl := wgap_len hmn.2 hws4 (i := i) hi
    have hxl := hws4 x hxm
    refine Sy.heap (fun w h => St.inwAt (x := x) h hxm) ?_
    refine sy_skip ?_
    refine sy_seq ?_
    refine sy_block ?_
    refine sy_seq ?_
    refine sy_tx' [0, 1, 2, 3, 4, 5] rfl ?_
    refine sp rfl (PE.move rfl) rfl ?_
    refine sp rfl (PE.indexAddr el91 rfl rfl (by omega) (by omega)) rfl ?_
    refine spL rfl rfl (lfA ag93 (row := werow x) (we_get hx) rfl) rfl ?_
    refine alc rfl zl93 rfl (fun b11 => ?_)
    refine sp rfl (PE.assign rfl) rfl ?_
    refine stoE (l' := werow x) rfl rfl rfl cn93 rfl rfl rfl rfl (Nat.le_of_ble_eq_true rfl) ?_
    refine sy_draw [0, 0, 3, 7, 0, 16, 63] (.ld 0 (.tk 1 (.tk 2 (.tk 3 (.tk 4 (.ld 5 (.big 6 .done))))))) mixed (by kernel_rfl) ?_
    refine ld rfl rfl (lh sc156 rfl rfl) rfl ?_
    refine tk rfl (PE.move rfl) rfl ?_
    refine tk rfl (PE.indexAddr el156 rfl rfl (by omega) (by omega)) rfl ?_
    refine tk rfl (PE.slArr ar127 rfl) rfl ?_
    refine tk rfl (PE.fieldAddr fo93_0 rfl) rfl ?_
    refine ld rfl rfl (lh sc40 rfl rfl) rfl ?_
    refine cpyRo (rows := irows x.l) rfl sl40 rfl (by rw [irows_len]; rfl) (irows_one x.l) (by rw [irows_len]; omega) (irows_ones _) (by rw [show (irows x.l).flatten = ints x.l from irows_flat x.l, ints_length, hgl]; show 0 + ((i : Nat) : Int).toNat * 4 + _ ≤ _; omega) rfl ?_
    rw [wgap_put hmn.2 hws4 hx (by show 0 + ((i : Nat) : Int).toNat * 4 = _; omega)]
    refine bg (fun w hs => ⟨trivial, trivial, trivial⟩) ?_
    refine sy_tx' [0, 1] rfl ?_
    refine sp rfl (PE.add rfl rfl (by omega)) rfl ?_
    refine sp rfl (PE.move rfl) rfl ?_
    exact sy_next ⟨i + 1, by omega⟩ (by dsimp only; omega) (by repeat' first | exact Sub.nil | apply Sub.cons | rfl | (simp [lk]; omega)) (fun w h => (h.del b11).ftail)
    ·
     try simp only [decide_eq_true_eq, decide_eq_false_iff_not, Bool.and_eq_true, Bool.or_eq_true, Bool.not_eq_true', Int.not_le, Int.not_lt] at hc2
     obtain rfl : i = W.length := by omega
     refine sy_exit ?_
     repeat refine sy_tx ?_
     refine sy_bx ?_
     refine sy_seq ?_
     refine sy_tx' [0, 1, 2] rfl ?_
     refine sp rfl (PE.makeFunc rfl rfl) rfl ?_
     refine alc rfl zl164 rfl (fun b12 => ?_)
     refine sto rfl rfl rfl cn164 rfl rfl rfl rfl ?_
     refine sy_seq ?_
     refine sy_seq ?_
     refine sy_tx' [0, 1, 2] rfl ?_
     refine spL rfl rfl (lh sc156 rfl rfl) rfl ?_
     refine sp rfl (PE.lenSl isl156 rfl) rfl ?_
     refine sp rfl (PE.move rfl) rfl ?_
     refine sy_block ?_
     refine Sy.heap (fun w h => St.blkRows (rows := strows (wpd W)) (junk := []) (st4 (wpd_four hmn.2 hws4)) (show St ((b35, cel 127 ((strows (wpd W)).flatten ++ [])) :: _) _ w from by
       have e : (strows (wpd W)).flatten ++ [] = wgap W W.length := by unfold wgap; rw [List.take_length, Nat.sub_self]; rfl
       rw [e]; exact h.pull b35)) ?_
     refine Sy.heap (fun w h => St.rows (sz := 1) (rows := [[.slice (some ⟨b35, 0, none⟩) W.length W.length]]) (rest := []) (h.pull b9) (by simp)) ?_
     refine Sy.heap (fun w h => St.rows (sz := 1) (rows := [[.pointer (some ⟨bd, 0, none⟩)]]) (rest := []) (h.pull b6) (by simp)) ?_
     refine Sy.heap (fun w h => St.rows (sz := 1) (rows := [[.slice (some ⟨bw, ow, none⟩) W.length cw]]) (rest := []) (h.pull b3) (by simp)) ?_
     refine sy_loopD (ι := {y : Nat × List Nat // y.1 ≤ W.length ∧ ∀ s ∈ (wls W).take y.1, wlSt b.dsk (wls W) s = true}) (fun y => ⟨[(2, .pointer (some ⟨b2, 0, none⟩)), (3, .pointer (some ⟨b3, 0, none⟩)), (4, .pointer (some ⟨b4, 0, none⟩)), (5, .pointer (some ⟨b5, 0, none⟩)), (6, .pointer (some ⟨b6, 0, none⟩)), (12, .pointer (some ⟨b12, 0, none⟩)), (52, .slice (some ⟨b35, 0, none⟩) W.length W.length), (53, .int .i64 W.length), (54, .int .i64 y.1.1)], mks y.1.2, (b12, cel 164 [.func (.func 118) #[] #[.pointer (some ⟨b9, 0, none⟩), .pointer (some ⟨b6, 0, none⟩), .pointer (some ⟨b3, 0, none⟩)]]) :: (m, mapO true []) :: (b5, cel 36 [.int .i64 0]) :: (b4, cel 3 [.int .i64 0]) :: (b2, cel 25 (btl b (b.sl ab cb))) :: (mkh y.1.2 ++ H), RowsA (some ⟨b35, 0, none⟩) 4 (strows (wpd W)) :: RowsA (some ⟨b9, 0, none⟩) 1 [[.slice (some ⟨b35, 0, none⟩) W.length W.length]] :: RowsA (some ⟨b6, 0, none⟩) 1 [[.pointer (some ⟨bd, 0, none⟩)]] :: RowsA (some ⟨b3, 0, none⟩) 1 [[.slice (some ⟨bw, ow, none⟩) W.length cw]] :: RowsA (some ⟨bd, 0, none⟩) 18 [dcs b (b.sl ab cb) b.lasts b.most m] :: R⟩) (fun y => W.length - y.1.1) ⟨(0, []), Nat.zero_le _, by simp⟩ ?_ (fun y => ?_)
     exact sy_atD (by repeat' first | exact Sub.nil | apply Sub.cons | rfl | (simp [lk]; omega)) rfl (fun w h => St.sub h)
     ·
      obtain ⟨⟨i, mk⟩, hi, hws⟩ := y
      dsimp only at hi hws ⊢
      refine sy_seq ?_
      refine sy_tx' [0] rfl ?_
      refine sp rfl (PE.lss rfl rfl) rfl ?_
      refine sy_seq ?_
      refine sy_cond rfl (fun hc3 => ?_) (fun hc3 => ?_)
      ·
       try simp only [decide_eq_true_eq, decide_eq_false_iff_not, Bool.and_eq_true, Bool.or_eq_true, Bool.not_eq_true', Int.not_le, Int.not_lt] at hc3
       obtain ⟨x, hx⟩ : ∃ x, W[i]? = some x := ⟨_, List.getElem?_eq_getElem (by omega)⟩
       have hxm := List.mem_of_getElem? hx
       obtain ⟨hxl, hxd⟩ := hwz x hxm
       have hpl : (pad x.l).length = 4 := pad_len' (by omega)
       have hsr : (strows (wpd W)).length = W.length := by rw [strows_len, wpd_len]
       refine sy_skip ?_
       refine sy_seq ?_
       refine sy_block ?_
       refine sy_seq ?_
       refine sy_tx' [0, 1, 2, 3, 4, 5, 6] rfl ?_
       refine sp rfl (PE.move rfl) rfl ?_
       refine sp rfl (PE.indexAddr el156 rfl rfl (by omega) (by omega)) rfl ?_
       refine spL rfl rfl (lfA ag127 (row := ints (pad x.l)) (strows_get (wpd_get hx)) (by rw [ints_length]; exact hpl)) rfl ?_
       refine alc rfl zl3 rfl (fun b13 => ?_)
       refine alc rfl zl127 rfl (fun b14 => ?_)
       refine sto rfl rfl rfl cn3 rfl rfl rfl rfl ?_
       refine stoA rfl rfl rfl cn127 rfl (by rw [ints_length]; exact hpl) rfl (ints_one _) ?_
       refine sy_seq ?_
       refine sy_tx' [0, 1] rfl ?_
       refine spL rfl rfl (lfB (sz := 1) sc123 rfl) rfl ?_
       refine cl rfl cal115 rfl rfl (c_turnings bd false _ _) ?_
       rintro _ _ _ ⟨xb, xf, rfl, rfl, rfl⟩
       refine sy_block ?_
       refine sy_range rfl cal133 (fun c0 bl0 bd0 hcp0 hca0 hcb0 hck0 => ?_)
       refine ⟨fun st pend T R' => (st = .ready ∧ pend = none ∧ wlSt b.dsk (wls W) (x.l, x.d) = true ∧ T = (bd0, .deferred (some [])) :: (b14, cel 127 (ints (pad x.l))) :: (b13, cel 3 [.int .i64 i]) :: (b12, cel 164 [.func (.func 118) #[] #[.pointer (some ⟨b9, 0, none⟩), .pointer (some ⟨b6, 0, none⟩), .pointer (some ⟨b3, 0, none⟩)]]) :: (m, mapO true []) :: (b5, cel 36 [.int .i64 0]) :: (b4, cel 3 [.int .i64 0]) :: (b2, cel 25 (btl b (b.sl ab cb))) :: (mkh mk ++ H) ∧ R' = RowsA (some ⟨xf, 0, none⟩) 1 [[.bool false]] :: RowsA (some ⟨xb, 0, none⟩) 1 [[.pointer (some ⟨bd, 0, none⟩)]] :: RowsA (some ⟨b35, 0, none⟩) 4 (strows (wpd W)) :: RowsA (some ⟨b9, 0, none⟩) 1 [[.slice (some ⟨b35, 0, none⟩) W.length W.length]] :: RowsA (some ⟨b6, 0, none⟩) 1 [[.pointer (some ⟨bd, 0, none⟩)]] :: RowsA (some ⟨b3, 0, none⟩) 1 [[.slice (some ⟨bw, ow, none⟩) W.length cw]] :: RowsA (some ⟨bd, 0, none⟩) 18 [dcs b (b.sl ab cb) b.lasts b.most m] :: R) ∨
           (st = .done ∧ pend = some .ret ∧ wlSt b.dsk (wls W) (x.l, x.d) = false ∧ T = (bd0, .deferred (some [])) :: (b14, cel 127 (ints (pad x.l))) :: (b13, cel 3 [.int .i64 i]) :: (b12, cel 164 [.func (.func 118) #[] #[.pointer (some ⟨b9, 0, none⟩), .pointer (some ⟨b6, 0, none⟩), .pointer (some ⟨b3, 0, none⟩)]]) :: (m, mapO true []) :: (b5, cel 36 [.int .i64 8]) :: (b4, cel 3 [.int .i64 0]) :: (b2, cel 25 (btl b (b.sl ab cb))) :: (mkh mk ++ H) ∧ R' = RowsA (some ⟨xf, 0, none⟩) 1 [[.bool false]] :: RowsA (some ⟨xb, 0, none⟩) 1 [[.pointer (some ⟨bd, 0, none⟩)]] :: RowsA (some ⟨b35, 0, none⟩) 4 (strows (wpd W)) :: RowsA (some ⟨b9, 0, none⟩) 1 [[.slice (some ⟨b35, 0, none⟩) W.length W.length]] :: RowsA (some ⟨b6, 0, none⟩) 1 [[.pointer (some ⟨bd, 0, none⟩)]] :: RowsA (some ⟨b3, 0, none⟩) 1 [[.slice (some ⟨bw, ow, none⟩) W.length cw]] :: RowsA (some ⟨bd, 0, none⟩) 18 [dcs b (b.sl ab cb) b.lasts b.most m] :: R),
         Fn.mono (c_turnings1 b hok ab cb bd m false xb xf bl0 (fun k H' R' => (∀ i l, i < k → (b.dsk.trs false)[i]? = some l → (fun l => !wlL b.dsk (wls W) (x.l, x.d) l) l = false) ∧ H' = (bl0, lob c0 .ready none) :: (bd0, .deferred (some [])) :: (b14, cel 127 (ints (pad x.l))) :: (b13, cel 3 [.int .i64 i]) :: (b12, cel 164 [.func (.func 118) #[] #[.pointer (some ⟨b9, 0, none⟩), .pointer (some ⟨b6, 0, none⟩), .pointer (some ⟨b3, 0, none⟩)]]) :: (m, mapO true []) :: (b5, cel 36 [.int .i64 0]) :: (b4, cel 3 [.int .i64 0]) :: (b2, cel 25 (btl b (b.sl ab cb))) :: (mkh mk ++ H) ∧ R' = RowsA (some ⟨xf, 0, none⟩) 1 [[.bool false]] :: RowsA (some ⟨xb, 0, none⟩) 1 [[.pointer (some ⟨bd, 0, none⟩)]] :: RowsA (some ⟨b35, 0, none⟩) 4 (strows (wpd W)) :: RowsA (some ⟨b9, 0, none⟩) 1 [[.slice (some ⟨b35, 0, none⟩) W.length W.length]] :: RowsA (some ⟨b6, 0, none⟩) 1 [[.pointer (some ⟨bd, 0, none⟩)]] :: RowsA (some ⟨b3, 0, none⟩) 1 [[.slice (some ⟨bw, ow, none⟩) W.length cw]] :: RowsA (some ⟨bd, 0, none⟩) 18 [dcs b (b.sl ab cb) b.lasts b.most m] :: R)
           (fun H' R' => wlSt b.dsk (wls W) (x.l, x.d) = false ∧ H' = (bl0, lob c0 .done (some .ret)) :: (bd0, .deferred (some [])) :: (b14, cel 127 (ints (pad x.l))) :: (b13, cel 3 [.int .i64 i]) :: (b12, cel 164 [.func (.func 118) #[] #[.pointer (some ⟨b9, 0, none⟩), .pointer (some ⟨b6, 0, none⟩), .pointer (some ⟨b3, 0, none⟩)]]) :: (m, mapO true []) :: (b5, cel 36 [.int .i64 8]) :: (b4, cel 3 [.int .i64 0]) :: (b2, cel 25 (btl b (b.sl ab cb))) :: (mkh mk ++ H) ∧ R' = RowsA (some ⟨xf, 0, none⟩) 1 [[.bool false]] :: RowsA (some ⟨xb, 0, none⟩) 1 [[.pointer (some ⟨bd, 0, none⟩)]] :: RowsA (some ⟨b35, 0, none⟩) 4 (strows (wpd W)) :: RowsA (some ⟨b9, 0, none⟩) 1 [[.slice (some ⟨b35, 0, none⟩) W.length W.length]] :: RowsA (some ⟨b6, 0, none⟩) 1 [[.pointer (some ⟨bd, 0, none⟩)]] :: RowsA (some ⟨b3, 0, none⟩) 1 [[.slice (some ⟨bw, ow, none⟩) W.length cw]] :: RowsA (some ⟨bd, 0, none⟩) 18 [dcs b (b.sl ab cb) b.lasts b.most m] :: R)
           (fun k H' R' h => by obtain ⟨_, _, rfl⟩ := h; exact ⟨by simp, by simp, by simp⟩) (fun k l a c H' R' hk hI => ?_) _ _ ⟨fun _ _ h => absurd h (Nat.not_lt_zero _), rfl, rfl⟩) (fun v H' R' h => ?_), ?_⟩
       rotate_left
       · rcases h with ⟨hn, rfl, rfl⟩ | ⟨hh, rfl, rfl⟩
         · exact ⟨.ready, none, _, by simp, .refl _, .inl ⟨rfl, rfl, by rw [wlSt_any, any_no hn]; rfl, rfl, rfl⟩⟩
         · exact ⟨.done, some .ret, _, by simp, .refl _, .inr ⟨rfl, rfl, hh, rfl, rfl⟩⟩
       rotate_left
       have hlm := List.mem_of_getElem? hk
       have hlt := b.dsk.trs_lt hlm
       have hll : l.length ≤ 1000000 := by
         obtain ⟨i, _, rfl⟩ := List.mem_map.1 (List.mem_filter.1 hlm).1
         have := bitl_len b.dsk.n i
         have := hdk.n
         omega
       obtain ⟨hno, rfl, rfl⟩ := hI
       have hsm : Sml (pad x.l) := ⟨hpl, fun j hj => by
         rw [pad_na]
         by_cases hjn : j < b.bins.length
         · have := badL_ok (hwb x hxm j hjn)
           by_cases h0 : b.worst (b.bins.getD j hb0) = 0
           · have := this.1 h0; omega
           · have := this.2 h0; omega
         · have h1 : na x.l j = 0 := by unfold na; rw [List.getD_eq_getElem?_getD, List.getElem?_eq_none (by omega)]; rfl
           omega⟩
       refine yd_of hcp0 hca0 hcb0 hck0 rfl ?_
       refine sy_tx' [0] rfl ?_
       refine sp rfl (PE.assign rfl) rfl ?_
       refine sy_beginRound ?_
       refine sy_block ?_
       refine sy_seq ?_
       refine sy_tx' [0, 1, 2, 3, 4, 5, 6, 7, 8, 9] rfl ?_
       refine spL rfl rfl (lfB (sz := 1) sc123 rfl) rfl ?_
       refine spL rfl rfl (lhA (rest := []) (ints (pad x.l)) ag127 rfl (by rw [List.append_nil]; rfl) (by rw [ints_length]; exact hpl)) rfl ?_
       refine sp rfl (PE.move rfl) rfl ?_
       refine cl rfl cal116 rfl rfl (c_next b hok ab cb bd m (pad x.l) hsm l hlt hll a c _ _) ?_
       rintro _ _ _ ⟨rfl, rfl, rfl⟩
       rcases hnx : b.dsk.next (pad x.l) l with _ | t
       refine sp rfl (PE.move rfl) rfl ?_
       refine sp rfl (PE.extract rfl rfl) rfl ?_
       refine sp rfl (PE.extract rfl rfl) rfl ?_
       refine alc rfl zl127 rfl (fun b16 => ?_)
       first | (refine stoA rfl rfl rfl cn127 rfl rfl rfl (ints_one _) ?_) | (refine stoA rfl rfl rfl cn127 rfl (by rw [ints_length]; exact htl) rfl (ints_one _) ?_)
       refine sp rfl (PE.assign rfl) rfl ?_
       refine sy_seq ?_
       refine sy_draw [0, 1, 3, 3, 15, 3, 3, 99, 227, 483, 1023, 2047] (.tk 0 (.tk 1 (.ld 2 (.ld 3 (.ld 5 (.ld 6 (.tk 7 (.tk 8 (.ld 9 (.big 4 (.tk 10 (.tk 11 .done)))))))))))) mixed (by kernel_rfl) ?_
       have hno2 : (fun l => !wlL b.dsk (wls W) (x.l, x.d) l) l = false := by dsimp only; unfold wlL; dsimp only; rw [hnx]; rfl
       refine tk rfl (PE.move rfl) rfl ?_
       refine tk rfl (PE.move rfl) rfl ?_
       repeat refine ldN rfl rfl rfl rfl rfl rfl rfl rfl ?_
       repeat refine tkN rfl rfl rfl rfl rfl rfl rfl rfl ?_
       refine ldN rfl rfl rfl rfl rfl rfl rfl rfl ?_
       refine spN rfl rfl rfl rfl rfl rfl rfl rfl ?_
       refine bg (fun w hs => ⟨((fun _ _ => True.intro)) w hs, ((fun _ _ => True.intro)) w hs, ((fun _ _ => True.intro)) w hs, trivial, trivial, trivial⟩) ?_
       refine tkN rfl rfl rfl rfl rfl rfl rfl rfl ?_
       refine tk rfl (PE.pick rfl rfl rfl) rfl ?_
       refine sy_condF rfl ?_
       refine sy_skip ?_
       exact sy_roundOn (.inl ⟨rfl, no_more hk hno hno2, rfl, rfl⟩) (fun _ h => (h.del b16).ftail)
       refine sp rfl (PE.move rfl) rfl ?_
       have htl : t.length = 4 := (b.dsk.next_sml hdk.lasts hdk.n.2 hsm hlt hnx).len
       have hwl1 : wlL b.dsk (wls W) (x.l, x.d) l = decide (shnV b.bins.length (wls W) t < x.d) := by unfold wlL; dsimp only; rw [hnx]; rfl
       refine sp rfl (PE.extract rfl rfl) rfl ?_
       refine sp rfl (PE.extract rfl rfl) rfl ?_
       refine alc rfl zl127 rfl (fun b16 => ?_)
       first | (refine stoA rfl rfl rfl cn127 rfl rfl rfl (ints_one _) ?_) | (refine stoA rfl rfl rfl cn127 rfl (by rw [ints_length]; exact htl) rfl (ints_one _) ?_)
       refine sp rfl (PE.assign rfl) rfl ?_
       refine sy_seq ?_
       refine sy_draw [0, 1, 3, 3, 15, 3, 3, 99, 227, 483, 1023, 2047] (.tk 0 (.tk 1 (.ld 2 (.ld 3 (.ld 5 (.ld 6 (.tk 7 (.tk 8 (.ld 9 (.big 4 (.tk 10 (.tk 11 .done)))))))))))) mixed (by kernel_rfl) ?_
       refine tk rfl (PE.move rfl) rfl ?_
       refine tk rfl (PE.move rfl) rfl ?_
       refine ldG rfl rfl rfl rfl rfl (lh sc164 rfl rfl) rfl ?_
       refine ldG rfl rfl rfl rfl rfl (lhA (rest := []) (ints t) ag127 rfl (by rw [List.append_nil]; rfl) (by rw [ints_length]; exact htl)) rfl ?_
       refine ldG rfl rfl rfl rfl rfl (lfB (sz := 1) sc91 rfl) rfl ?_
       refine ldG rfl rfl rfl rfl rfl (lh sc3 rfl rfl) rfl ?_
       refine tkG rfl rfl rfl rfl (PE.indexAddr el91 rfl rfl (by omega) (by omega)) rfl ?_
       refine tkG rfl rfl rfl rfl (PE.fieldAddr fo93_1 rfl) rfl ?_
       refine ldG rfl rfl rfl rfl rfl (lf (j := 1) (row := werow x) sc3 (we_get hx) rfl) rfl ?_
       refine clFVG rfl rfl rfl rfl rfl (cal118) rfl rfl (c_shows1 b hok ab cb bd m W (some ⟨bw, ow, none⟩) cw b35 b9 b6 b3 hwl hwz t htl _ _) ?_
       refine bg (fun w hs => ⟨(lf (j := 1) (row := werow x) sc3 (we_get hx) rfl) w hs, (lh sc3 rfl rfl) w hs, (lfB (sz := 1) sc91 rfl) w hs, trivial, trivial, trivial⟩) ?_
       refine tkG rfl rfl rfl rfl (PE.geq rfl rfl) rfl ?_
       refine tk rfl (PE.pick rfl rfl rfl) rfl ?_
       refine sy_cond rfl (fun hc4 => ?_) (fun hc4 => ?_)
       try simp only [decide_eq_true_eq, decide_eq_false_iff_not, Bool.and_eq_true, Bool.or_eq_true, Bool.not_eq_true', Int.not_le, Int.not_lt] at hc4
       have hbad : (fun l => !wlL b.dsk (wls W) (x.l, x.d) l) l = true := by dsimp only; rw [hwl1, decide_eq_false (by omega)]; rfl
       refine sy_seq ?_
       refine sy_tx' [0, 1] rfl ?_
       refine sto rfl rfl rfl cn3 rfl rfl rfl rfl ?_
       refine sto rfl rfl rfl cn36 rfl rfl rfl rfl ?_
       refine sy_ret ?_
       exact sy_roundRet (.inr ⟨rfl, by rw [wlSt_any, any_of hk hbad]; rfl, rfl, rfl⟩) (fun _ h => (h.del b16).ftail)
       try simp only [decide_eq_true_eq, decide_eq_false_iff_not, Bool.and_eq_true, Bool.or_eq_true, Bool.not_eq_true', Int.not_le, Int.not_lt] at hc4
       have hno2 : (fun l => !wlL b.dsk (wls W) (x.l, x.d) l) l = false := by dsimp only; rw [hwl1, decide_eq_true (by omega)]; rfl
       refine sy_skip ?_
       exact sy_roundOn (.inl ⟨rfl, no_more hk hno hno2, rfl, rfl⟩) (fun _ h => (h.del b16).ftail)
       rintro _ _ _ _ (⟨rfl, rfl, hh, rfl, rfl⟩ | ⟨rfl, rfl, hh, rfl, rfl⟩)
       refine sy_jn ?_
       refine sy_tx' [0, 1] rfl ?_
       refine sp rfl (PE.add rfl rfl (by omega)) rfl ?_
       refine sp rfl (PE.move rfl) rfl ?_
       exact sy_nextD ⟨(i + 1, bd0 :: mk), by dsimp only; omega, take_all (wls_get hx) hws hh⟩ (by dsimp only; omega) (by repeat' first | exact Sub.nil | apply Sub.cons | rfl | (simp [lk]; omega)) rfl (fun w h => St.sub (((h.del b14).del b13).perm (perm_swap3 [_] [_, _, _, _, _] _)))
       refine sy_jc ?_
       refine sy_ret ?_
       have hsv := hE _ (shw_no hwe (wls_mem hxm) hh)
       refine Sy.heap (H' := mkh (bd0 :: mk) ++ ((b5, cel 36 [.int .i64 8]) :: (b4, cel 3 [.int .i64 0]) :: H)) (R' := R) (fun w h => St.sub (((((((h.del b14).del b13).del b12).del m).del b2)).perm (List.Perm.cons _ (perm_swap3 [_, _] (mkh mk) H)))) ?_
       exact sy_returnM (bd0 :: mk) (fun _ h => h) rfl (.cons (RV.cell rfl (lh sc3 rfl rfl)) (.cons (RV.cell rfl (lh sc36 rfl rfl)) .nil)) rfl ⟨by rw [hsv]; rfl, rfl, rfl⟩ (fun w h => St.sub ((h.del b5).del b4))
      try simp only [decide_eq_true_eq, decide_eq_false_iff_not, Bool.and_eq_true, Bool.or_eq_true, Bool.not_eq_true', Int.not_le, Int.not_lt] at hc3
      obtain rfl : i = W.length := by omega
      rw [List.take_of_length_le (by rw [wls_len]; exact Nat.le_refl _)] at hws
      have hsml := (b.state_sml hok).len
      have hrr := shnV_rng hpre b.bins.length b.state
      refine sy_exit ?_
      repeat refine sy_tx ?_
      refine sy_bx ?_
      refine sy_seq ?_
      refine sy_draw [0, 0, 2, 7, 15] (.ld 0 (.ld 1 (.big 2 (.big 3 (.tk 4 .done))))) mixed (by kernel_rfl) ?_
      refine ld rfl rfl (lh sc164 rfl rfl) rfl ?_
      refine ld rfl rfl (lhA (btl b (b.sl ab cb)) ag25 rfl rfl rfl) rfl ?_
      refine clV rfl cal91 rfl rfl (c_state b ab cb hok _ _) ?_
      refine bg (fun w hs => ⟨trivial, (lh sc164 rfl rfl) w hs, trivial⟩) ?_
      refine clFV rfl rfl (cal118) rfl rfl (c_shows1 b hok ab cb bd m W (some ⟨bw, ow, none⟩) cw b35 b9 b6 b3 hwl hwz b.state hsml _ _) ?_
      refine bg (fun w hs => ⟨trivial, trivial⟩) ?_
      refine tk rfl (PE.assign rfl) rfl ?_
      refine sy_seq ?_
      refine sy_seq ?_
      refine sy_tx' [0, 1] rfl ?_
      refine sp rfl (PE.move rfl) rfl ?_
      refine sp rfl (PE.eql rfl rfl) rfl ?_
      refine sy_cond rfl (fun hc5 => ?_) (fun hc5 => ?_)
      try simp only [decide_eq_true_eq, decide_eq_false_iff_not, Bool.and_eq_true, Bool.or_eq_true, Bool.not_eq_true', Int.not_le, Int.not_lt] at hc5
      have hsv := hE _ (shw_none hwe (show shnV b.bins.length (wls W) b.state = 1000000 from hc5))
      refine sy_seq ?_
      refine sy_tx' [0, 1] rfl ?_
      refine sto rfl rfl rfl cn3 rfl rfl rfl rfl ?_
      refine sto rfl rfl rfl cn36 rfl rfl rfl rfl ?_
      refine sy_ret ?_
      first
        | (refine Sy.heap (H' := mkh mk ++ ((b5, cel 36 [.int .i64 8]) :: (b4, cel 3 [.int .i64 0]) :: H)) (R' := R) (fun w h => St.sub ((((h.del b12).del m).del b2).perm (perm_swap3 [_, _] (mkh mk) H))) ?_
           exact sy_returnM mk (fun _ h => h) rfl (.cons (RV.cell rfl (lh sc3 rfl rfl)) (.cons (RV.cell rfl (lh sc36 rfl rfl)) .nil)) rfl ⟨by rw [hsv]; rfl, rfl, rfl⟩ (fun w h => St.sub ((h.del b5).del b4)))
        | (refine Sy.heap (H' := mkh mk ++ ((b5, cel 36 [.int .i64 0]) :: (b4, cel 3 [.int .i64 (shnV b.bins.length (wls W) b.state)]) :: H)) (R' := R) (fun w h => St.sub ((((h.del b12).del m).del b2).perm (perm_swap3 [_, _] (mkh mk) H))) ?_
           exact sy_returnM mk (fun _ h => h) rfl (.cons (RV.cell rfl (lh sc3 rfl rfl)) (.cons (RV.cell rfl (lh sc36 rfl rfl)) .nil)) rfl ⟨by rw [hsv]; rfl, rfl, rfl⟩ (fun w h => St.sub ((h.del b5).del b4)))
      try simp only [decide_eq_true_eq, decide_eq_false_iff_not, Bool.and_eq_true, Bool.or_eq_true, Bool.not_eq_true', Int.not_le, Int.not_lt] at hc5
      have hsv := hE _ (shw_yes hwe hws (show shnV b.bins.length (wls W) b.state ≠ 1000000 from hc5))
      refine sy_skip ?_
      refine sy_seq ?_
      refine sy_tx' [0, 1, 2] rfl ?_
      refine sp rfl (PE.move rfl) rfl ?_
      refine sto rfl rfl rfl cn3 rfl rfl rfl rfl ?_
      refine sto rfl rfl rfl cn36 rfl rfl rfl rfl ?_
      refine sy_ret ?_
      first
        | (refine Sy.heap (H' := mkh mk ++ ((b5, cel 36 [.int .i64 8]) :: (b4, cel 3 [.int .i64 0]) :: H)) (R' := R) (fun w h => St.sub ((((h.del b12).del m).del b2).perm (perm_swap3 [_, _] (mkh mk) H))) ?_
           exact sy_returnM mk (fun _ h => h) rfl (.cons (RV.cell rfl (lh sc3 rfl rfl)) (.cons (RV.cell rfl (lh sc36 rfl rfl)) .nil)) rfl ⟨by rw [hsv]; rfl, rfl, rfl⟩ (fun w h => St.sub ((h.del b5).del b4)))
        | (refine Sy.heap (H' := mkh mk ++ ((b5, cel 36 [.int .i64 0]) :: (b4, cel 3 [.int .i64 (shnV b.bins.length (wls W) b.state)]) :: H)) (R' := R) (fun w h => St.sub ((((h.del b12).del m).del b2).perm (perm_swap3 [_, _] (mkh mk) H))) ?_
           exact sy_returnM mk (fun _ h => h) rfl (.cons (RV.cell rfl (lh sc3 rfl rfl)) (.cons (RV.cell rfl (lh sc36 rfl rfl)) .nil)) rfl ⟨by rw [hsv]; rfl, rfl, rfl⟩ (fun w h => St.sub ((h.del b5).del b4)))
end Go.Proofs.Ytelegnmfhjfbaaa
namespace Go.Proofs.Ytelegnmfhjfbaaa
set_option linter.unusedSimpArgs false
set_option linter.unusedVariables false
open Go
structure OQ (e sz : Nat) (rows : List (List Value)) where
  b : Nat
  off : Nat
  cap : Nat
  pre : List Value
  junk : List Value
  len : ∀ r ∈ rows, r.length = sz
  pl : pre.length = off
  room : cap * sz ≤ rows.length * sz + junk.length
  le : rows.length ≤ cap
  mx : cap ≤ 9223372036854775807
def OQ.fs {e sz : Nat} {rows : List (List Value)} (q : OQ e sz rows) : Value := .slice (some ⟨q.b, q.off, none⟩) rows.length q.cap
def OQ.G {e sz : Nat} {rows : List (List Value)} (q : OQ e sz rows) : Heap := [(q.b, cel e (q.pre ++ (rows.flatten ++ q.junk)))]
theorem spl_mid {a r j v : List Value} {o : Nat} (e : o = a.length + r.length) (h : v.length ≤ j.length) : spl (a ++ (r ++ j)) o v = a ++ ((r ++ v) ++ j.drop v.length) := by
  subst e
  unfold spl
  rw [← List.append_assoc a r j, show a.length + r.length = (a ++ r).length by simp, List.take_left, List.drop_append, List.drop_of_length_le (by omega), List.nil_append]
  simp [List.append_assoc]
theorem run_app_q {P : Program} {t ty e sz by_ : Nat} (ht : apT P t = some (e, sz, by_)) {rows news : List (List Value)} (q : OQ e sz rows) {T : Heap} {R : Facts} {w : World} (hs : St (q.G ++ T) R w)
    {ax : Option Addr} {c : Nat} (hr : RowsA ax sz news w) (h0 : news ≠ []) (h1 : onecells news = true) (hby : (rows.length + news.length) * by_ ≤ 140737488355328) (h63 : rows.length + news.length ≤ 9223372036854775807) :
    ∃ (q' : OQ e sz (rows ++ news)) (w' : World), (Builtin.append_ #[t, t] ty #[q.fs, .slice ax news.length c]).run P w = .ok q'.fs w' ∧ St (q'.G ++ T) R w' := by
  unfold apT at ht
  split at ht
  case h_2 => cases ht
  rename_i e' hu
  split at ht
  case h_2 => cases ht
  rename_i i hi
  split at ht
  case h_2 => cases ht
  rename_i z hz
  cases hzs : Nat.beq z.cells.size i.size with
  | false => rw [hzs] at ht; cases ht
  | true =>
  rw [hzs, cond_true] at ht
  cases ht
  have hzs := Nat.eq_of_beq_eq_true hzs
  have hnl := rows_len hr
  obtain ⟨b, off, cap, pre, junk, hl, hpl, hroom0, hle, hmx⟩ := q
  have hlen' : ∀ r ∈ rows ++ news, r.length = i.size := fun r h => by rcases List.mem_append.1 h with h | h; exact hl r h; exact hnl r h
  have hnf := flat_len hnl
  have hrf := flat_len hl
  obtain ⟨bx, offx, rfl⟩ := rows_addr hr h0
  have hcell : ∀ j v, news.flatten[j]? = some v → w.cell? ((⟨bx, offx, none⟩ : Addr).add j) = some v := fun j v h => by rw [addr_add]; exact rows_flat hr j v h
  have hn0 : 0 < news.length := List.length_pos_iff.2 h0
  have hb := hs.held (b, cel e (pre ++ (rows.flatten ++ junk))) (by simp [OQ.G])
  by_cases hroom : rows.length + news.length ≤ cap
  · have hm2 : (rows.length + news.length) * i.size ≤ cap * i.size := Nat.mul_le_mul_right _ hroom
    rw [Nat.add_mul] at hm2
    have hjl : news.flatten.length ≤ junk.length := by omega
    have hst := run_storeA (P := P) (e := e) (od := off + rows.length * i.size) (vs := news.flatten) (List.all_eq_true.2 (one_flat h1)) (by simp only [List.length_append, hrf, hpl]; omega) hb
    have hfc := run_firstCells_some (P := P) w i.size news.length ⟨bx, offx, none⟩ news.length c news.flatten hnf hcell
    have hsp : spl (pre ++ (rows.flatten ++ junk)) (off + rows.length * i.size) news.flatten = pre ++ ((rows ++ news).flatten ++ junk.drop news.flatten.length) := by
      rw [spl_mid (by rw [hpl, hrf]) hjl, List.flatten_append]
    rw [hsp] at hst
    refine ⟨⟨b, off, cap, pre, junk.drop news.flatten.length, hlen', hpl, by rw [List.length_append, List.length_drop, Nat.add_mul]; omega, by rw [List.length_append]; exact hroom, hmx⟩, { w with heap := w.heap.setIfInBounds b (cel e (pre ++ ((rows ++ news).flatten ++ junk.drop news.flatten.length))) }, ?_, St.set hs⟩
    have e0 : (⟨b, off, none⟩ : Addr).add (rows.length * i.size) = ⟨b, off + rows.length * i.size, none⟩ := by rw [addr_add]
    simp [OQ.fs, Builtin.append_, run_underlying hu, sizeOf, typeInfo, hi, Builtin.lenOf, hroom, hfc, e0, hst]
  · have holds : ∀ j v, rows.flatten[j]? = some v → w.cell? ((⟨b, off, none⟩ : Addr).add j) = some v := fun j v h => by
      have hlt : j < rows.flatten.length := (List.getElem?_eq_some_iff.1 h).1
      rw [addr_add, cell_of hb]
      simp only [List.getElem?_toArray]
      rw [List.getElem?_append_right (by omega), show off + j - pre.length = j by omega, List.getElem?_append_left hlt]; exact h
    have h2 := run_append_grow (P := P) w t ty e i z hu hi hz ⟨b, off, none⟩ rows.length cap rows.flatten hrf holds ⟨bx, offx, none⟩ news.length c news.flatten hnf hcell (by omega) (by omega) (growslice_fits (by omega) hby)
    have hge := grownCap_ge w (rows.length + news.length) cap e
    have hcm : grownCap w (rows.length + news.length) cap e ≤ maxLen := grownCap_le_maxLen w _ cap e (by simp only [maxLen]; omega)
    refine ⟨⟨w.heap.size, 0, grownCap w (rows.length + news.length) cap e, [], (Builtin.zeroCells z.cells (grownCap w (rows.length + news.length) cap e - (rows.length + news.length))).toList, hlen', rfl, ?_, by rw [List.length_append]; exact hge, by simp only [maxLen] at hcm; omega⟩, w.drew.alloc (.cells (rows.flatten.toArray ++ news.flatten.toArray ++ Builtin.zeroCells z.cells (grownCap w (rows.length + news.length) cap e - (rows.length + news.length))) e), ?_, ?_⟩
    · simp only [Array.length_toList, size_zeroCells, hzs, List.length_append, ← Nat.add_mul]
      exact Nat.mul_le_mul_right _ (by omega)
    · exact h2.trans (by simp only [OQ.fs, List.length_append])
    · have h3 := (St.tail hs).drew.alloc (.cells (rows.flatten.toArray ++ news.flatten.toArray ++ Builtin.zeroCells z.cells (grownCap w (rows.length + news.length) cap e - (rows.length + news.length))) e)
      rw [show w.drew.heap.size = w.heap.size from rfl] at h3
      have e1 : (cel e ([] ++ ((rows ++ news).flatten ++ (Builtin.zeroCells z.cells (grownCap w (rows.length + news.length) cap e - (rows.length + news.length))).toList))) = .cells (rows.flatten.toArray ++ news.flatten.toArray ++ Builtin.zeroCells z.cells (grownCap w (rows.length + news.length) cap e - (rows.length + news.length))) e := by
        unfold cel; congr 1; apply Array.toList_inj.1; simp
      show St ((_, _) :: T) R _
      rw [e1]; exact h3
section
variable {P : Program} {r : Option Nat} {ops : Array Oper} {n : Nat} {L : Slots} {D : List Deferred} {H : Heap} {R : Facts} {K : Act → World → Prop}
  {i d : Nat} {ty : TypeId} {pos : String} {af : Array Edge}
theorem apQ {t e sz by_ c k : Nat} {s x : Operand} {rows news : List (List Value)} (q : OQ e sz rows) {ax : Option Addr} {C : Heap → Heap}
    (ho : ops[i]? = some ⟨some d, .call { callee := .builtin .append, args := #[s, x], argTypes := #[t, t] }, ty, pos, af, none⟩) (ht : apT P t = some (e, sz, by_))
    (hs : ev L s = some q.fs) (hx : ev L x = some (.slice ax k c)) (hr : ∀ w, St H R w → RowsA ax sz news w) (hk : news.length = k) (h0 : news ≠ []) (h1 : onecells news = true)
    (hb : (rows.length + news.length) * by_ ≤ 140737488355328 ∧ rows.length + news.length ≤ 9223372036854775807) (hd : Nat.blt d n = true)
    [rp : RepF q.G H C]
    (h : ∀ q' : OQ e sz (rows ++ news), Sy n ((d, q'.fs) :: L) D (C q'.G) R K) : Sy n L D H R (stp P r ops i K) := fun a w ha hD hs0 => by
  subst hk
  obtain ⟨T, p1, p2⟩ := rp.rep
  obtain ⟨q', w', h2, h3⟩ := run_app_q ht q (hs0.perm p1) (hr w hs0) h0 h1 hb.1 hb.2
  refine stp_value ho (wanted_none _ rfl _) (v := q'.fs) (w' := w') ?_ (h q' _ _ (ha.put (by simpa using hd) _) hD (h3.perm (p2 _)))
  simp only [execOp, resolve, invoke, builtin, Sem.run_bind, Sem.run_pure, Result.andThen, List.map_toArray, List.map_cons, List.map_nil, ha.reads _ _ hs, ha.reads _ _ hx]
  rw [show (Builtin.append_ #[t, t] ty #[q.fs, .slice ax news.length c]).run P w = _ from h2]
end
def OQ.cast {e sz : Nat} {rows rows' : List (List Value)} (q : OQ e sz rows) (h : rows = rows') : OQ e sz rows' := h ▸ q
@[simp] theorem OQ.cast_fs {e sz : Nat} {rows rows' : List (List Value)} (q : OQ e sz rows) (h : rows = rows') : (q.cast h).fs = q.fs := by subst h; rfl
@[simp] theorem OQ.cast_G {e sz : Nat} {rows rows' : List (List Value)} (q : OQ e sz rows) (h : rows = rows') : (q.cast h).G = q.G := by subst h; rfl
theorem OQ.pop {e sz : Nat} {row : List Value} {rows : List (List Value)} (q : OQ e sz (row :: rows)) : ∃ q' : OQ e sz rows, q'.fs = .slice (if q.cap = 1 then some ⟨q.b, q.off, none⟩ else some ⟨q.b, q.off + 1 * sz, none⟩) rows.length (q.cap - 1) ∧ q'.G = q.G := by
  obtain ⟨b, off, cap, pre, junk, hl, hpl, hroom, hle, hmx⟩ := q
  have hrl := hl row (by simp)
  rw [List.length_cons] at hroom hle
  rw [Nat.add_mul] at hroom
  by_cases h1 : cap = 1
  · have hr0 : rows = [] := List.length_eq_zero_iff.1 (by omega)
    subst hr0
    refine ⟨⟨b, off, cap - 1, pre, row ++ junk, by simp, hpl, by rw [h1]; simp, by simp, by omega⟩, ?_, ?_⟩
    · unfold OQ.fs; dsimp only; rw [if_pos h1]
    · unfold OQ.G; simp
  · refine ⟨⟨b, off + 1 * sz, cap - 1, pre ++ row, junk, fun r hr => hl r (by simp [hr]), by rw [List.length_append, hpl, hrl]; omega, by rw [Nat.sub_mul]; omega, by omega, by omega⟩, ?_, ?_⟩
    · unfold OQ.fs; dsimp only; rw [if_neg h1]
    · unfold OQ.G; simp [List.append_assoc]
theorem OQ.one {e sz : Nat} (b : Nat) {row : List Value} (h : row.length = sz) : ∃ q : OQ e sz [row], q.fs = .slice (some ⟨b, 0, none⟩) 1 1 ∧ q.G = [(b, cel e row)] :=
  ⟨⟨b, 0, 1, [], [], by simp [h], rfl, by simp, by simp, by decide⟩, rfl, by unfold OQ.G; simp⟩
end Go.Proofs.Ytelegnmfhjfbaaa
