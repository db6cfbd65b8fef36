/- Walks of the functions of the program, and the laws that join them: what the last theorem of this claim needs, in order. -/
import Derived.Test.YtelegnmfhjfbaaaRd5
namespace Go.Proofs.Ytelegnmfhjfbaaa
set_option linter.unusedSimpArgs false
set_option linter.unusedVariables false
open Go
structure FewC (d : Dsk) (s : HSt) (n c : Nat) : Prop where
  is : ∃ t, d.pth n s t c
  le : ∀ t c', d.pth n s t c' → c ≤ c'
structure Fsp (es : List (HSt × List Int)) (m : MW) : Prop where
  mem : ∀ t w, mget m t = some w → (t, w) ∈ es
  has : ∀ t w, (t, w) ∈ es → ∃ w', mget m t = some w' ∧ na w' 5 ≤ na w 5
theorem Fsp.nil : Fsp [] [] := ⟨fun t w h => (by cases h), fun t w h => (by cases h)⟩
theorem Fsp.add {es : List (HSt × List Int)} {m : MW} {e : HSt × List Int} (h : Fsp es m) (hz : ∀ f ∈ es, f.2 ≠ zw) : Fsp (es ++ [e]) (updW m e) := by
  obtain ⟨k, v⟩ := e
  have key : (updW m (k, v) = mput m k v ∧ ∀ w, mget m k = some w → na v 5 < na w 5) ∨ (updW m (k, v) = m ∧ ∃ w, mget m k = some w ∧ na w 5 ≤ na v 5) := by
    unfold updW
    dsimp only
    cases hk : mget m k with
    | none => exact .inl ⟨by rw [Option.getD_none, decide_eq_true rfl]; rfl, fun w h => by cases h⟩
    | some w0 =>
      have h0 : w0 ≠ zw := hz _ (h.mem _ _ hk)
      rw [Option.getD_some, decide_eq_false h0, Bool.false_or]
      by_cases h1 : na v 5 < na w0 5
      · rw [decide_eq_true h1]; exact .inl ⟨rfl, fun w hw => by cases hw; exact h1⟩
      · rw [decide_eq_false h1]; exact .inr ⟨rfl, w0, rfl, by omega⟩
  rcases key with ⟨e1, h1⟩ | ⟨e1, w0, h1, h2⟩
  · rw [e1]
    refine ⟨fun t w hw => ?_, fun t w hw => ?_⟩
    · rw [mget_mput] at hw
      by_cases hkt : k = t
      · rw [decide_eq_true hkt] at hw; cases hw; subst hkt; simp
      · rw [decide_eq_false hkt] at hw; exact List.mem_append_left _ (h.mem _ _ hw)
    · rw [mget_mput]
      by_cases hkt : k = t
      · subst hkt
        rw [decide_eq_true rfl]
        refine ⟨v, rfl, ?_⟩
        rcases List.mem_append.1 hw with h3 | h3
        · obtain ⟨w', h4, h5⟩ := h.has _ _ h3
          have := h1 _ h4
          omega
        · cases List.mem_singleton.1 h3; exact Int.le_refl _
      · rw [decide_eq_false hkt]
        rcases List.mem_append.1 hw with h3 | h3
        · exact h.has _ _ h3
        · cases List.mem_singleton.1 h3; exact absurd rfl hkt
  · rw [e1]
    refine ⟨fun t w hw => List.mem_append_left _ (h.mem _ _ hw), fun t w hw => ?_⟩
    rcases List.mem_append.1 hw with h3 | h3
    · exact h.has _ _ h3
    · cases List.mem_singleton.1 h3; exact ⟨w0, h1, h2⟩
def Bsp (m : MW) (D : List HSt) : Option (HSt × Int) → Prop
  | none => ∀ s ∈ D, mget m s = none
  | some p => p.1 ∈ D ∧ ∃ w, mget m p.1 = some w ∧ p.2 = na w 5 ∧ ∀ s ∈ D, ∀ w', mget m s = some w' → p.2 ≤ na w' 5
theorem Bsp.add {m : MW} {D : List HSt} {acc : Option (HSt × Int)} (h : Bsp m D acc) (s : HSt) : Bsp m (D ++ [s]) (bestS m acc s) := by
  unfold bestS
  cases hs : mget m s with
  | none =>
    dsimp only
    cases acc with
    | none => intro t ht; rcases List.mem_append.1 ht with h1 | h1; exact h t h1; rw [List.mem_singleton.1 h1]; exact hs
    | some p =>
      obtain ⟨h1, w, h2, h3, h4⟩ := h
      refine ⟨List.mem_append_left _ h1, w, h2, h3, fun t ht w' hw' => ?_⟩
      rcases List.mem_append.1 ht with h5 | h5
      · exact h4 t h5 w' hw'
      · rw [List.mem_singleton.1 h5, hs] at hw'; cases hw'
  | some w =>
    dsimp only
    cases acc with
    | none =>
      refine ⟨by simp, w, hs, rfl, fun t ht w' hw' => ?_⟩
      rcases List.mem_append.1 ht with h5 | h5
      · rw [h t h5] at hw'; cases hw'
      · rw [List.mem_singleton.1 h5, hs] at hw'; cases hw'; exact Int.le_refl _
    | some p =>
      obtain ⟨q, n⟩ := p
      obtain ⟨h1, w0, h2, h3, h4⟩ := h
      dsimp only at h1 h2 h3 h4 ⊢
      by_cases hlt : na w 5 < n
      · rw [decide_eq_true hlt, cond_true]
        refine ⟨by simp, w, hs, rfl, fun t ht w' hw' => ?_⟩
        dsimp only
        rcases List.mem_append.1 ht with h5 | h5
        · have := h4 t h5 w' hw'; omega
        · rw [List.mem_singleton.1 h5, hs] at hw'; cases hw'; exact Int.le_refl _
      · rw [decide_eq_false hlt, cond_false]
        refine ⟨List.mem_append_left _ h1, w0, h2, h3, fun t ht w' hw' => ?_⟩
        dsimp only
        rcases List.mem_append.1 ht with h5 | h5
        · exact h4 t h5 w' hw'
        · rw [List.mem_singleton.1 h5, hs] at hw'; cases hw'; omega
def Dsk.run (d : Dsk) : HSt → List (List Nat) → Option HSt
  | s, [] => some s
  | s, l :: p => match d.next s l with
    | none => none
    | some t => d.run t p
def turnsN (p : List (List Nat)) : Nat := (p.map List.length).sum
theorem Dsk.run_app (d : Dsk) : ∀ (p q : List (List Nat)) (s : HSt), d.run s (p ++ q) = match d.run s p with
    | none => none
    | some t => d.run t q
  | [], q, s => rfl
  | l :: p, q, s => by
    have e1 : ∀ r, d.run s (l :: r) = match d.next s l with
      | none => none
      | some t => d.run t r := fun r => rfl
    rw [List.cons_append, e1, e1]
    cases d.next s l with
    | none => rfl
    | some t => exact run_app d p q t
theorem Dsk.run_one (d : Dsk) (s : HSt) (l : List Nat) : d.run s [l] = d.next s l := by
  unfold Dsk.run
  cases d.next s l <;> rfl
def Barn.stw (b : Barn) (ws : List Int) : HSt := pad ((List.range b.bins.length).map fun k => b.days (b.bins.getD k hb0) (na ws k))
theorem Barn.stw_at {b : Barn} {ws : List Int} {k : Nat} (hk : k < b.bins.length) : na (b.stw ws) k = b.days (b.bins.getD k hb0) (na ws k) := by
  unfold Barn.stw
  rw [pad_na]
  unfold na
  rw [List.getD_eq_getElem?_getD, List.getElem?_map, List.getElem?_range hk]; rfl
theorem Barn.stw_out {b : Barn} {ws : List Int} {k : Nat} (hk : b.bins.length ≤ k) : na (b.stw ws) k = 0 := by
  unfold Barn.stw
  rw [pad_na]
  unfold na
  rw [List.getD_eq_getElem?_getD, List.getElem?_eq_none (by simpa using hk)]; rfl
theorem Barn.stw_len {b : Barn} (hb : b.ok) (ws : List Int) : (b.stw ws).length = 4 := pad_len' (by simpa using hb.many.2)
theorem Barn.state_at {b : Barn} (hb : b.ok) {k : Nat} (hk : k < b.bins.length) : na b.state k = b.days (b.bins.getD k hb0) (b.bins.getD k hb0).warm := by
  obtain ⟨x, hx⟩ : ∃ x, b.bins[k]? = some x := ⟨_, List.getElem?_eq_getElem hk⟩
  rw [bin_getD hx]
  exact na_at (b.map_get hb _ hx)
theorem Barn.lasts_at {b : Barn} (hb : b.ok) {k : Nat} (hk : k < b.bins.length) : na b.lasts k = b.days (b.bins.getD k hb0) b.cool := by
  obtain ⟨x, hx⟩ : ∃ x, b.bins[k]? = some x := ⟨_, List.getElem?_eq_getElem hk⟩
  rw [bin_getD hx]
  exact na_at (b.map_get hb _ hx)
theorem Barn.warms_at {b : Barn} {k : Nat} (hk : k < b.bins.length) : na b.warms k = (b.bins.getD k hb0).warm := by
  obtain ⟨x, hx⟩ : ∃ x, b.bins[k]? = some x := ⟨_, List.getElem?_eq_getElem hk⟩
  rw [bin_getD hx]
  unfold na Barn.warms
  rw [List.getD_eq_getElem?_getD, List.getElem?_map, hx]; rfl
theorem Barn.stw_warms {b : Barn} (hb : b.ok) : b.stw b.warms = b.state := ext4 (b.stw_len hb _) (b.state_sml hb).len fun k _ => by
  rcases Nat.lt_or_ge k b.bins.length with h | h
  · rw [Barn.stw_at h, Barn.state_at hb h, Barn.warms_at h]
  · rw [Barn.stw_out h]
    unfold Barn.state
    rw [pad_na]
    unfold na
    rw [List.getD_eq_getElem?_getD, List.getElem?_eq_none (by simpa using h)]; rfl
theorem daysB_anti {r m w v : Int} (hr : 0 ≤ r) (h : w ≤ v) : daysB r m v ≤ daysB r m w := by
  unfold daysB
  by_cases h0 : r = 0
  · rw [decide_eq_true h0]; exact Int.le_refl _
  · rw [decide_eq_false h0, cond_false, cond_false]
    by_cases h1 : m < v
    · rw [decide_eq_true h1, cond_true]
      by_cases h2 : m < w
      · rw [decide_eq_true h2]; exact Int.le_refl _
      · rw [decide_eq_false h2, cond_false]; exact Int.ediv_nonneg (by omega) hr
    · rw [decide_eq_false h1, cond_false, decide_eq_false (by omega), cond_false]
      exact Int.ediv_le_ediv (by omega) (by omega)
theorem daysB_min {r m w c : Int} (hr : 0 ≤ r) : max (daysB r m w) (daysB r m c) = daysB r m (min w c) := by
  rcases Int.le_total w c with h | h
  · have := daysB_anti (m := m) hr h
    rw [Int.min_eq_left h]; omega
  · have := daysB_anti (m := m) hr h
    rw [Int.min_eq_right h]; omega
theorem daysB_hot {r m w : Int} (hr : 0 < r) (hw : w ≤ m) (h : m < w + r) : daysB r m w = 0 := by
  unfold daysB
  rw [decide_eq_false (by omega), cond_false, decide_eq_false (by omega), cond_false]
  exact Int.ediv_eq_zero_of_lt (by omega) (by omega)
theorem daysB_day {r m w : Int} (hr : 0 < r) (h : w + r ≤ m) : daysB r m (w + r) = daysB r m w - 1 ∧ 1 ≤ daysB r m w := by
  have e : daysB r m w = daysB r m (w + r) + 1 := by
    unfold daysB
    rw [decide_eq_false (by omega), cond_false, cond_false, decide_eq_false (by omega), cond_false, decide_eq_false (by omega), cond_false]
    rw [show m - w = (m - (w + r)) + 1 * r by omega, Int.add_mul_ediv_right _ _ (by omega)]
  have : 0 ≤ daysB r m (w + r) := by
    unfold daysB
    rw [decide_eq_false (by omega), cond_false, decide_eq_false (by omega), cond_false]
    exact Int.ediv_nonneg (by omega) (by omega)
  omega
theorem has_il (l : List Nat) (k : Nat) : hasI (il l) (k : Int) = decide (k ∈ l) := by
  rw [Bool.eq_iff_iff, decide_eq_true_eq]
  unfold hasI il
  rw [List.any_eq_true]
  constructor
  · rintro ⟨y, hy, he⟩
    obtain ⟨j, hj, rfl⟩ := List.mem_map.1 hy
    have := of_decide_eq_true he
    obtain rfl : k = j := by omega
    exact hj
  · intro h; exact ⟨(k : Int), List.mem_map.2 ⟨k, h, rfl⟩, decide_eq_true rfl⟩
theorem Barn.bin_at {b : Barn} (hb : b.ok) {k : Nat} (hk : k < b.bins.length) : b.bins.getD k hb0 ∈ b.bins := by
  rw [List.getD_eq_getElem?_getD, List.getElem?_eq_getElem hk]; exact List.getElem_mem hk
theorem Barn.mid_of {b : Barn} (hb : b.ok) {ws : List Int} (l : List Nat) {k : Nat} (hk : k < b.bins.length) : b.dsk.mid (b.stw ws) l k = b.days (b.bins.getD k hb0) (bif hasI (il l) k then min (na ws k) b.cool else na ws k) := by
  have hr := b.worst_range hb (Barn.bin_at hb hk)
  unfold Dsk.mid
  rw [has_il, Barn.stw_at hk, show na b.dsk.lasts k = _ from Barn.lasts_at hb hk]
  by_cases h : k ∈ l
  · rw [if_pos h, decide_eq_true h, cond_true]; exact daysB_min (by omega)
  · rw [if_neg h, decide_eq_false h, cond_false]
theorem Barn.run_day {b : Barn} (hb : b.ok) {ws : List Int} (hw : Cool b ws) {l : List Nat} (hl : ∀ k ∈ l, k < b.bins.length) :
    ((∀ k < b.bins.length, b.hotAt ws (il l) k = false) → b.dsk.next (b.stw ws) l = some (b.stw (b.dayW ws (il l)))) ∧ (∀ k < b.bins.length, b.hotAt ws (il l) k = true → b.dsk.next (b.stw ws) l = none) := by
  have hn := hb.many
  have key : ∀ k < b.bins.length, ∃ r m v, (r = 0 ∨ 6 ≤ r) ∧ v ≤ m ∧ m ≤ 60 ∧ 0 ≤ v ∧ b.dsk.mid (b.stw ws) l k = daysB r m v ∧ (b.hotAt ws (il l) k = decide (m < v + r)) ∧ na (b.stw (b.dayW ws (il l))) k = daysB r m (v + r) := fun k hk => by
    have hm := Barn.bin_at hb hk
    have hr := b.worst_range hb hm
    obtain ⟨x, hx⟩ : ∃ x, b.bins[k]? = some x := ⟨_, List.getElem?_eq_getElem hk⟩
    have hc := hw.at_ k x hx
    have hcl := hb.cool
    have hmk := (hb.bins x (List.mem_of_getElem? hx)).1
    have e1 := Barn.mid_of hb (ws := ws) l hk
    rw [bin_getD hx] at e1 hr
    refine ⟨b.worst x, x.mark, bif hasI (il l) k then min (na ws k) b.cool else na ws k, by omega, ?_, by omega, ?_, e1, ?_, ?_⟩
    · cases hasI (il l) k <;> simp only [cond_true, cond_false] <;> omega
    · cases hasI (il l) k <;> simp only [cond_true, cond_false] <;> omega
    · unfold Barn.hotAt; rw [bin_getD hx, b.wdAt_of hx]; rfl
    · rw [Barn.stw_at hk, na_at (b.dayW_at hk), b.wdAt_of hx, bin_getD hx]; rfl
  constructor
  · intro hcold
    obtain ⟨t, ht⟩ := b.dsk.next_some hn.2 (b.stw_len hb ws) hl (fun k hk => by
      obtain ⟨r, m, v, h1, h2, h3, h4, h5, h6, h7⟩ := key k hk
      rw [h5]
      rcases h1 with rfl | h1
      · exact .inl rfl
      · have h8 := hcold k hk
        rw [h6, decide_eq_false_iff_not] at h8
        exact .inr (daysB_day (by omega) (by omega)).2)
    rw [ht]
    congr 1
    obtain ⟨t1, t2⟩ := b.dsk.next_at hn.2 (b.stw_len hb ws) hl ht
    refine ext4 t1 (b.stw_len hb _) fun k _ => ?_
    rw [(t2 k).2]
    rcases Nat.lt_or_ge k b.bins.length with hk | hk
    · obtain ⟨r, m, v, h1, h2, h3, h4, h5, h6, h7⟩ := key k hk
      rw [h7, h5]
      rcases h1 with rfl | h1
      · rw [if_neg (by intro h; exact h.2 rfl)]; rfl
      · have h8 := hcold k hk
        rw [h6, decide_eq_false_iff_not] at h8
        have h9 := daysB_day (r := r) (m := m) (w := v) (by omega) (by omega)
        have h10 : daysB r m v ≤ 60 := by
          unfold daysB
          rw [decide_eq_false (by omega), cond_false, decide_eq_false (by omega), cond_false]
          exact Int.le_trans (Int.ediv_le_self _ (by omega)) (by omega)
        rw [if_pos ⟨hk, by omega⟩, h9.1]
    · rw [if_neg (by intro h; have : k < b.bins.length := h.1; omega), Barn.stw_out hk]
      unfold Dsk.mid
      rw [if_neg (fun h => by have := hl k h; omega), Barn.stw_out hk]
  · intro k hk hhot
    cases hnx : b.dsk.next (b.stw ws) l with
    | none => rfl
    | some t =>
      exfalso
      have h8 := ((b.dsk.next_at hn.2 (b.stw_len hb ws) hl hnx).2 k).1 hk
      obtain ⟨r, m, v, h1, h2, h3, h4, h5, h6, h7⟩ := key k hk
      rw [h6, decide_eq_true_eq] at hhot
      have h9 := daysB_hot (r := r) (m := m) (w := v) (by omega) h2 hhot
      rw [h5, h9] at h8
      omega
theorem Barn.run_burns {b : Barn} (hb : b.ok) : ∀ (p : List (List Nat)) (ws : List Int) (d0 : Nat), Cool b ws → (∀ l ∈ p, ∀ k ∈ l, k < b.bins.length) →
    (∃ ws', b.burnsF ws (p.map il) d0 = (none, ws') ∧ b.dsk.run (b.stw ws) p = some (b.stw ws') ∧ Cool b ws') ∨ (∃ q ws', b.burnsF ws (p.map il) d0 = (some q, ws') ∧ b.dsk.run (b.stw ws) p = none)
  | [], ws, d0, hc, _ => .inl ⟨ws, rfl, rfl, hc⟩
  | l :: p, ws, d0, hc, hl => by
    obtain ⟨r1, r2⟩ := Barn.run_day hb hc (hl l (by simp))
    rw [List.map_cons, b.burns_cons]
    cases hf : (List.range b.bins.length).find? (b.hotAt ws (il l)) with
    | some k =>
      rw [List.find?_range_eq_some] at hf
      refine .inr ⟨_, _, rfl, ?_⟩
      unfold Dsk.run
      rw [r2 k (List.mem_range.1 hf.2.1) hf.1]
    | none =>
      have hn : ∀ k < b.bins.length, b.hotAt ws (il l) k = false := fun k hk => by
        have := List.find?_eq_none.1 hf k (List.mem_range.2 hk)
        simpa using this
      dsimp only
      unfold Dsk.run
      rw [r1 hn]
      exact run_burns hb p _ (d0 + 1) (hc.next hb hn) (fun m hm => hl m (by simp [hm]))
theorem pair_sinc {l : List Int} (h : l.Pairwise (· < ·)) : sinc l = true := sinc_yes fun i x y hx hy => by
  obtain ⟨h1, e1⟩ := List.getElem?_eq_some_iff.1 hx
  obtain ⟨h2, e2⟩ := List.getElem?_eq_some_iff.1 hy
  have := List.pairwise_iff_getElem.1 h i (i + 1) h1 h2 (by omega)
  rw [e1, e2] at this; exact this
theorem il_bitl_pair (n u : Nat) : (il (bitl n u)).Pairwise (· < ·) := by
  unfold il bitl
  rw [List.pairwise_map]
  exact (List.Pairwise.filter _ List.pairwise_lt_range).imp fun h => by omega
theorem day_of_trs {d : Dsk} {l : List Nat} (h : l ∈ d.trs false) : dayErr d.n d.gangs (il l) = 0 := by
  obtain ⟨u, hu, rfl, h1, _⟩ := d.mem_trs.1 h
  unfold dayErr
  have e1 : ((il (bitl d.n u)).all fun k => inB k 0 ((d.n : Int) - 1)) = true := by
    rw [List.all_eq_true]
    intro y hy
    obtain ⟨k, hk, rfl⟩ := List.mem_map.1 hy
    have := bitl_lt hk
    simp [inB]; omega
  rw [e1, pair_sinc (il_bitl_pair _ _), il_len]
  unfold Dsk.g at h1
  rw [decide_eq_false (by omega)]; rfl
theorem days_of_trs {d : Dsk} : ∀ {p : List (List Nat)}, (∀ l ∈ p, l ∈ d.trs false) → daysErr d.n d.gangs (p.map il) = 0
  | [], _ => rfl
  | l :: p, h => by
    rw [List.map_cons]
    unfold daysErr
    rw [day_of_trs (h l (by simp))]
    exact days_of_trs fun m hm => h m (by simp [hm])
theorem plan_of_trs {d : Dsk} {p : List (List Nat)} (hl : p.length ≤ 20000) (h : ∀ l ∈ p, l ∈ d.trs false) : planErr d.n d.gangs (p.map il) = 0 := by
  unfold planErr
  rw [List.length_map, decide_eq_false (by omega)]
  exact days_of_trs h
theorem Dsk.trs_four {d : Dsk} (hd : d.ok) {l : List Nat} (h : l ∈ d.trs false) : l.length ≤ 4 := trs_len4 hd h
theorem Dsk.pth_le {d : Dsk} (hd : d.ok) : ∀ {n : Nat} {s t : HSt} {c : Nat}, d.pth n s t c → c ≤ 4 * n
  | 0, s, t, c, h => by obtain ⟨_, rfl⟩ := h; omega
  | n + 1, s, t, c, h => by
    obtain ⟨u, a, l, h1, h2, _, rfl⟩ := h
    have := pth_le hd h1
    have := d.trs_four hd h2
    omega
def Sxc (n : Nat) (g : Int) (la : List Int) (now : List (List Int)) (cs : List Int) (i u : Nat) (t : List Int) (x : Int) : Prop := ∃ j s v a, now[j]? = some s ∧ cs[j]? = some a ∧ (j < i ∨ (j = i ∧ v < u)) ∧ v < 2 ^ n ∧ rS n g la s v = some t ∧ x = a + ((bitl 4 v).length : Int)
theorem Sxc.sx {n : Nat} {g : Int} {la : List Int} {now : List (List Int)} {cs : List Int} {i u : Nat} {t : List Int} {x : Int} (h : Sxc n g la now cs i u t x) : Sx n g la now i u t := by
  obtain ⟨j, s, v, a, h1, _, h3, h4, h5, _⟩ := h
  exact ⟨j, s, v, h1, h3, h4, h5⟩
theorem Sxc.step {n : Nat} {g : Int} {la s t : List Int} {now : List (List Int)} {cs : List Int} {i u : Nat} {a x : Int} (hs : now[i]? = some s) (ha : cs[i]? = some a) (hu : u < 2 ^ n) : Sxc n g la now cs i (u + 1) t x ↔ Sxc n g la now cs i u t x ∨ (rS n g la s u = some t ∧ x = a + ((bitl 4 u).length : Int)) := by
  constructor
  · rintro ⟨j, s', v, a', h1, h2, h3, h4, h5, h6⟩
    rcases h3 with h3 | ⟨rfl, h3⟩
    · exact .inl ⟨j, s', v, a', h1, h2, .inl h3, h4, h5, h6⟩
    · rcases Nat.lt_or_ge v u with h7 | h7
      · exact .inl ⟨j, s', v, a', h1, h2, .inr ⟨rfl, h7⟩, h4, h5, h6⟩
      · obtain rfl : v = u := by omega
        rw [hs] at h1; cases h1; rw [ha] at h2; cases h2; exact .inr ⟨h5, h6⟩
  · rintro (⟨j, s', v, a', h1, h2, h3, h4, h5, h6⟩ | ⟨h5, h6⟩)
    · exact ⟨j, s', v, a', h1, h2, by omega, h4, h5, h6⟩
    · exact ⟨i, s, u, a, hs, ha, by omega, hu, h5, h6⟩
theorem Sxc.next {n : Nat} {g : Int} {la t : List Int} {now : List (List Int)} {cs : List Int} {i : Nat} {x : Int} : Sxc n g la now cs (i + 1) 0 t x ↔ Sxc n g la now cs i (2 ^ n) t x := by
  constructor
  · rintro ⟨j, s', v, a, h1, h2, h3, h4, h5⟩
    exact ⟨j, s', v, a, h1, h2, by omega, h4, h5⟩
  · rintro ⟨j, s', v, a, h1, h2, h3, h4, h5⟩
    exact ⟨j, s', v, a, h1, h2, by omega, h4, h5⟩
structure Bc (n : Nat) (g : Int) (la : List Int) (now : List (List Int)) (cs : List Int) (i u : Nat) (L : List (List Int)) (S : List Int) : Prop where
  bf : Bf n g la now i u L
  len : S.length = L.length
  val : ∀ (j : Nat) (t : List Int) (x : Int), L[j]? = some t → S[j]? = some x → Sxc n g la now cs i u t x ∧ ∀ y, Sxc n g la now cs i u t y → x ≤ y
theorem Bc.start {n : Nat} {g : Int} {la : List Int} {now : List (List Int)} {cs : List Int} : Bc n g la now cs 0 0 [] [] := ⟨Bf.start, rfl, fun j t x h => by simp at h⟩
theorem Bc.next {n : Nat} {g : Int} {la : List Int} {now : List (List Int)} {cs : List Int} {i : Nat} {L : List (List Int)} {S : List Int} (h : Bc n g la now cs i (2 ^ n) L S) : Bc n g la now cs (i + 1) 0 L S :=
  ⟨h.bf.next, h.len, fun j t x h1 h2 => by
    obtain ⟨h3, h4⟩ := h.val j t x h1 h2
    exact ⟨Sxc.next.2 h3, fun y hy => h4 y (Sxc.next.1 hy)⟩⟩
theorem Bc.skip {n : Nat} {g : Int} {la s : List Int} {now : List (List Int)} {cs : List Int} {i u : Nat} {L : List (List Int)} {S : List Int} {a : Int} (h : Bc n g la now cs i u L S) (hs : now[i]? = some s) (ha : cs[i]? = some a) (hu : u < 2 ^ n) (hn : rS n g la s u = none) : Bc n g la now cs i (u + 1) L S :=
  ⟨h.bf.skip hs hu (fun t ht => by rw [hn] at ht; cases ht), h.len, fun j t x h1 h2 => by
    obtain ⟨h3, h4⟩ := h.val j t x h1 h2
    refine ⟨(Sxc.step hs ha hu).2 (.inl h3), fun y hy => ?_⟩
    rcases (Sxc.step hs ha hu).1 hy with h5 | ⟨h5, _⟩
    · exact h4 y h5
    · rw [hn] at h5; cases h5⟩
theorem Bc.add {n : Nat} {g : Int} {la s t : List Int} {now : List (List Int)} {cs : List Int} {i u : Nat} {L : List (List Int)} {S : List Int} {a : Int} (h : Bc n g la now cs i u L S) (hs : now[i]? = some s) (ha : cs[i]? = some a) (hu : u < 2 ^ n) (ht : rS n g la s u = some t) (hn : t ∉ L) :
    Bc n g la now cs i (u + 1) (L ++ [t]) (S ++ [a + ((bitl 4 u).length : Int)]) where
  bf := h.bf.add hs hu ht hn
  len := by rw [List.length_append, List.length_append, h.len]; rfl
  val j t' x h1 h2 := by
    have hl := h.len
    rcases Nat.lt_or_ge j L.length with hj | hj
    · rw [List.getElem?_append_left hj] at h1
      rw [List.getElem?_append_left (by omega)] at h2
      obtain ⟨h3, h4⟩ := h.val j t' x h1 h2
      refine ⟨(Sxc.step hs ha hu).2 (.inl h3), fun y hy => ?_⟩
      rcases (Sxc.step hs ha hu).1 hy with h5 | ⟨h5, _⟩
      · exact h4 y h5
      · rw [ht] at h5; cases h5; exact absurd (List.mem_of_getElem? h1) hn
    · have hj2 := (List.getElem?_eq_some_iff.1 h1).1
      rw [List.length_append, List.length_singleton] at hj2
      obtain rfl : j = L.length := by omega
      rw [List.getElem?_append_right (Nat.le_refl _), Nat.sub_self] at h1
      rw [← hl, List.getElem?_append_right (Nat.le_refl _), Nat.sub_self] at h2
      cases h1; cases h2
      refine ⟨(Sxc.step hs ha hu).2 (.inr ⟨ht, rfl⟩), fun y hy => ?_⟩
      rcases (Sxc.step hs ha hu).1 hy with h5 | ⟨_, h5⟩
      · exact absurd ((h.bf.mem _).2 h5.sx) hn
      · rw [h5]; exact Int.le_refl _
theorem Bc.low {n : Nat} {g : Int} {la s t : List Int} {now : List (List Int)} {cs : List Int} {i u k : Nat} {L : List (List Int)} {S : List Int} {a x : Int} (h : Bc n g la now cs i u L S) (hs : now[i]? = some s) (ha : cs[i]? = some a) (hu : u < 2 ^ n) (ht : rS n g la s u = some t) (hk : L[k]? = some t) (hx : S[k]? = some x) :
    Bc n g la now cs i (u + 1) L (S.set k (min x (a + ((bitl 4 u).length : Int)))) where
  bf := h.bf.skip hs hu (fun t2 ht2 => by rw [ht] at ht2; cases ht2; exact List.mem_of_getElem? hk)
  len := by rw [List.length_set, h.len]
  val j t' y h1 h2 := by
    have hl := h.len
    have hkl := (List.getElem?_eq_some_iff.1 hk).1
    by_cases hj : k = j
    · subst hj
      rw [hk] at h1; cases h1
      rw [List.getElem?_set_self (by omega)] at h2; cases h2
      obtain ⟨h3, h4⟩ := h.val k t x hk hx
      refine ⟨(Sxc.step hs ha hu).2 ?_, fun y hy => ?_⟩
      · rcases Int.le_total x (a + ((bitl 4 u).length : Int)) with h5 | h5
        · rw [Int.min_eq_left h5]; exact .inl h3
        · rw [Int.min_eq_right h5]; exact .inr ⟨ht, rfl⟩
      · rcases (Sxc.step hs ha hu).1 hy with h5 | ⟨_, h5⟩
        · have := h4 y h5; omega
        · omega
    · rw [List.getElem?_set_ne hj] at h2
      obtain ⟨h3, h4⟩ := h.val j t' y h1 h2
      refine ⟨(Sxc.step hs ha hu).2 (.inl h3), fun z hz => ?_⟩
      rcases (Sxc.step hs ha hu).1 hz with h5 | ⟨h5, _⟩
      · exact h4 z h5
      · rw [ht] at h5; cases h5
        exact absurd ((List.getElem?_inj hkl h.bf.nd).1 (hk.trans h1.symm)) hj
structure Lvc (d : Dsk) (s0 : HSt) (day : Nat) (L : List (List Int)) (C : List Int) : Prop where
  lv : Lv d s0 day L
  len : C.length = L.length
  val : ∀ (j : Nat) (t : List Int) (x : Int), L[j]? = some t → C[j]? = some x → ∃ c : Nat, x = c ∧ d.pth day s0 (pad t) c ∧ ∀ c', d.pth day s0 (pad t) c' → c ≤ c'
theorem Lvc.start {d : Dsk} {s : List Int} (hs : s.length = d.n) : Lvc d (pad s) 0 [s] [0] := ⟨Lv.start hs, rfl, fun j t x h1 h2 => by
  cases j with
  | succ j => simp at h1
  | zero => cases h1; cases h2; exact ⟨0, rfl, ⟨rfl, rfl⟩, fun c' _ => Nat.zero_le _⟩⟩
theorem Lvc.next {d : Dsk} (hd : d.ok) {s0 : HSt} (h0 : d.inS s0) {la : List Int} (hla : ∀ k < d.n, na la k = na d.lasts k) {day : Nat} {now L : List (List Int)} {cs S : List Int} (h : Lvc d s0 day now cs) (hb : Bc d.n d.gangs la now cs now.length 0 L S) : Lvc d s0 (day + 1) L S where
  lv := h.lv.next hd h0 hla hb.bf
  len := hb.len
  val j t x h1 h2 := by
    have hn := hd.n
    have htl := hb.bf.len t (List.mem_of_getElem? h1)
    obtain ⟨⟨i, s, v, a, g1, g2, _, g4, g5, rfl⟩, h4⟩ := hb.val j t x h1 h2
    obtain ⟨ca, rfl, hp, _⟩ := h.val i s a g1 g2
    have hsl := h.lv.len s (List.mem_of_getElem? g1)
    obtain ⟨k1, k2⟩ := (rS_iff hd hla hsl htl g4).1 g5
    have e4 := ones_eq hn.2 g4
    refine ⟨ca + (bitl d.n v).length, by rw [e4]; push_cast; rfl, ⟨_, ca, _, hp, k1, k2, rfl⟩, fun c' hc' => ?_⟩
    obtain ⟨u, a', l, p1, p2, p3, rfl⟩ := hc'
    have hu := d.pth_inS hd h0 p1
    have eu := inS_pad hd hu
    have hul : (u.take d.n).length = d.n := by rw [List.length_take, hu.len]; omega
    have hmem : u.take d.n ∈ now := (h.lv.mem _ hul).2 ⟨a', by rw [eu]; exact p1⟩
    obtain ⟨i2, hi2⟩ := List.getElem?_of_mem hmem
    have hi2l := (List.getElem?_eq_some_iff.1 hi2).1
    obtain ⟨y, hy⟩ : ∃ y, cs[i2]? = some y := ⟨_, List.getElem?_eq_getElem (by rw [h.len]; exact hi2l)⟩
    obtain ⟨cy, rfl, _, hmin⟩ := h.val i2 _ y hi2 hy
    rw [eu] at hmin
    have := hmin a' p1
    obtain ⟨w, hw, rfl, _⟩ := d.mem_trs.1 p2
    have e5 := ones_eq hn.2 hw
    have := h4 _ ⟨i2, _, w, _, hi2, hy, .inl hi2l, hw, (rS_iff hd hla hul htl hw).2 ⟨p2, by rw [eu]; exact p3⟩, rfl⟩
    omega
theorem Lvc.few {d : Dsk} (hd : d.ok) {s0 : HSt} (h0 : d.inS s0) {day : Nat} {L : List (List Int)} {C : List Int} (h : Lvc d s0 day L C) {j : Nat} {x : Int} (hx : C[j]? = some x) (hm : ∀ (i : Nat) (y : Int), C[i]? = some y → x ≤ y) : ∃ c : Nat, x = c ∧ FewC d s0 day c := by
  have hj := (List.getElem?_eq_some_iff.1 hx).1
  have hl := h.len
  obtain ⟨t, ht⟩ : ∃ t, L[j]? = some t := ⟨_, List.getElem?_eq_getElem (by omega)⟩
  obtain ⟨c, rfl, hp, _⟩ := h.val j t x ht hx
  refine ⟨c, rfl, ⟨_, hp⟩, fun u c' hu => ?_⟩
  have hi := d.pth_inS hd h0 hu
  have eu := inS_pad hd hi
  have hn := hd.n
  have hmem : u.take d.n ∈ L := (h.lv.mem _ (by rw [List.length_take, hi.len]; omega)).2 ⟨c', by rw [eu]; exact hu⟩
  obtain ⟨i2, hi2⟩ := List.getElem?_of_mem hmem
  have hi2l := (List.getElem?_eq_some_iff.1 hi2).1
  obtain ⟨y, hy⟩ : ∃ y, C[i2]? = some y := ⟨_, List.getElem?_eq_getElem (by omega)⟩
  obtain ⟨cy, rfl, _, hmin⟩ := h.val i2 _ y hi2 hy
  rw [eu] at hmin
  have := hmin c' hu
  have := hm i2 _ hy
  omega
theorem Lvc.none {d : Dsk} (hd : d.ok) {s0 : HSt} (h0 : d.inS s0) {day : Nat} {L : List (List Int)} {C : List Int} (h : Lvc d s0 day L C) (hc : C = []) : ¬ ∃ t c, d.pth day s0 t c := by
  rintro ⟨u, c', hu⟩
  have hi := d.pth_inS hd h0 hu
  have eu := inS_pad hd hi
  have hn := hd.n
  have hmem : u.take d.n ∈ L := (h.lv.mem _ (by rw [List.length_take, hi.len]; omega)).2 ⟨c', by rw [eu]; exact hu⟩
  have hl := h.len
  rw [hc] at hl
  rw [List.length_eq_zero_iff.1 hl.symm] at hmem
  cases hmem
theorem Lvc.bd {d : Dsk} (hd : d.ok) {s0 : HSt} {day : Nat} {L : List (List Int)} {C : List Int} (h : Lvc d s0 day L C) {j : Nat} {x : Int} (hx : C[j]? = some x) : 0 ≤ x ∧ x ≤ 4 * (day : Int) := by
  have hj := (List.getElem?_eq_some_iff.1 hx).1
  have hl := h.len
  obtain ⟨t, ht⟩ : ∃ t, L[j]? = some t := ⟨_, List.getElem?_eq_getElem (by omega)⟩
  obtain ⟨c, rfl, hp, _⟩ := h.val j t x ht hx
  have := d.pth_le hd hp
  omega
theorem Bc.bd {n : Nat} {g : Int} {la : List Int} {now : List (List Int)} {cs : List Int} {i u : Nat} {L : List (List Int)} {S : List Int} {B : Int} (h : Bc n g la now cs i u L S) (hc : ∀ (j : Nat) (x : Int), cs[j]? = some x → 0 ≤ x ∧ x ≤ B) {j : Nat} {x : Int} (hx : S[j]? = some x) : 0 ≤ x ∧ x ≤ B + 4 := by
  have hj := (List.getElem?_eq_some_iff.1 hx).1
  have hl := h.len
  obtain ⟨t, ht⟩ : ∃ t, L[j]? = some t := ⟨_, List.getElem?_eq_getElem (by omega)⟩
  obtain ⟨⟨i, s, v, a, _, g2, _, _, _, rfl⟩, _⟩ := h.val j t x ht hx
  have := hc _ _ g2
  have := ones_le v
  omega
def RTurn (b : Barn) (n : Nat) (m : Int) : Prop := (m = -1 ∧ ¬ ∃ t c, b.dsk.pth n b.state t c) ∨ ∃ c : Nat, m = c ∧ FewC b.dsk b.state n c
def MinI (cs : List Int) (i : Nat) (m : Int) : Prop := (i = 0 ∧ m = -1) ∨ (0 < i ∧ 0 ≤ m ∧ (∃ j : Nat, cs[j]? = some m) ∧ ∀ (j : Nat) (x : Int), j < i → cs[j]? = some x → m ≤ x)
theorem MinI.take {cs : List Int} {i : Nat} {m x : Int} (h : MinI cs i m) (hx : cs[i]? = some x) (h0 : 0 ≤ x) (hc : m < 0 ∨ x < m) : MinI cs (i + 1) x := by
  refine .inr ⟨by omega, h0, ⟨i, hx⟩, fun j y hj hy => ?_⟩
  rcases Nat.lt_or_ge j i with h1 | h1
  · rcases h with ⟨rfl, _⟩ | ⟨_, h2, _, h3⟩
    · omega
    · have := h3 j y h1 hy; omega
  · obtain rfl : j = i := by omega
    rw [hx] at hy; cases hy; exact Int.le_refl _
theorem MinI.keep {cs : List Int} {i : Nat} {m x : Int} (h : MinI cs i m) (hx : cs[i]? = some x) (h0 : ¬ m < 0) (hc : ¬ x < m) : MinI cs (i + 1) m := by
  rcases h with ⟨_, rfl⟩ | ⟨h1, h2, h3, h4⟩
  · omega
  · refine .inr ⟨by omega, h2, h3, fun j y hj hy => ?_⟩
    rcases Nat.lt_or_ge j i with h5 | h5
    · exact h4 j y h5 hy
    · obtain rfl : j = i := by omega
      rw [hx] at hy; cases hy; omega
theorem MinI.done {b : Barn} (hok : b.ok) {n : Nat} {L : List (List Int)} {cs : List Int} (h : Lvc b.dsk b.state n L cs) {m : Int} (hm : MinI cs cs.length m) : RTurn b n m := by
  have hdk := b.dsk_ok hok
  have hst := b.state_inS hok
  rcases hm with ⟨h1, rfl⟩ | ⟨_, _, ⟨j, hj⟩, h4⟩
  · exact .inl ⟨rfl, h.none hdk hst (List.length_eq_zero_iff.1 h1)⟩
  · exact .inr (h.few hdk hst hj fun i y hy => h4 i y (List.getElem?_eq_some_iff.1 hy).1 hy)
end Go.Proofs.Ytelegnmfhjfbaaa
namespace Go.Proofs.Ytelegnmfhjfbaaa
set_option linter.unusedSimpArgs false
set_option linter.unusedVariables false
open Go
structure Les (d d' : Dsk) : Prop where
  n : d.n = d'.n
  g : d.gangs ≤ d'.gangs
  lasts : ∀ k < d.n, na d.lasts k ≤ na d'.lasts k
theorem Les.next {d d' : Dsk} (h : Les d d') (hd : d.ok) (hd' : d'.ok) {s s' t : HSt} (hs : d.inS s) (hs' : d'.inS s') (hle : ∀ k < d.n, na s k ≤ na s' k) {l : List Nat} (hl : ∀ k ∈ l, k < d.n) (e : d.next s l = some t) : ∃ t', d'.next s' l = some t' ∧ ∀ k < d.n, na t k ≤ na t' k := by
  have hn := h.n
  obtain ⟨_, h2⟩ := d.next_at hd.n.2 hs.len hl e
  have hl' : ∀ k ∈ l, k < d'.n := fun k hk => by have := hl k hk; omega
  have hm : ∀ k < d.n, d.mid s l k ≤ d'.mid s' l k := fun k hk => by
    have h4 := hle k hk
    have h5 := h.lasts k hk
    unfold Dsk.mid
    by_cases h3 : k ∈ l
    · rw [if_pos h3, if_pos h3]; omega
    · rw [if_neg h3, if_neg h3]; exact h4
  obtain ⟨t', ht'⟩ := d'.next_some hd'.n.2 hs'.len hl' (fun k hk => by
    have hk0 : k < d.n := by omega
    have := hm k hk0; have := (h2 k).1 hk0; have := d.inS_mid hd hs l hk0; have := d'.inS_mid hd' hs' l hk; have := (hd.ever k hk0).2.1; have := (hd'.ever k hk).2.1; omega)
  refine ⟨t', ht', fun k hk => ?_⟩
  have hk' : k < d'.n := by omega
  obtain ⟨_, h3⟩ := d'.next_at hd'.n.2 hs'.len hl' ht'
  have a1 := (h2 k).2; have a2 := (h3 k).2
  have := hm k hk
  have b1 := d.inS_mid hd hs l hk; have b2 := d'.inS_mid hd' hs' l hk'
  have := (hd.ever k hk).2.1; have := (hd'.ever k hk').2.1
  rw [a1, a2]
  split <;> split <;> omega
theorem Les.trs {d d' : Dsk} (h : Les d d') {l : List Nat} (hl : l ∈ d.trs false) : l ∈ d'.trs false := by
  obtain ⟨u, hu, rfl, h1, _⟩ := d.mem_trs.1 hl
  have hn := h.n; have hg := h.g
  refine d'.mem_trs.2 ⟨u, by rw [← hn]; exact hu, by rw [← hn], ?_, fun h => by cases h⟩
  unfold Dsk.g at h1 ⊢
  omega
theorem Les.pth {d d' : Dsk} (h : Les d d') (hd : d.ok) (hd' : d'.ok) {s s' : HSt} (hs : d.inS s) (hs' : d'.inS s') (hle : ∀ k < d.n, na s k ≤ na s' k) : ∀ {n : Nat} {t : HSt} {c : Nat}, d.pth n s t c → ∃ t', d'.pth n s' t' c ∧ ∀ k < d.n, na t k ≤ na t' k
  | 0, t, c, hp => by obtain ⟨rfl, rfl⟩ := hp; exact ⟨s', ⟨rfl, rfl⟩, hle⟩
  | n + 1, t, c, hp => by
    obtain ⟨u, a, l, h1, h2, h3, rfl⟩ := hp
    obtain ⟨u', i1, i2⟩ := Les.pth h hd hd' hs hs' hle h1
    obtain ⟨t', j1, j2⟩ := h.next hd hd' (d.pth_inS hd hs h1) (d'.pth_inS hd' hs' i1) i2 (d.trs_lt h2) h3
    exact ⟨t', ⟨u', a, l, i1, h.trs h2, j1, rfl⟩, j2⟩
theorem Les.run {d d' : Dsk} (h : Les d d') (hd : d.ok) (hd' : d'.ok) : ∀ {p : List (List Nat)} {s s' t : HSt}, d.inS s → d'.inS s' → (∀ k < d.n, na s k ≤ na s' k) → (∀ l ∈ p, l ∈ d.trs false) → d.run s p = some t → ∃ t', d'.run s' p = some t' ∧ ∀ k < d.n, na t k ≤ na t' k
  | [], s, s', t, _, _, hle, _, hr => by cases hr; exact ⟨s', rfl, hle⟩
  | l :: p, s, s', t, hs, hs', hle, hp, hr => by
    unfold Dsk.run at hr
    split at hr
    · cases hr
    · rename_i u hu
      obtain ⟨u', j1, j2⟩ := h.next hd hd' hs hs' hle (d.trs_lt (hp l (by simp))) hu
      have hlt := d'.trs_lt (h.trs (hp l (by simp)))
      obtain ⟨t', i1, i2⟩ := Les.run h hd hd' (d.next_inS hd hs (d.trs_lt (hp l (by simp))) hu) (d'.next_inS hd' hs' hlt j1) j2 (fun m hm => hp m (by simp [hm])) hr
      refine ⟨t', ?_, i2⟩
      unfold Dsk.run
      rw [j1]; exact i1
theorem Les.few {d d' : Dsk} (h : Les d d') (hd : d.ok) (hd' : d'.ok) {s s' : HSt} (hs : d.inS s) (hs' : d'.inS s') (hle : ∀ k < d.n, na s k ≤ na s' k) {n c c' : Nat} (hc : FewC d s n c) (hc' : FewC d' s' n c') : c' ≤ c := by
  obtain ⟨t, ht⟩ := hc.is
  obtain ⟨t', i, _⟩ := h.pth hd hd' hs hs' hle ht
  exact hc'.le _ _ i
structure PlnOk (b : Barn) (n c : Nat) (p : List (List Nat)) : Prop where
  few : FewC b.dsk b.state n c
  len : p.length = n
  trs : ∀ l ∈ p, l ∈ b.dsk.trs false
  run : ∃ t, b.dsk.run b.state p = some t
  sum : turnsN p = c
def lenS (p : List (List Int)) : Nat := (p.map List.length).sum
theorem lenS_il (p : List (List Nat)) : lenS (p.map il) = turnsN p := by
  unfold lenS turnsN
  rw [List.map_map]
  congr 1
  exact List.map_congr_left fun l _ => il_len l
theorem longP_of {p : List (List Int)} (h : p.length ≤ 24) (hl : ∀ l ∈ p, l.length ≤ 8) : longP p = false := by
  unfold longP
  rw [decide_eq_false (by omega), Bool.false_or, List.any_eq_false]
  intro l hm
  have := hl l hm
  simp; omega
structure PlnLaw (b : Barn) (n : Nat) (c : Int) (p : List (List Int)) : Prop where
  len : p.length = n
  long : longP p = false
  err : planErr b.bins.length b.gangs p = 0
  sum : (lenS p : Int) = c
  burn : brnQ b p = (0, 0, false)
  few : 0 ≤ c ∧ c ≤ 80
theorem PlnOk.law {b : Barn} (hok : b.ok) {n c : Nat} {p : List (List Nat)} (hn : n ≤ 20) (h : PlnOk b n c p) : PlnLaw b n c (p.map il) := by
  have hlt : ∀ l ∈ p, ∀ k ∈ l, k < b.bins.length := fun l hl => b.dsk.trs_lt (h.trs l hl)
  refine ⟨by rw [List.length_map]; exact h.len, longP_of (by rw [List.length_map, h.len]; omega) (fun l hl => ?_), plan_of_trs (d := b.dsk) (by rw [h.len]; omega) h.trs, by rw [lenS_il, h.sum], ?_, ?_⟩
  · obtain ⟨m, hm, rfl⟩ := List.mem_map.1 hl
    have := b.dsk.trs_four (b.dsk_ok hok) (h.trs m hm)
    rw [il_len]; omega
  · obtain ⟨t, ht⟩ := h.run
    rcases Barn.run_burns hok p b.warms 0 (Cool.start hok) hlt with ⟨ws, h1, _⟩ | ⟨x, ws, _, h4⟩
    · exact brn_none (by rw [h1])
    · rw [Barn.stw_warms hok, ht] at h4; cases h4
  · obtain ⟨t, ht⟩ := h.few.is
    have := b.dsk.pth_le (b.dsk_ok hok) ht
    omega
end Go.Proofs.Ytelegnmfhjfbaaa
namespace Go.Proofs.Ytelegnmfhjfbaaa
set_option linter.unusedSimpArgs false
set_option linter.unusedVariables false
open Go
theorem cal94 : cal Try.prog 94 = true := by kernel_rfl
theorem cal95 : cal Try.prog 95 = true := by kernel_rfl
theorem cn123 : cellN Try.prog 123 = some 1 := by kernel_rfl
theorem fo140_0 : fOff Try.prog 140 0 = some 0 := by kernel_rfl
theorem pl140 : placeL Try.prog 140 = some [(0, 1)] := by kernel_rfl
theorem sc138 : scal Try.prog 138 = true := by kernel_rfl
theorem zl123 : zeroL Try.prog 123 = some ([.pointer none]) := by kernel_rfl
theorem zl140 : zeroL Try.prog 140 = some ([.nilFunc]) := by kernel_rfl
theorem wst_shape2 {c r k : Int} (hr : 0 ≤ r) : ∀ (p : List (List Int)), (∀ w, wst c r k w p = w + r * (p.length : Int)) ∨ ∃ C, ∀ w, wst c r k w p = min (w + r * (p.length : Int)) C
  | [] => .inl fun w => by simp [wst]
  | l :: p => by
    have e : r * ((l :: p).length : Int) = r * (p.length : Int) + r := by rw [List.length_cons]; push_cast; rw [Int.mul_add, Int.mul_one]
    rw [e]
    have h0 : 0 ≤ r * (p.length : Int) := Int.mul_nonneg hr (by omega)
    generalize hM : r * (p.length : Int) = M at h0
    have h := wst_shape2 (c := c) (k := k) hr p
    rw [hM] at h
    cases hl : hasI l k with
    | false =>
      rcases h with h | ⟨C, h⟩
      · exact .inl fun w => by unfold wst; rw [hl, cond_false, h]; omega
      · exact .inr ⟨C, fun w => by unfold wst; rw [hl, cond_false, h]; omega⟩
    | true =>
      rcases h with h | ⟨C, h⟩
      · exact .inr ⟨c + (M + r), fun w => by unfold wst; rw [hl, cond_true, h]; omega⟩
      · exact .inr ⟨min (c + (M + r)) C, fun w => by unfold wst; rw [hl, cond_true, h]; omega⟩
theorem burns_cool {b : Barn} (hb : b.ok) : ∀ (p : List (List Int)) (ws us : List Int) (d : Nat), Cool b ws → b.burnsF ws p d = (none, us) → Cool b us
  | [], ws, us, d, hc, h => by cases h; exact hc
  | l :: p, ws, us, d, hc, h => by
    rw [b.burns_cons] at h
    cases hf : (List.range b.bins.length).find? (b.hotAt ws l) with
    | some k => rw [hf] at h; cases h
    | none =>
      rw [hf] at h
      have hn : ∀ k < b.bins.length, b.hotAt ws l k = false := fun k hk => by
        have := List.find?_eq_none.1 hf k (List.mem_range.2 hk)
        simpa using this
      exact burns_cool hb p _ us (d + 1) (hc.next hb hn) h
theorem seq_fix {x : Nat → Int} {M C : Int} (hM : M = 0 ∨ 6 ≤ M) (hb : ∀ n, n ≤ 12 → 0 ≤ x n ∧ x n ≤ 60) (hs : (∀ n, n < 12 → x (n + 1) = x n + M) ∨ (∀ n, n < 12 → x (n + 1) = min (x n + M) C)) : x 12 = x 11 := by
  rcases hM with rfl | hM
  · rcases hs with hs | hs
    · have h1 : x 12 = x 11 + 0 := hs 11 (by omega)
      omega
    · have h1 : x 12 = min (x 11 + 0) C := hs 11 (by omega)
      have h2 : x 11 = min (x 10 + 0) C := hs 10 (by omega)
      omega
  · rcases hs with hs | hs
    · exfalso
      have key : ∀ n : Nat, n ≤ 12 → 6 * (n : Int) ≤ x n := by
        intro n
        induction n with
        | zero => intro _; have := hb 0 (by omega); omega
        | succ n ih => intro hn; have := ih (by omega); have := hs n (by omega); push_cast; omega
      have := key 12 (by omega); have := hb 12 (by omega); omega
    · have key : ∀ n : Nat, n ≤ 11 → 6 * (n : Int) ≤ x n ∨ x n = C := by
        intro n
        induction n with
        | zero => intro _; have := hb 0 (by omega); omega
        | succ n ih =>
          intro hn
          have h1 := ih (by omega)
          have h2 := hs n (by omega)
          push_cast
          omega
      have h1 := key 11 (by omega); have h2 := hb 11 (by omega)
      have h3 : x 12 = min (x 11 + M) C := hs 11 (by omega)
      omega
theorem goes_few {b : Barn} (hb : b.ok) {p q : List (List Int)} (hq : q ≠ []) (h : ∀ n, n ≤ 12 → (b.burnsF b.warms (p ++ rep n q) 0).1 = none) : b.goes p q := by
  let W : Nat → List Int := fun n => (b.burnsF b.warms (p ++ rep n q) 0).2
  have hW : ∀ n, n ≤ 12 → b.burnsF b.warms (p ++ rep n q) 0 = (none, W n) := fun n hn => by rw [← h n hn]
  have hC : ∀ n, n ≤ 12 → Cool b (W n) := fun n hn => burns_cool hb _ _ _ _ (Cool.start hb) (hW n hn)
  have hS : ∀ n, n < 12 → b.burnsF (W n) q 0 = (none, W (n + 1)) := fun n hn => by
    have h1 := hW (n + 1) (by omega)
    rw [rep_succ, ← List.append_assoc, b.burns_app, hW n (by omega)] at h1
    exact burns_none h1
  have e : W 12 = W 11 := by
    refine List.ext_getElem? fun k => ?_
    rcases Nat.lt_or_ge k b.bins.length with hk | hk
    · rw [na_get (l := W 12) (k := k) (by rw [(hC 12 (by omega)).len]; exact hk), na_get (l := W 11) (k := k) (by rw [(hC 11 (by omega)).len]; exact hk)]
      congr 1
      obtain ⟨x, hx⟩ : ∃ x, b.bins[k]? = some x := ⟨_, List.getElem?_eq_getElem hk⟩
      have hm := List.mem_of_getElem? hx
      have hr := b.worst_range hb hm
      have hmk := (hb.bins x hm).1
      have hat : ∀ n, n < 12 → na (W (n + 1)) k = wst b.cool (b.worst x) k (na (W n) k) q := fun n hn => by
        have := b.burns_at q (W n) (W (n + 1)) 0 (hS n hn) k hk (hC n (by omega)).len
        rw [bin_getD hx] at this
        exact this
      have hlq : 1 ≤ q.length := by
        cases q with
        | nil => exact absurd rfl hq
        | cons _ _ => simp
      have hM : b.worst x * (q.length : Int) = 0 ∨ 6 ≤ b.worst x * (q.length : Int) := by
        rcases (show b.worst x = 0 ∨ 6 ≤ b.worst x by omega) with h0 | h0
        · rw [h0]; simp
        · have := Int.mul_le_mul h0 (show (1 : Int) ≤ (q.length : Int) by omega) (by omega) (by omega)
          omega
      rcases wst_shape2 (c := b.cool) (k := (k : Int)) (r := b.worst x) (by omega) q with hs | ⟨C, hs⟩
      · exact seq_fix (x := fun n => na (W n) k) (C := 0) hM (fun n hn => by have := (hC n hn).at_ k x hx; omega) (.inl fun n hn => by show na (W (n + 1)) k = _; rw [hat n hn, hs])
      · exact seq_fix (x := fun n => na (W n) k) (C := C) hM (fun n hn => by have := (hC n hn).at_ k x hx; omega) (.inr fun n hn => by show na (W (n + 1)) k = _; rw [hat n hn, hs])
    · rw [List.getElem?_eq_none (by rw [(hC 12 (by omega)).len]; exact hk), List.getElem?_eq_none (by rw [(hC 11 (by omega)).len]; exact hk)]
  exact goes_yes (i := 11) (hW 11 (by omega)) (by have := hS 11 (by omega); rw [e] at this; exact this)
structure RndOk (b : Barn) (p q : List (List Nat)) : Prop where
  hp : ∀ l ∈ p, l ∈ b.dsk.trs true
  hq : ∀ l ∈ q, l ∈ b.dsk.trs true
  ne : q ≠ []
  len : p.length + q.length ≤ 14641
  run : ∃ u, b.dsk.run b.state p = some u ∧ b.dsk.run u q = some u
theorem Dsk.run_rep {d : Dsk} {u : HSt} {q : List (List Nat)} (h : d.run u q = some u) : ∀ n, d.run u (List.replicate n q).flatten = some u
  | 0 => rfl
  | n + 1 => by
    rw [List.replicate_succ, List.flatten_cons, d.run_app, h]
    exact run_rep h n
theorem RndOk.goes {b : Barn} (hb : b.ok) {p q : List (List Nat)} (h : RndOk b p q) : b.goes (p.map il) (q.map il) := fun n => by
  obtain ⟨u, h1, h2⟩ := h.run
  have e : p.map il ++ rep n (q.map il) = (p ++ (List.replicate n q).flatten).map il := by
    unfold rep
    rw [List.map_append, List.map_flatten, List.map_replicate]
  rw [e]
  have hr : b.dsk.run (b.stw b.warms) (p ++ (List.replicate n q).flatten) = some u := by
    rw [Barn.stw_warms hb, b.dsk.run_app, h1]
    exact Dsk.run_rep h2 n
  rcases Barn.run_burns hb (p ++ (List.replicate n q).flatten) b.warms 0 (Cool.start hb) (fun l hl k hk => by
    rcases List.mem_append.1 hl with hl | hl
    · exact b.dsk.trs_lt (h.hp l hl) k hk
    · obtain ⟨r, hr, hl⟩ := List.mem_flatten.1 hl
      rw [(List.mem_replicate.1 hr).2] at hl
      exact b.dsk.trs_lt (h.hq l hl) k hk) with ⟨ws, h3, _⟩ | ⟨x, ws, _, h4⟩
  · rw [h3]
  · rw [hr] at h4; cases h4
structure Met (d : Dsk) (s0 : HSt) (S : List HSt) (p : List (List Nat)) (s : HSt) : Prop where
  len : S.length = p.length
  nd : S.Nodup
  trs : ∀ l ∈ p, l ∈ d.trs true
  at_ : ∀ j t, S[j]? = some t → d.run s0 (p.take j) = some t ∧ d.inS t
  run : d.run s0 p = some s
  inS : d.inS s
  ever : ∀ m, s ∈ d.alive m
theorem Met.start {d : Dsk} {s : HSt} (h : d.inS s) (he : ∀ m, s ∈ d.alive m) : Met d s [] [] s := ⟨rfl, List.nodup_nil, by simp, by simp, rfl, h, he⟩
theorem Met.few {d : Dsk} (hd : d.ok) {s0 s : HSt} {S : List HSt} {p : List (List Nat)} (h : Met d s0 S p s) : S.length ≤ d.nst := by
  have := nodup_len h.nd (m := d.sts) fun t ht => by
    obtain ⟨j, hj⟩ := List.getElem?_of_mem ht
    exact (d.mem_sts hd t).2 (h.at_ j t hj).2
  rw [d.sts_len] at this
  exact this
theorem Met.next {d : Dsk} (hd : d.ok) {s0 s t : HSt} {S : List HSt} {p : List (List Nat)} (h : Met d s0 S p s) (hs : s ∉ S) {l : List Nat} (hl : l ∈ d.trs true) (hn : d.next s l = some t) (he : ∀ m, t ∈ d.alive m) : Met d s0 (S ++ [s]) (p ++ [l]) t where
  len := by rw [List.length_append, List.length_append, h.len]; rfl
  nd := List.nodup_append.2 ⟨h.nd, by simp, fun x hx y hy e => hs (by rw [← List.mem_singleton.1 hy, ← e]; exact hx)⟩
  trs m hm := by
    rcases List.mem_append.1 hm with hm | hm
    · exact h.trs m hm
    · rw [List.mem_singleton.1 hm]; exact hl
  at_ j u hu := by
    have hlen := h.len
    rcases Nat.lt_or_ge j S.length with hj | hj
    · rw [List.getElem?_append_left hj] at hu
      rw [List.take_append_of_le_length (by omega)]
      exact h.at_ j u hu
    · have hj2 := (List.getElem?_eq_some_iff.1 hu).1
      rw [List.length_append, List.length_singleton] at hj2
      obtain rfl : j = S.length := by omega
      rw [List.getElem?_append_right (Nat.le_refl _), Nat.sub_self] at hu
      cases hu
      rw [hlen, List.take_left]
      exact ⟨h.run, h.inS⟩
  run := by rw [d.run_app, h.run]; dsimp only; rw [d.run_one]; exact hn
  inS := d.next_inS hd h.inS (d.trs_lt hl) hn
  ever := he
theorem ever_next {d : Dsk} (hd : d.ok) {s : HSt} (h : ∀ m, s ∈ d.alive m) : ∃ l ∈ d.trs true, ∃ t, d.next s l = some t ∧ ∀ m, t ∈ d.alive m := by
  obtain ⟨l, hl, t, ht, hm⟩ := d.helped_iff.1 (d.alive_succ.1 (h (d.nst + 1))).2
  exact ⟨l, hl, t, ht, d.alive_ever (Nat.le_refl _) hm⟩
theorem Met.done {b : Barn} (hok : b.ok) {s : HSt} {S : List HSt} {p : List (List Nat)} (h : Met b.dsk b.state S p s) {j : Nat} (hj : S[j]? = some s) : RndOk b (p.take j) (p.drop j) := by
  have hjl := (List.getElem?_eq_some_iff.1 hj).1
  have hlen := h.len
  have hf := h.few (b.dsk_ok hok)
  have hn := (b.dsk.nst_le (b.dsk_ok hok)).2
  refine ⟨fun l hl => h.trs l (List.mem_of_mem_take hl), fun l hl => h.trs l (List.mem_of_mem_drop hl), fun e => ?_, ?_, s, (h.at_ j s hj).1, ?_⟩
  · have := congrArg List.length e
    rw [List.length_drop, List.length_nil] at this; omega
  · rw [List.length_take, List.length_drop]; omega
  · have h1 := h.run
    rw [← List.take_append_drop j p, b.dsk.run_app, (h.at_ j s hj).1] at h1
    exact h1
def KpF (m : Nat) (kv : KV) (w : World) : Prop := w.heap[m]? = some (mapO true kv)
theorem St.kpf {m : Nat} {kv : KV} {H : Heap} {R : Facts} {w : World} (h : St ((m, mapO true kv) :: H) R w) : St H (KpF m kv :: R) w := St.freeze h
theorem ever_of {d : Dsk} {n : Nat} {s : HSt} (hs : s ∈ d.sts) (hn : n ≤ 14641) (hf : d.alive (n + 1) = d.alive n) (h : d.lvl n s = 1000000) : ∀ m, s ∈ d.alive m := by
  rcases kpt_of hs hn hf with ⟨_, h1⟩ | ⟨j, hj, h1, _⟩
  · exact h1
  · omega
theorem lvl_ever {d : Dsk} {n : Nat} {s : HSt} (hs : s ∈ d.sts) (hn : n ≤ 14641) (hf : d.alive (n + 1) = d.alive n) (h : ∀ m, s ∈ d.alive m) : d.lvl n s = 1000000 := kpt_unique (kpt_of hs hn hf) (.inl ⟨rfl, h⟩)
def Dsk.goodL (d : Dsk) (n : Nat) (s : HSt) (l : List Nat) : Bool := match d.next s l with
  | some t => decide (d.lvl n t = 1000000)
  | none => false
theorem good_any {d : Dsk} (hd : d.ok) {n : Nat} {s : HSt} (hs : d.inS s) (hn : n ≤ 14641) (hf : d.alive (n + 1) = d.alive n) (h : ∀ m, s ∈ d.alive m) : (d.trs true).any (d.goodL n s) = true := by
  obtain ⟨l, hl, t, ht, he⟩ := ever_next hd h
  refine List.any_eq_true.2 ⟨l, hl, ?_⟩
  unfold Dsk.goodL
  rw [ht]
  exact decide_eq_true (lvl_ever ((d.mem_sts hd t).2 (d.next_inS hd hs (d.trs_lt hl) ht)) hn hf he)
def kvI : Nat → List HSt → KV
  | _, [] => []
  | i, s :: l => (s, .int .i64 (i : Int)) :: kvI (i + 1) l
theorem kvI_len : ∀ {l : List HSt} {i : Nat}, (∀ s ∈ l, s.length = 4) → ∀ e ∈ kvI i l, e.1.length = 4
  | [], _, _, e, he => by cases he
  | s :: l, i, h, e, he => by
    rcases List.mem_cons.1 he with rfl | he
    · exact h s (by simp)
    · exact kvI_len (fun t ht => h t (by simp [ht])) e he
theorem kvI_put : ∀ {l : List HSt} {i : Nat} {s : HSt}, s ∉ l → (kvI i l).put s (.int .i64 ((i + l.length : Nat) : Int)) = kvI i (l ++ [s])
  | [], i, s, _ => rfl
  | t :: l, i, s, h => by
    have hne : ¬ t = s := fun e => h (by simp [e])
    have ih := kvI_put (l := l) (i := i + 1) (s := s) (fun hm => h (by simp [hm]))
    show KV.put ((t, Value.int .i64 (i : Int)) :: kvI (i + 1) l) s _ = (t, Value.int .i64 (i : Int)) :: kvI (i + 1) (l ++ [s])
    unfold KV.put
    rw [decide_eq_false hne, cond_false, List.length_cons, show i + (l.length + 1) = i + 1 + l.length by omega, ih]
theorem kvI_get : ∀ {l : List HSt} {i : Nat} {s : HSt} {v : Value}, (kvI i l).get s = some v → ∃ j : Nat, l[j]? = some s ∧ v = .int .i64 ((i + j : Nat) : Int)
  | [], _, _, _, h => by cases h
  | t :: l, i, s, v, h => by
    unfold KV.get kvI at h
    rw [List.find?_cons] at h
    dsimp only at h
    by_cases e : t = s
    · rw [decide_eq_true e] at h
      cases h
      exact ⟨0, by rw [e]; rfl, rfl⟩
    · rw [decide_eq_false e] at h
      obtain ⟨j, h1, h2⟩ := kvI_get (l := l) (i := i + 1) (s := s) (v := v) h
      exact ⟨j + 1, h1, by rw [h2]; congr 2; omega⟩
theorem kvI_no : ∀ {l : List HSt} {i : Nat} {s : HSt}, (kvI i l).get s = none → s ∉ l
  | [], _, _, _ => by simp
  | t :: l, i, s, h => by
    unfold KV.get kvI at h
    rw [List.find?_cons] at h
    dsimp only at h
    by_cases e : t = s
    · rw [decide_eq_true e] at h; cases h
    · rw [decide_eq_false e] at h
      have ih := kvI_no (l := l) (i := i + 1) (s := s) h
      intro hm
      rcases List.mem_cons.1 hm with h1 | h1
      · exact e h1.symm
      · exact ih h1
theorem PE.slHM {P : Program} {L : Slots} {d : Option Tmp} {ty : TypeId} {pos : String} {af : Array Edge} {g : Option (Nat × Bool)} {T e s : Nat} {x y q : Operand} {a : Option Addr} {len cap h mx : Nat} {k k3 : IntKind} (hT : slE P T = some (e, s)) (hx : ev L x = some (.slice a len cap)) (hy : ev L y = some (.int k h)) (hq : ev L q = some (.int k3 mx)) (hh : h ≤ mx) (hm : mx ≤ cap) :
    PE P L ⟨d, .slice T x none (some y) (some q), ty, pos, af, g⟩ (.slice a h mx) := fun ρ hρ w => by
  obtain ⟨i, hu, hi, rfl⟩ := slE_und hT
  have hb : ∀ c w, (Instr.sliceBound (.int k3 (mx : Int)) cap c).run P w = .ok mx w := fun c w => by rw [run_bound (by omega)]; simp
  have hb1 : ∀ c w, (Instr.sliceBound (.int k (h : Int)) mx c).run P w = .ok h w := fun c w => by rw [run_bound (by omega)]; simp
  have e1 : (if mx = 0 then a else a.map (·.add (0 * i.size))) = a := by
    have : a.map (·.add (0 * i.size)) = a := by
      cases a with
      | none => rfl
      | some ad => simp [Addr.add]
    rw [this]; split <;> rfl
  simp only [execOp, hρ _ _ hx, hρ _ _ hy, hρ _ _ hq, Option.map_none, Option.map_some, Instr.sliceAt, Instr.slice, Sem.run_bind, run_underlying hu, Result.andThen, Sem.run_pure, Instr.sliceBounds, hb, hb1, sizeOf, typeInfo, program, hi, Sem.run]
  rw [e1]; simp
theorem rows_cut {b off sz : Nat} {rows : List (List Value)} {w : World} (h : RowsA (some ⟨b, off, none⟩) sz rows w) (j : Nat) : RowsA (some ⟨b, off + j * sz, none⟩) sz (rows.drop j) w := fun i row hi => by
  rw [List.getElem?_drop] at hi
  obtain ⟨h1, b', o', he, h2⟩ := h (j + i) row hi
  cases he
  refine ⟨h1, b, off + j * sz, rfl, fun k x hx => ?_⟩
  have := h2 k x hx
  rw [show off + (j + i) * sz + k = off + j * sz + i * sz + k by rw [Nat.add_mul]; omega] at this
  exact this
theorem St.rowsDrop {b off sz : Nat} {rows : List (List Value)} {H : Heap} {R : Facts} {w : World} [m : MemRows (some ⟨b, off, none⟩) sz rows R] (h : St H R w) (n : Nat) : St H (RowsA (some ⟨b, off + n * sz, none⟩) sz (rows.drop n) :: R) w := h.also fun _ hg => rows_cut (hg _ m.mem) n
theorem Inn.sub {l k : List PL} (h : ∀ x ∈ k, x ∈ l) {w : World} (hi : Inn l w) : Inn k w := fun x hx => hi x (h x hx)
theorem St.innPart {l : List PL} {H : Heap} {R : Facts} {w : World} [m : MemF (Inn l) R] (h : St H R w) (k : List PL) (hk : ∀ x ∈ k, x ∈ l) : St H (Inn k :: R) w := h.also fun _ hg => Inn.sub hk (hg _ m.mem)
def RoundQ (b : Barn) (H : Heap) (R : Facts) : Value → Heap → Facts → Prop := fun v H' R' => H' = H ∧
  ((b.check ≠ 0 ∧ v = .tuple #[.slice none 0 0, .slice none 0 0, .int .i64 b.check] ∧ R' = R) ∨
   (b.check = 0 ∧ (∃ w, w ≠ 1000000 ∧ Kpt b.dsk b.state w) ∧ v = .tuple #[.slice none 0 0, .slice none 0 0, .int .i64 6] ∧ R' = R) ∨
   (b.check = 0 ∧ Kpt b.dsk b.state 1000000 ∧ ∃ (p q : List (List Nat)) (pl ql : List PL) (ap aq : Option Addr) (cp cq : Nat), RndOk b p q ∧ lls pl = p.map il ∧ lls ql = q.map il ∧ v = .tuple #[.slice ap pl.length cp, .slice aq ql.length cq, .int .i64 0] ∧
      R' = RowsA ap 1 (plrows pl) :: Inn pl :: RowsA aq 1 (plrows ql) :: Inn ql :: R))
theorem c_Round1 (b : Barn) (hok : b.ok) (ab : Option Addr) (cb bd m : Nat) (n : Nat) (hn : n ≤ 14641) (kv : KV) (hkv : KvOk b.dsk n kv) (x5 : Nat) (t : HSt) (ht : t ∈ b.dsk.sts) (H : Heap) (R : Facts) [hD : MemRows (some ⟨bd, 0, none⟩) 18 [dcs b (b.sl ab cb) b.lasts b.most m] R] [hX : MemRows (some ⟨x5, 0, none⟩) 1 [[.pointer (some ⟨bd, 0, none⟩)]] R] [hK : MemF (KpF m kv) R] :
    FnV Try.prog 95 [stv t, .pointer (some ⟨x5, 0, none⟩)] H R (.bool (decide (b.dsk.lvl n t = 1000000))) := by
 have hdk := b.dsk_ok hok
 have hti := (b.dsk.mem_sts hdk t).1 ht
 have hl4 := hdk.lasts.len
 have hm4 := hdk.most.len
 refine fn_of Try.func95 rfl Try.ntmps95 rfl ?_
 refine sy_seq ?_
 refine sy_tx' [0, 1] rfl ?_
 refine bx rfl rfl rfl (fun b2 => ?_)
 refine sp rfl (PE.assign rfl) rfl ?_
 refine sy_seq ?_
 refine sy_draw [0, 1, 3, 7, 0, 31, 63, 127] (.ld 0 (.tk 1 (.tk 2 (.ld 3 (.ld 4 (.ld 5 (.tk 6 (.tk 7 .done)))))))) mixed (by kernel_rfl) ?_
 refine ld rfl rfl (lfB (sz := 1) sc123 rfl) rfl ?_
 refine tk rfl (PE.nilCheck rfl) rfl ?_
 refine tk rfl (PE.fieldAddr fo130_3 rfl) rfl ?_
 refine ld rfl rfl (lfB (sz := 18) sc128 (dcs_map hl4 hm4)) rfl ?_
 refine ld rfl rfl (lhA (rest := []) (ints t) ag127 rfl (by rw [List.append_nil]; rfl) (by rw [ints_length]; exact hti.len)) rfl ?_
 refine ldK rfl rfl rfl (lk_fact (b := true) kv t mke128 (KeyT.of eqf127 noa127) (run_zv zv3) hti.len hkv.len (fun w hs => hs.now hK.mem) false) rfl ?_
 rw [hkv.get t ht]
 refine tk rfl (PE.eql rfl rfl) rfl ?_
 refine tk rfl (PE.assign rfl) rfl ?_
 refine sy_ret ?_
 exact sy_return (vs := [_]) rfl (.cons (RV.tmp rfl) .nil) rfl ⟨rfl, rfl, rfl⟩ (fun w h => h.del b2)
theorem c_turn (b : Barn) (hok : b.ok) (ab : Option Addr) (cb bd m : Nat) (n : Nat) (hn : n ≤ 14641) (kv : KV) (hkv : KvOk b.dsk n kv) (x5 : Nat) (hfx : b.dsk.alive (n + 1) = b.dsk.alive n) (s : HSt) (hs : s ∈ b.dsk.sts) (hev : ∀ m, s ∈ b.dsk.alive m) (H : Heap) (R : Facts) [hD : MemRows (some ⟨bd, 0, none⟩) 18 [dcs b (b.sl ab cb) b.lasts b.most m] R] [hX : MemRows (some ⟨x5, 0, none⟩) 1 [[.pointer (some ⟨bd, 0, none⟩)]] R] [hK : MemF (KpF m kv) R] :
    Fn Try.prog 94 [.pointer (some ⟨bd, 0, none⟩), stv s, .agg #[.func (.func 95) #[] #[.pointer (some ⟨x5, 0, none⟩)]]] H R (fun v H' R' => ∃ (l : List Nat) (t : HSt) (a : Option Addr) (c : Nat), l ∈ b.dsk.trs true ∧ b.dsk.next s l = some t ∧ (∀ m, t ∈ b.dsk.alive m) ∧ v = .tuple #[.slice a l.length c, stv t, .bool true] ∧ H' = H ∧ R' = RowsA a 1 (irows (il l)) :: R) := by
 refine fnM_of Try.func94 rfl Try.ntmps94 rfl ?_
 refine sy_seq ?_
 refine sy_tx' [0, 1, 2, 3, 4, 5] rfl ?_
 refine bx rfl rfl rfl (fun b3 => ?_)
 refine bx rfl rfl rfl (fun b4 => ?_)
 refine bx rfl rfl rfl (fun b5 => ?_)
 refine alc rfl zl40 rfl (fun b6 => ?_)
 refine alc rfl zl127 rfl (fun b7 => ?_)
 refine alc rfl zl4 rfl (fun b8 => ?_)
 refine sy_seq ?_
 refine sy_seq ?_
 refine sy_tx' [0, 1] rfl ?_
 refine spL rfl rfl (lh sc123 rfl rfl) rfl ?_
 refine cl rfl cal115 rfl rfl (c_turnings bd true _ _) ?_
 rintro _ _ _ ⟨xb, xf, rfl, rfl, rfl⟩
 have hdk := b.dsk_ok hok
 have hsi := (b.dsk.mem_sts hdk s).1 hs
 have hsm := b.dsk.inS_sml hdk hsi
 have hl4 := hdk.lasts.len
 have hm4 := hdk.most.len
 refine sy_block ?_
 refine sy_range rfl cal133 (fun c0 bl0 bd0 hcp0 hca0 hcb0 hck0 => ?_)
 refine ⟨fun st pend T R' => (st = .ready ∧ pend = none ∧ (b.dsk.trs true).any (b.dsk.goodL n s) = false ∧ T = (bd0, .deferred (some [])) :: (b8, cel 4 [.bool false]) :: (b7, cel 127 [.int .i64 0, .int .i64 0, .int .i64 0, .int .i64 0]) :: (b6, cel 40 [.slice none 0 0]) :: (b5, cel 140 [.func (.func 95) #[] #[.pointer (some ⟨x5, 0, none⟩)]]) :: (b4, cel 127 (ints s)) :: (b3, cel 123 [.pointer (some ⟨bd, 0, none⟩)]) :: H ∧ R' = RowsA (some ⟨xf, 0, none⟩) 1 [[.bool true]] :: RowsA (some ⟨xb, 0, none⟩) 1 [[.pointer (some ⟨bd, 0, none⟩)]] :: R) ∨
     (st = .done ∧ pend = some .ret ∧ ∃ (l : List Nat) (t : HSt) (a : Option Addr) (c : Nat), l ∈ b.dsk.trs true ∧ b.dsk.next s l = some t ∧ (∀ m, t ∈ b.dsk.alive m) ∧ T = (bd0, .deferred (some [])) :: (b8, cel 4 [.bool true]) :: (b7, cel 127 (ints t)) :: (b6, cel 40 [.slice a l.length c]) :: (b5, cel 140 [.func (.func 95) #[] #[.pointer (some ⟨x5, 0, none⟩)]]) :: (b4, cel 127 (ints s)) :: (b3, cel 123 [.pointer (some ⟨bd, 0, none⟩)]) :: H ∧ R' = RowsA a 1 (irows (il l)) :: RowsA (some ⟨xf, 0, none⟩) 1 [[.bool true]] :: RowsA (some ⟨xb, 0, none⟩) 1 [[.pointer (some ⟨bd, 0, none⟩)]] :: R),
   Fn.mono (c_turnings1 b hok ab cb bd m true xb xf bl0 (fun k H' R' => (∀ i l, i < k → (b.dsk.trs true)[i]? = some l → b.dsk.goodL n s l = false) ∧ H' = (bl0, lob c0 .ready none) :: (bd0, .deferred (some [])) :: (b8, cel 4 [.bool false]) :: (b7, cel 127 [.int .i64 0, .int .i64 0, .int .i64 0, .int .i64 0]) :: (b6, cel 40 [.slice none 0 0]) :: (b5, cel 140 [.func (.func 95) #[] #[.pointer (some ⟨x5, 0, none⟩)]]) :: (b4, cel 127 (ints s)) :: (b3, cel 123 [.pointer (some ⟨bd, 0, none⟩)]) :: H ∧ R' = RowsA (some ⟨xf, 0, none⟩) 1 [[.bool true]] :: RowsA (some ⟨xb, 0, none⟩) 1 [[.pointer (some ⟨bd, 0, none⟩)]] :: R)
     (fun H' R' => ∃ (l : List Nat) (t : HSt) (a : Option Addr) (c : Nat), l ∈ b.dsk.trs true ∧ b.dsk.next s l = some t ∧ (∀ m, t ∈ b.dsk.alive m) ∧ H' = (bl0, lob c0 .done (some .ret)) :: (bd0, .deferred (some [])) :: (b8, cel 4 [.bool true]) :: (b7, cel 127 (ints t)) :: (b6, cel 40 [.slice a l.length c]) :: (b5, cel 140 [.func (.func 95) #[] #[.pointer (some ⟨x5, 0, none⟩)]]) :: (b4, cel 127 (ints s)) :: (b3, cel 123 [.pointer (some ⟨bd, 0, none⟩)]) :: H ∧ R' = RowsA a 1 (irows (il l)) :: RowsA (some ⟨xf, 0, none⟩) 1 [[.bool true]] :: RowsA (some ⟨xb, 0, none⟩) 1 [[.pointer (some ⟨bd, 0, none⟩)]] :: R)
     (fun k H' R' h => by obtain ⟨_, _, rfl⟩ := h; exact ⟨by simp, by simp, List.mem_cons_of_mem _ (List.mem_cons_of_mem _ hD.mem)⟩) (fun k l a c H' R' hk hI => ?_) _ _ ⟨fun _ _ h => absurd h (Nat.not_lt_zero _), rfl, rfl⟩) (fun v H' R' h => ?_), ?_⟩
 rotate_left
 · rcases h with ⟨hn, rfl, rfl⟩ | ⟨l, t, a, c, h1, h2, h3, rfl, rfl⟩
   · exact ⟨.ready, none, _, by simp, .refl _, .inl ⟨rfl, rfl, any_no hn, rfl, rfl⟩⟩
   · exact ⟨.done, some .ret, _, by simp, .refl _, .inr ⟨rfl, rfl, l, t, a, c, h1, h2, h3, rfl, rfl⟩⟩
 rotate_left
 have hlm := List.mem_of_getElem? hk
 have hlt := b.dsk.trs_lt hlm
 have hll : l.length ≤ 1000000 := by have := trs_len4 hdk hlm; omega
 obtain ⟨hno, rfl, rfl⟩ := hI
 refine yd_of hcp0 hca0 hcb0 hck0 rfl ?_
 refine sy_tx' [0] rfl ?_
 refine sp rfl (PE.assign rfl) rfl ?_
 refine sy_beginRound ?_
 refine sy_block ?_
 refine sy_seq ?_
 refine sy_tx' [0, 1, 2, 3, 4, 5, 6, 7, 8, 9] rfl ?_
 refine spL rfl rfl (lh sc123 rfl rfl) rfl ?_
 refine spL rfl rfl (lhA (rest := []) (ints s) ag127 rfl (by rw [List.append_nil]; rfl) (by rw [ints_length]; exact hsi.len)) rfl ?_
 refine sp rfl (PE.move rfl) rfl ?_
 refine cl rfl cal116 rfl rfl (c_next b hok ab cb bd m s hsm l hlt hll a c _ _) ?_
 rintro _ _ _ ⟨rfl, rfl, rfl⟩
 rcases hnx : b.dsk.next s l with _ | t
 refine sp rfl (PE.move rfl) rfl ?_
 refine sp rfl (PE.extract rfl rfl) rfl ?_
 refine sp rfl (PE.extract rfl rfl) rfl ?_
 refine alc rfl zl127 rfl (fun b10 => ?_)
 first | (refine stoA rfl rfl rfl cn127 rfl rfl rfl (ints_one _) ?_) | (refine stoA rfl rfl rfl cn127 rfl (by rw [ints_length]; exact hts.len) rfl (ints_one _) ?_)
 refine sp rfl (PE.assign rfl) rfl ?_
 refine sy_seq ?_
 refine sy_tx' [0, 1, 2, 3, 4, 5, 6] rfl ?_
 have hno2 : b.dsk.goodL n s l = false := by simp only [Dsk.goodL, hnx]
 refine sp rfl (PE.move rfl) rfl ?_
 refine sp rfl (PE.move rfl) rfl ?_
 repeat refine spN rfl rfl rfl rfl rfl rfl rfl rfl ?_
 refine sp rfl (PE.pick rfl rfl rfl) rfl ?_
 refine sy_condF rfl ?_
 refine sy_skip ?_
 exact sy_roundOn (.inl ⟨rfl, no_more hk hno hno2, rfl, rfl⟩) (fun _ h => (h.del b10).ftail)
 refine sp rfl (PE.move rfl) rfl ?_
 refine sp rfl (PE.extract rfl rfl) rfl ?_
 have hts := b.dsk.next_inS hdk hsi hlt hnx
 have htm := (b.dsk.mem_sts hdk t).2 hts
 refine sp rfl (PE.extract rfl rfl) rfl ?_
 refine alc rfl zl127 rfl (fun b10 => ?_)
 first | (refine stoA rfl rfl rfl cn127 rfl rfl rfl (ints_one _) ?_) | (refine stoA rfl rfl rfl cn127 rfl (by rw [ints_length]; exact hts.len) rfl (ints_one _) ?_)
 refine sp rfl (PE.assign rfl) rfl ?_
 refine sy_seq ?_
 refine sy_tx' [0, 1, 2, 3, 4, 5, 6] rfl ?_
 refine sp rfl (PE.move rfl) rfl ?_
 refine sp rfl (PE.move rfl) rfl ?_
 refine spG rfl rfl rfl rfl (PE.fieldAddr fo140_0 rfl) rfl ?_
 refine spLG rfl rfl rfl rfl rfl (lh sc138 rfl rfl) rfl ?_
 refine spLG rfl rfl rfl rfl rfl (lhA (rest := []) (ints t) ag127 rfl (by rw [List.append_nil]; rfl) (by rw [ints_length]; exact hts.len)) rfl ?_
 refine clFVG rfl rfl rfl rfl rfl (cal95) rfl rfl (c_Round1 b hok ab cb bd m n hn kv hkv x5 t htm _ _) ?_
 refine sp rfl (PE.pick rfl rfl rfl) rfl ?_
 refine sy_cond rfl (fun hc0 => ?_) (fun hc0 => ?_)
 try simp only [decide_eq_true_eq, decide_eq_false_iff_not, Bool.and_eq_true, Bool.or_eq_true, Bool.not_eq_true', Int.not_le, Int.not_lt] at hc0
 have hgo : ∀ m, t ∈ b.dsk.alive m := ever_of htm hn hfx hc0
 refine sy_seq ?_
 refine sy_draw [0, 0, 1, 7, 15] (.tk 0 (.ld 1 (.big 2 (.big 3 (.big 4 .done))))) mixed (by kernel_rfl) ?_
 refine tk rfl (PE.move rfl) rfl ?_
 refine ld rfl rfl (lhA (rest := []) (ints t) ag127 rfl (by rw [List.append_nil]; rfl) (by rw [ints_length]; exact hts.len)) rfl ?_
 refine sto rfl rfl rfl cn40 rfl rfl rfl rfl ?_
 refine bg (fun w hs => ⟨(lhA (rest := []) (ints t) ag127 rfl (by rw [List.append_nil]; rfl) (by rw [ints_length]; exact hts.len)) w hs, trivial⟩) ?_
 refine stoA rfl rfl rfl cn127 rfl (by rw [ints_length]; exact hts.len) rfl (ints_one _) ?_
 refine bg (fun w hs => ⟨trivial, trivial⟩) ?_
 refine sto rfl rfl rfl cn4 rfl rfl rfl rfl ?_
 refine bg (fun w hs => trivial) ?_
 refine sy_ret ?_
 exact sy_roundRet (.inr ⟨rfl, l, t, a, c, hlm, hnx, hgo, rfl, rfl⟩) (fun _ h => h.del b10)
 try simp only [decide_eq_true_eq, decide_eq_false_iff_not, Bool.and_eq_true, Bool.or_eq_true, Bool.not_eq_true', Int.not_le, Int.not_lt] at hc0
 have hno2 : b.dsk.goodL n s l = false := by simp only [Dsk.goodL, hnx]; exact decide_eq_false hc0
 refine sy_skip ?_
 exact sy_roundOn (.inl ⟨rfl, no_more hk hno hno2, rfl, rfl⟩) (fun _ h => (h.del b10).ftail)
 rintro _ _ _ _ (⟨rfl, rfl, hh, rfl, rfl⟩ | ⟨rfl, rfl, l, t, a, c, hlm, hnx, hgo, rfl, rfl⟩)
 refine sy_jn ?_
 refine sy_seq ?_
 exfalso
 rw [good_any hdk hsi hn hfx hev] at hh
 cases hh
 refine sy_jc ?_
 refine sy_ret ?_
 have hts := b.dsk.next_inS hdk hsi (b.dsk.trs_lt hlm) hnx
 exact sy_returnM [bd0] (fun _ h => h) rfl (.cons (RV.cell rfl (lh sc40 rfl rfl)) (.cons (RV.cell rfl (lhA (rest := []) (ints t) ag127 rfl (by rw [List.append_nil]; rfl) (by rw [ints_length]; exact hts.len))) (.cons (RV.cell rfl (lh sc4 rfl rfl)) .nil))) rfl ⟨l, t, a, c, hlm, hnx, hgo, rfl, rfl, rfl⟩ (fun w h => ((((((h.del b8).del b7).del b6).del b5).del b4).del b3).facts (fun g hg => by rcases List.mem_cons.1 hg with hg | hg <;> simp [hg]))
theorem c_Round (b : Barn) (ab : Option Addr) (cb : Nat) (hl : b.bins.length ≤ 9223372036854775807) (hr : b.rise.length = 6) (H : Heap) (R : Facts) [hB : MemRows ab 4 (brows b.bins) R] :
    Fn Try.prog 42 [b.v (b.sl ab cb)] H R (RoundQ b H R) := by
 refine fn_of Try.func42 rfl Try.ntmps42 rfl ?_
 refine sy_seq ?_
 refine sy_tx' [0, 1, 2, 3] rfl ?_
 refine bx rfl rfl rfl (fun b1 => ?_)
 refine sp rfl (PE.assign rfl) rfl ?_
 refine sp rfl (PE.assign rfl) rfl ?_
 refine sp rfl (PE.assign rfl) rfl ?_
 refine sy_seq ?_
 refine sy_tx' [0, 1, 2, 3, 4, 5, 6, 7] rfl ?_
 refine spL rfl rfl (lhA (btl b (b.sl ab cb)) ag25 rfl rfl rfl) rfl ?_
 refine cl rfl cal89 rfl rfl (c_opened b ab cb hl hr _ _) ?_
 rintro _ _ _ (⟨hck, rfl, rfl, rfl⟩ | ⟨hck, bd, m, rfl, rfl, rfl⟩)
 refine sp rfl (PE.move rfl) rfl ?_
 refine sp rfl (PE.extract rfl rfl) rfl ?_
 refine sp rfl (PE.extract rfl rfl) rfl ?_
 refine alc rfl zl123 rfl (fun b5 => ?_)
 refine sto rfl rfl rfl cn123 rfl rfl rfl rfl ?_
 refine sp rfl (PE.assign rfl) rfl ?_
 refine sy_seq ?_
 refine sy_seq ?_
 refine sy_tx' [0, 1] rfl ?_
 refine sp rfl (PE.move rfl) rfl ?_
 refine sp rfl (PE.neq rfl rfl) rfl ?_
 refine sy_condT (congrArg (fun b => some (Value.bool b)) (decide_eq_true hck)) ?_
 refine sy_seq ?_
 refine sy_tx' [0, 1, 2, 3] rfl ?_
 refine sp rfl (PE.move rfl) rfl ?_
 refine sp rfl (PE.assign rfl) rfl ?_
 refine sp rfl (PE.assign rfl) rfl ?_
 refine sp rfl (PE.assign rfl) rfl ?_
 refine sy_ret ?_
 exact sy_return (vs := [_, _, _]) rfl (.cons (RV.tmp rfl) (.cons (RV.tmp rfl) (.cons (RV.tmp rfl) .nil))) rfl ⟨rfl, .inl ⟨hck, rfl, rfl⟩⟩ drp
 have hok := Barn.ok_of hr hck
 have hdk := b.dsk_ok hok
 have hl4 := hdk.lasts.len
 have hm4 := hdk.most.len
 refine sp rfl (PE.move rfl) rfl ?_
 refine sp rfl (PE.extract rfl rfl) rfl ?_
 refine sp rfl (PE.extract rfl rfl) rfl ?_
 refine alc rfl zl123 rfl (fun b5 => ?_)
 refine sto rfl rfl rfl cn123 rfl rfl rfl rfl ?_
 refine sp rfl (PE.assign rfl) rfl ?_
 refine sy_seq ?_
 refine sy_seq ?_
 refine sy_tx' [0, 1] rfl ?_
 refine sp rfl (PE.move rfl) rfl ?_
 refine sp rfl (PE.neq rfl rfl) rfl ?_
 refine sy_condF (rfl) ?_
 refine sy_skip ?_
 refine sy_seq ?_
 refine sy_tx' [0, 1] rfl ?_
 refine spL rfl rfl (lh sc123 rfl rfl) rfl ?_
 refine sy_pull m ?_
 refine cl rfl cal90 rfl rfl (c_work b hok ab cb bd m _ _) ?_
 rintro v _ _ ⟨n, kv, hn, hfx, hkv, rfl, rfl⟩
 have hst := b.state_sts hok
 have hsi := b.state_inS hok
 have hks := kpt_of hst hn hfx
 have hkg := hkv.get _ hst
 refine sy_seq ?_
 refine sy_tx' [0, 1, 2, 3] rfl ?_
 refine spL rfl rfl (lhA (btl b (b.sl ab cb)) ag25 rfl rfl rfl) rfl ?_
 refine clV rfl cal91 rfl rfl (c_state b ab cb hok _ _) ?_
 refine alc rfl zl127 rfl (fun b6 => ?_)
 refine stoA rfl rfl rfl cn127 rfl (by rw [ints_length]; exact hsi.len) rfl (ints_one _) ?_
 refine sy_seq ?_
 refine sy_seq ?_
 refine sy_draw [0, 1, 3, 7, 0, 31, 63] (.ld 0 (.tk 1 (.tk 2 (.ld 3 (.ld 4 (.ld 5 (.tk 6 .done))))))) mixed (by kernel_rfl) ?_
 refine ld rfl rfl (lh sc123 rfl rfl) rfl ?_
 refine tk rfl (PE.nilCheck rfl) rfl ?_
 refine tk rfl (PE.fieldAddr fo130_3 rfl) rfl ?_
 refine ld rfl rfl (lfB (sz := 18) sc128 (dcs_map hl4 hm4)) rfl ?_
 refine ld rfl rfl (lhA (rest := []) (ints b.state) ag127 rfl (by rw [List.append_nil]; rfl) (by rw [ints_length]; exact hsi.len)) rfl ?_
 refine ldK rfl rfl rfl ((lk_held (b := true) kv b.state mke128 (KeyT.of eqf127 noa127) (run_zv zv3) (b.state_sml hok).len hkv.len false)) rfl ?_
 rw [hkg]
 refine tk rfl (PE.neq rfl rfl) rfl ?_
 refine sy_cond rfl (fun hc1 => ?_) (fun hc1 => ?_)
 try simp only [decide_eq_true_eq, decide_eq_false_iff_not, Bool.and_eq_true, Bool.or_eq_true, Bool.not_eq_true', Int.not_le, Int.not_lt] at hc1
 refine sy_seq ?_
 refine sy_tx' [0, 1, 2] rfl ?_
 refine sp rfl (PE.assign rfl) rfl ?_
 refine sp rfl (PE.assign rfl) rfl ?_
 refine sp rfl (PE.assign rfl) rfl ?_
 refine sy_ret ?_
 exact sy_return (vs := [_, _, _]) rfl (.cons (RV.tmp rfl) (.cons (RV.tmp rfl) (.cons (RV.tmp rfl) .nil))) rfl ⟨rfl, .inr (.inl ⟨hck, ⟨_, hc1, hks⟩, rfl, rfl⟩)⟩ (fun w h => ((((h.del b6).del m).del b5).del b1).ftail)
 try simp only [decide_eq_true_eq, decide_eq_false_iff_not, Bool.and_eq_true, Bool.or_eq_true, Bool.not_eq_true', Int.not_le, Int.not_lt] at hc1
 have hev := ever_of hst hn hfx (by omega)
 refine Sy.heap (fun w h => St.rows (sz := 1) (rows := [[.pointer (some ⟨bd, 0, none⟩)]]) (rest := []) (h.pull b5) (by simp)) ?_
 refine Sy.heap (fun w h => St.kpf (h.pull m)) ?_
 refine sy_skip ?_
 refine sy_seq ?_
 refine sy_tx' [0, 1] rfl ?_
 refine mkm rfl rfl true (fun m33 => ?_)
 refine sp rfl (PE.assign rfl) rfl ?_
 refine sy_seq ?_
 refine sy_tx' [0] rfl ?_
 refine sp rfl (PE.assign rfl) rfl ?_
 refine sy_block ?_
 refine sy_loop (ι := (y : {y : List HSt × List PL × HSt // ∃ p, lls y.2.1 = p.map il ∧ Met b.dsk b.state y.1 p y.2.2}) × OSl 40 1 (plrows y.1.2.1)) (fun y => ⟨[(5, .pointer (some ⟨b5, 0, none⟩)), (6, .pointer (some ⟨b6, 0, none⟩)), (7, .map (some m33)), (8, y.2.fs)], (b6, cel 127 (ints y.1.1.2.2)) :: (m33, mapO true (kvI 0 y.1.1.1)) :: (y.2.G ++ (b1, cel 25 (btl b (b.sl ab cb))) :: H), Inn y.1.1.2.1 :: KpF m kv :: RowsA (some ⟨b5, 0, none⟩) 1 [[.pointer (some ⟨bd, 0, none⟩)]] :: RowsA (some ⟨bd, 0, none⟩) 18 [dcs b (b.sl ab cb) b.lasts b.most m] :: R⟩) (fun y => b.dsk.nst + 1 - y.1.1.1.length) ⟨⟨([], [], b.state), [], rfl, Met.start hsi hev⟩, OSl.nil _ _⟩ ?_ (fun y => ?_)
 exact sy_at (by repeat' first | exact Sub.nil | apply Sub.cons | rfl | (simp [lk]; omega)) (fun w h => (St.inn0 (h.pull b6)).facts (fun g hg => by simp only [List.mem_cons] at hg ⊢; rcases hg with hg | hg | hg | hg | hg <;> simp [hg]))
 obtain ⟨⟨⟨S, pl, s⟩, p, hlp, hmet⟩, o⟩ := y
 dsimp only at hlp hmet o ⊢
 have hs4 := hmet.inS.len
 have hsS := (b.dsk.mem_sts hdk s).2 hmet.inS
 have hfew := hmet.few hdk
 have hn14 := (b.dsk.nst_le hdk).2
 have hSl := hmet.len
 have hpll : pl.length = p.length := by have := congrArg List.length hlp; rw [lls_len, List.length_map] at this; exact this
 have hkl : ∀ e ∈ kvI 0 S, e.1.length = 4 := kvI_len fun t ht => by obtain ⟨j, hj⟩ := List.getElem?_of_mem ht; exact (hmet.at_ j t hj).2.len
 obtain ⟨go, hgo⟩ : ∃ go, (kvI 0 S).get s = go := ⟨_, rfl⟩
 refine sy_block ?_
 refine sy_seq ?_
 refine sy_seq ?_
 refine sy_tx' [0, 1, 2, 3, 4, 5, 6, 7] rfl ?_
 refine sp rfl (PE.move rfl) rfl ?_
 refine spL rfl rfl (lhA (rest := []) (ints s) ag127 rfl (by rw [List.append_nil]; rfl) (by rw [ints_length]; exact hs4)) rfl ?_
 refine spK rfl rfl rfl (lk_held (b := true) (kvI 0 S) s mke128 (KeyT.of eqf127 noa127) (run_zv zv3) hs4 hkl true) rfl ?_
 rw [hgo]
 refine sp rfl (PE.move rfl) rfl ?_
 refine sp rfl (PE.extract rfl rfl) rfl ?_
 refine sp rfl (PE.extract rfl rfl) rfl ?_
 refine sp rfl (PE.assign rfl) rfl ?_
 refine sp rfl (PE.assign rfl) rfl ?_
 refine sy_seq ?_
 refine sy_tx' [0] rfl ?_
 refine sp rfl (PE.move rfl) rfl ?_
 refine sy_cond rfl (fun hc2 => ?_) (fun hc2 => ?_)
 obtain ⟨gv, rfl⟩ : ∃ gv, go = some gv := by cases go with
   | none => cases hc2
   | some gv => exact ⟨gv, rfl⟩
 obtain ⟨j, hj, rfl⟩ := kvI_get hgo
 have hjl := (List.getElem?_eq_some_iff.1 hj).1
 have hdone := hmet.done hok hj
 obtain ⟨br, cr, jr, hrf, hrG, hrj, hrc, hrx⟩ := o.is.resolve_left (fun h => by have := congrArg List.length h.1; rw [plrows_len] at this; simp only [List.length_nil] at this; omega)
 rw [plrows_len] at hrf hrj hrc
 rw [hrf]
 refine Sy.heap (H' := (b6, cel 127 (ints s)) :: (m33, mapO true (kvI 0 S)) :: (b1, cel 25 (btl b (b.sl ab cb))) :: H) (fun w h => St.blkRows (plr_one pl) ((show St ((b6, cel 127 (ints s)) :: (m33, mapO true (kvI 0 S)) :: (br, cel 40 ((plrows pl).flatten ++ jr)) :: (b1, cel 25 (btl b (b.sl ab cb))) :: H) _ w from (by rw [hrG] at h; exact h)).pull br)) ?_
 rw [Nat.zero_add]
 refine sy_seq ?_
 refine sy_draw [0, 0, 0, 7, 0, 0, 48, 15, 255, 511] (.tk 0 (.tk 1 (.tk 2 (.tk 3 (.tk 4 (.tk 5 (.tk 6 (.tk 7 (.tk 8 (.tk 9 .done)))))))))) mixed (by kernel_rfl) ?_
 refine tk rfl (PE.move rfl) rfl ?_
 refine tk rfl (PE.move rfl) rfl ?_
 refine tk rfl (PE.move rfl) rfl ?_
 refine tk rfl (PE.slHM (h := j) (mx := j) sl26 rfl rfl rfl (Nat.le_refl _) (by omega)) rfl ?_
 refine tk rfl (PE.move rfl) rfl ?_
 refine tk rfl (PE.move rfl) rfl ?_
 refine tk rfl (PE.slLoA (l := j) sl26 rfl rfl (by omega)) rfl ?_
 refine tk rfl (PE.assign rfl) rfl ?_
 refine tk rfl (PE.assign rfl) rfl ?_
 refine tk rfl (PE.assign rfl) rfl ?_
 refine sy_ret ?_
 refine Sy.heap (fun w h => (((h.rowsDrop (b := br) (off := 0) (sz := 1) (rows := plrows pl) j).rowsTake (a := some ⟨br, 0, none⟩) (sz := 1) (rows := plrows pl) j).innPart (l := pl) (pl.take j) (fun x hx => List.mem_of_mem_take hx)).innPart (l := pl) (pl.drop j) (fun x hx => List.mem_of_mem_drop hx)) ?_
 have e1 : (pl.take j).length = j := by rw [List.length_take]; omega
 have e2 : (pl.drop j).length = pl.length - j := List.length_drop
 exact sy_return (vs := [_, _, _]) rfl (.cons (RV.tmp rfl) (.cons (RV.tmp rfl) (.cons (RV.tmp rfl) .nil))) rfl ⟨rfl, .inr (.inr ⟨hck, .inl ⟨rfl, hev⟩, p.take j, p.drop j, pl.take j, pl.drop j, some ⟨br, 0, none⟩, some ⟨br, 0 + j * 1, none⟩, j, cr - j, hdone, by unfold lls at hlp ⊢; rw [List.map_take, hlp, List.map_take], by unfold lls at hlp ⊢; rw [List.map_drop, hlp, List.map_drop], by rw [e1, e2, if_neg (by omega)]; simp only [Option.map_some, addr_add]; rfl, rfl⟩)⟩ (fun w h => (((h.del b6).del m33).del b1).facts (fun g hg => by simp only [List.mem_cons] at hg; rcases hg with hg | hg | hg | hg | hg <;> simp [hg, plrows, List.map_take, List.map_drop]))
 obtain rfl : go = none := by cases go with
   | none => rfl
   | some gv => cases hc2
 have hsn := kvI_no hgo
 obtain ⟨a9, c9, he9, _⟩ := o.freeze
 refine sy_skip ?_
 refine sy_seq ?_
 refine sy_tx' [0, 1, 2, 3, 4] rfl ?_
 refine sp rfl (PE.move rfl) rfl ?_
 refine spL rfl rfl (lhA (rest := []) (ints s) ag127 rfl (by rw [List.append_nil]; rfl) (by rw [ints_length]; exact hs4)) rfl ?_
 refine sp rfl (PE.move rfl) rfl ?_
 refine sp rfl (PE.lenSl isl26 (show _ = some (Value.slice a9 (plrows pl).length c9) from congrArg some he9)) rfl ?_
 rw [show (plrows pl).length = 0 + S.length by rw [plrows_len]; omega]
 refine mpu (kvI 0 S) s rfl mke128 (KeyT.of eqf127 noa127) rfl rfl rfl hs4 hkl ?_
 rw [kvI_put hsn]
 refine sy_seq ?_
 refine sy_tx' [0, 1, 2, 3, 4, 5, 6, 7, 8, 9, 10, 11, 12] rfl ?_
 refine spL rfl rfl (lfB (sz := 1) sc123 rfl) rfl ?_
 refine spL rfl rfl (lhA (rest := []) (ints s) ag127 rfl (by rw [List.append_nil]; rfl) (by rw [ints_length]; exact hs4)) rfl ?_
 refine sp rfl (PE.makeFunc rfl rfl) rfl ?_
 refine sp rfl (PE.build (out := [_]) pl140 zl140 rfl rfl) rfl ?_
 refine cl rfl cal94 rfl rfl (c_turn b hok ab cb bd m n hn kv hkv b5 hfx s hsS hmet.ever _ _) ?_
 rintro _ _ R1 ⟨l, t, al, cl, hlm, hnx, hgo2, rfl, rfl, hR1⟩
 obtain rfl := hR1.symm
 clear hR1
 have hti := b.dsk.next_inS hdk hmet.inS (b.dsk.trs_lt hlm) hnx
 have hnm := hmet.next hdk hsn hlm hnx hgo2
 refine sp rfl (PE.move rfl) rfl ?_
 refine sp rfl (PE.extract rfl rfl) rfl ?_
 refine sp rfl (PE.extract rfl rfl) rfl ?_
 refine sp rfl (PE.extract rfl rfl) rfl ?_
 refine alc rfl zl127 rfl (fun b12 => ?_)
 refine sp rfl (PE.assign rfl) rfl ?_
 refine stoA rfl rfl rfl cn127 rfl (by rw [ints_length]; exact hti.len) rfl (ints_one _) ?_
 refine sp rfl (PE.assign rfl) rfl ?_
 refine sy_draw [0, 0, 2, 7, 0, 15, 63] (.tk 0 (.tk 1 (.ld 4 (.big 2 (.big 3 (.tk 5 (.big 6 .done))))))) mixed (by kernel_rfl) ?_
 refine tk rfl (PE.move rfl) rfl ?_
 refine tk rfl (PE.move rfl) rfl ?_
 refine ld rfl rfl (lhA (rest := []) (ints t) ag127 rfl (by rw [List.append_nil]; rfl) (by rw [ints_length]; exact hti.len)) rfl ?_
 refine bsl (out := [_]) rfl sl26 zl40 rfl rfl rfl rfl rfl rfl (fun b63 => ?_)
 refine bg (fun w hs => ⟨(lhA (rest := []) (ints t) ag127 rfl (by rw [List.append_nil]; rfl) (by rw [ints_length]; exact hti.len)) w hs, trivial⟩) ?_
 refine apO (o) rfl ap26 rfl rfl (rowsH (row := [.slice al l.length cl]) rfl) rfl rfl ((by rw [plrows_len]; simp only [List.length_singleton]; omega)) rfl (fun o64 => ?_)
 refine bg (fun w hs => ⟨(lhA (rest := []) (ints t) ag127 rfl (by rw [List.append_nil]; rfl) (by rw [ints_length]; exact hti.len)) w hs, trivial⟩) ?_
 refine tk rfl (PE.assign rfl) rfl ?_
 refine stoA rfl rfl rfl cn127 rfl (by rw [ints_length]; exact hti.len) (by rw [ints_length]; exact hs4) (ints_one _) ?_
 refine bg (fun w hs => ⟨trivial, trivial⟩) ?_
 have hll := il_len l
 exact sy_next ⟨⟨(S ++ [s], pl ++ [⟨al, cl, il l⟩], t), p ++ [l], by rw [lls_snoc, hlp, List.map_append]; rfl, hnm⟩, o64.cast (by rw [plrows_app]; show _ = plrows pl ++ [[Value.slice al (il l).length cl]]; rw [hll])⟩ (by dsimp only; rw [List.length_append, List.length_singleton]; omega) (by repeat' first | exact Sub.nil | apply Sub.cons | rfl | (simp [lk]; omega)) (fun w h => (St.innSnoc (a := al) (c := cl) (l0 := il l) (l := pl) ((h.del b12).del b63)).facts (fun g hg => by simp only [List.mem_cons] at hg ⊢; rcases hg with hg | hg | hg | hg | hg <;> simp [hg]))
end Go.Proofs.Ytelegnmfhjfbaaa
namespace Go.Proofs.Ytelegnmfhjfbaaa
set_option linter.unusedSimpArgs false
set_option linter.unusedVariables false
open Go
theorem cal41 : cal Try.prog 41 = true := by kernel_rfl
theorem cal42 : cal Try.prog 42 = true := by kernel_rfl
theorem pl_onec (l : List PL) : onecells (plrows l) = true := by
  unfold onecells
  rw [List.all_eq_true]
  intro r hr
  obtain ⟨x, _, rfl⟩ := List.mem_map.1 hr
  rfl
theorem St.innApp {l k : List PL} {H : Heap} {R : Facts} {w : World} [m1 : MemF (Inn l) R] [m2 : MemF (Inn k) R] (h : St H R w) : St H (Inn (l ++ k) :: R) w :=
  h.also fun _ hw x hx => by
    rcases List.mem_append.1 hx with hx | hx
    · exact hw _ m1.mem x hx
    · exact hw _ m2.mem x hx
theorem lls_app (l k : List PL) : lls (l ++ k) = lls l ++ lls k := by simp [lls]
theorem brn_iff {b : Barn} {p : List (List Int)} : (brnQ b p).2.2 = false ↔ (b.burnsF b.warms p 0).1 = none := by
  rcases brn_cases b p with ⟨ws, h1, h2⟩ | ⟨d, k, ws, h1, h2⟩ <;> rw [h1, h2] <;> simp
theorem goes_ref {b : Barn} (hb : b.ok) {p q : List (List Int)} (hq : q ≠ []) (h : ∀ k, 1 ≤ k → k ≤ 12 → (b.burnsF b.warms (p ++ rep k q) 0).1 = none) : b.goes p q :=
  goes_few hb hq fun n hn => by
    rcases Nat.eq_zero_or_pos n with rfl | h0
    · have h1 := h 1 (by omega) (by omega)
      rw [rep_succ, ← List.append_assoc] at h1
      exact burns_pre h1
    · exact h n h0 hn
theorem lls_four {b : Barn} (hok : b.ok) {pl : List PL} {p : List (List Nat)} (h : lls pl = p.map il) (ht : ∀ l ∈ p, l ∈ b.dsk.trs false) : ∀ x ∈ pl, x.l.length ≤ 4 := fun x hx => by
  have h1 : x.l ∈ lls pl := List.mem_map.2 ⟨x, hx, rfl⟩
  rw [h] at h1
  obtain ⟨l, hl, e⟩ := List.mem_map.1 h1
  have := b.dsk.trs_four (b.dsk_ok hok) (ht l hl)
  rw [← e, il_len]; exact this
structure RndLaw (b : Barn) (pl ql : List PL) : Prop where
  len : pl.length + ql.length ≤ 14641
  ne : ql.length ≠ 0
  four : ∀ x ∈ pl ++ ql, x.l.length ≤ 4
  p : planErr b.bins.length b.gangs (lls pl) = 0
  q : planErr b.bins.length b.gangs (lls ql) = 0
  goes : b.goes (lls pl) (lls ql)
theorem RndOk.law {b : Barn} (hok : b.ok) {p q : List (List Nat)} (h : RndOk b p q) {pl ql : List PL} (h1 : lls pl = p.map il) (h2 : lls ql = q.map il) : RndLaw b pl ql := by
  have e1 : pl.length = p.length := by have := congrArg List.length h1; rwa [lls_len, List.length_map] at this
  have e2 : ql.length = q.length := by have := congrArg List.length h2; rwa [lls_len, List.length_map] at this
  have hl := h.len
  have tp : ∀ l ∈ p, l ∈ b.dsk.trs false := fun l hl => b.dsk.trs_sub (h.hp l hl)
  have tq : ∀ l ∈ q, l ∈ b.dsk.trs false := fun l hl => b.dsk.trs_sub (h.hq l hl)
  refine ⟨by omega, fun e => h.ne (List.length_eq_zero_iff.1 (by omega)), fun x hx => ?_, ?_, ?_, ?_⟩
  · rcases List.mem_append.1 hx with hx | hx
    · exact lls_four hok h1 tp x hx
    · exact lls_four hok h2 tq x hx
  · rw [h1]; exact plan_of_trs (d := b.dsk) (by omega) tp
  · rw [h2]; exact plan_of_trs (d := b.dsk) (by omega) tq
  · rw [h1, h2]; exact h.goes hok
structure RWant (b : Barn) (p q : List (List Int)) (w u : Int) (g : Bool) : Prop where
  u : u = goesErr b p q
  g : g = true ↔ goesErr b p q = 0 ∧ b.goes p q
  w : (b.check ≠ 0 ∧ w = b.check) ∨ (b.check = 0 ∧ w = 0 ∧ Kpt b.dsk b.state 1000000) ∨ (b.check = 0 ∧ w = 6 ∧ ∃ v, v ≠ 1000000 ∧ Kpt b.dsk b.state v)
theorem RWant.w1 {b : Barn} {p q : List (List Int)} {w u : Int} {g : Bool} (h : RWant b p q w u g) (hc : b.check ≠ 0) : w = b.check := by
  rcases h.w with ⟨_, h2⟩ | ⟨h1, _⟩ | ⟨h1, _⟩
  · exact h2
  · exact absurd h1 hc
  · exact absurd h1 hc
theorem RWant.w2 {b : Barn} {p q : List (List Int)} {w u : Int} {g : Bool} (h : RWant b p q w u g) (hc : b.check = 0) (hk : ∃ v, v ≠ 1000000 ∧ Kpt b.dsk b.state v) : w = 6 := by
  obtain ⟨v, hv, hk⟩ := hk
  rcases h.w with ⟨h1, _⟩ | ⟨_, _, h2⟩ | ⟨_, h2, _⟩
  · exact absurd hc h1
  · exact absurd (kpt_unique hk h2) hv
  · exact h2
theorem RWant.w3 {b : Barn} {p q : List (List Int)} {w u : Int} {g : Bool} (h : RWant b p q w u g) (hc : b.check = 0) (hk : Kpt b.dsk b.state 1000000) : w = 0 := by
  rcases h.w with ⟨h1, _⟩ | ⟨_, h2, _⟩ | ⟨_, _, v, hv, h3⟩
  · exact absurd hc h1
  · exact h2
  · exact absurd (kpt_unique h3 hk) hv
theorem RWant.val {b : Barn} {p q : List (List Int)} {w u : Int} {g : Bool} (h : RWant b p q w u g) {v : Value} (hv : GoesQ b p q v) : v = .tuple #[.bool g, .int .i64 u] := by
  rcases hv with ⟨h1, rfl⟩ | ⟨h1, is, h2, rfl⟩
  · have e : g = false := by
      cases hg : g with
      | false => rfl
      | true => exact absurd (h.g.1 hg).1 h1
    rw [e, h.u]
  · have e : is = g := by
      rw [Bool.eq_iff_iff, h2, h.g]
      exact ⟨fun h3 => ⟨h1, h3⟩, fun h3 => h3.2⟩
    rw [e, h.u, h1]
theorem lls_big {x y : List PL} (e : lls x = lls y) (h : ∀ z ∈ y, z.l.length ≤ 9223372036854775807) : ∀ z ∈ x, z.l.length ≤ 9223372036854775807 := fun z hz => by
  have h1 : z.l ∈ lls x := List.mem_map.2 ⟨z, hz, rfl⟩
  rw [e] at h1
  obtain ⟨z', hz', e'⟩ := List.mem_map.1 h1
  rw [← e']; exact h z' hz'
theorem c_rGoes (b : Barn) (ab : Option Addr) (cb : Nat) (hok : b.ok) (pl : List PL) (ap : Option Addr) (cp : Nat) (hpl : pl.length ≤ 9223372036854775807) (hpi : ∀ x ∈ pl, x.l.length ≤ 9223372036854775807) (ql : List PL) (aq : Option Addr) (cq : Nat) (hql : ql.length ≤ 9223372036854775807) (hqi : ∀ x ∈ ql, x.l.length ≤ 9223372036854775807) (hlen : pl.length + 12 * ql.length ≤ 1000000) (hne : ql.length ≠ 0) (H : Heap) (R : Facts) [hB : MemRows ab 4 (brows b.bins) R] [hP : MemRows ap 1 (plrows pl) R] [hI : MemF (Inn pl) R] [hQ : MemRows aq 1 (plrows ql) R] [hJ : MemF (Inn ql) R] :
    Fn Try.prog 41 [b.v (b.sl ab cb), .slice ap pl.length cp, .slice aq ql.length cq] H R (fun v H' R' => (∃ g : Bool, (g = true ↔ b.goes (lls pl) (lls ql)) ∧ v = .bool g) ∧ H' = H ∧ R' = R) := by
 refine fn_of Try.func41 rfl Try.ntmps41 rfl ?_
 refine sy_seq ?_
 refine sy_tx' [0, 1] rfl ?_
 refine bx rfl rfl rfl (fun b3 => ?_)
 refine sp rfl (PE.assign rfl) rfl ?_
 refine sy_seq ?_
 refine sy_tx' [0, 1, 2, 3] rfl ?_
 refine bsl0 rfl sl26 rfl (fun o12 ho12 => ?_)
 refine sp rfl (PE.move rfl) rfl ?_
 refine apO o12 rfl ap26 rfl rfl (rowsF (a := ap) (sz := 1) (rows := plrows pl)) (plrows_len pl) (pl_onec pl) (by rw [plrows_len]; simp only [List.length_nil]; omega) rfl (fun o14 => ?_)
 refine sp rfl (PE.assign rfl) rfl ?_
 refine sy_seq ?_
 refine sy_seq ?_
 refine sy_tx' [0] rfl ?_
 refine sp rfl (PE.assign rfl) rfl ?_
 refine sy_block ?_
 refine Sy.heap (fun w h => h.facts (R' := Inn pl :: R) (fun g hg => by rcases List.mem_cons.1 hg with hg | hg <;> simp [hg, hI.mem])) ?_
 refine sy_loop (ι := (y : {y : Nat × List PL // y.1 ≤ 12 ∧ lls y.2 = lls pl ++ rep y.1 (lls ql) ∧ y.2.length = pl.length + y.1 * ql.length ∧ (∀ x ∈ y.2, x.l.length ≤ 9223372036854775807) ∧ ∀ k, 1 ≤ k → k ≤ y.1 → (b.burnsF b.warms (lls pl ++ rep k (lls ql)) 0).1 = none}) × OSl 40 1 (plrows y.1.2)) (fun y => ⟨[(2, .slice aq ql.length cq), (3, .pointer (some ⟨b3, 0, none⟩)), (7, y.2.fs), (8, .int .i64 y.1.1.1)], y.2.G ++ (b3, cel 33 (btl b (b.sl ab cb))) :: H, Inn y.1.1.2 :: R⟩) (fun y => 12 - y.1.1.1) ⟨⟨(0, pl), Nat.zero_le _, (List.append_nil _).symm, by simp, hpi, fun k h1 h2 => by omega⟩, o14.cast (List.nil_append _)⟩ ?_ (fun y => ?_)
 exact sy_at (by repeat' first | exact Sub.nil | apply Sub.cons | rfl | (simp [lk]; omega)) (fun _ h => h)
 obtain ⟨⟨⟨n, l⟩, hn, hle, hll, hli, hno⟩, o⟩ := y
 dsimp only at hn hle hll hli hno o ⊢
 have hmul : n * ql.length ≤ 12 * ql.length := Nat.mul_le_mul_right _ hn
 refine sy_seq ?_
 refine sy_seq ?_
 refine sy_tx' [0, 1] rfl ?_
 refine sp rfl (PE.move rfl) rfl ?_
 refine sp rfl (PE.lss rfl rfl) rfl ?_
 refine sy_cond rfl (fun hc0 => ?_) (fun hc0 => ?_)
 try simp only [decide_eq_true_eq, decide_eq_false_iff_not, Bool.and_eq_true, Bool.or_eq_true, Bool.not_eq_true', Int.not_le, Int.not_lt] at hc0
 have hmul2 : (n + 1) * ql.length ≤ 12 * ql.length := Nat.mul_le_mul_right _ (by omega)
 have hsm : (n + 1) * ql.length = n * ql.length + ql.length := Nat.succ_mul _ _
 refine sy_skip ?_
 refine sy_seq ?_
 refine sy_block ?_
 refine sy_seq ?_
 refine sy_tx' [0, 1, 2, 3] rfl ?_
 refine sp rfl (PE.move rfl) rfl ?_
 refine sp rfl (PE.move rfl) rfl ?_
 refine apO o rfl ap26 rfl rfl (rowsF (a := aq) (sz := 1) (rows := plrows ql)) (plrows_len ql) (pl_onec ql) (by rw [plrows_len, plrows_len]; omega) rfl (fun o21' => ?_)
 obtain ⟨o21, e21, g21⟩ : ∃ o21 : OSl 40 1 (plrows (l ++ ql)), o21.fs = o21'.fs ∧ o21.G = o21'.G := ⟨o21'.cast (plrows_app l ql).symm, rfl, rfl⟩
 rw [← e21]
 refine Sy.heap (fun w h => by rw [← g21] at h; exact h) ?_
 clear e21 g21
 refine Sy.heap (fun w h => St.innApp (l := l) (k := ql) h) ?_
 have hlen2 : (l ++ ql).length = pl.length + (n + 1) * ql.length := by rw [List.length_append]; omega
 have hle2 : lls (l ++ ql) = lls pl ++ rep (n + 1) (lls ql) := by rw [lls_app, hle, rep_succ, List.append_assoc]
 have hli2 : ∀ x ∈ l ++ ql, x.l.length ≤ 9223372036854775807 := fun x hx => by
   rcases List.mem_append.1 hx with hx | hx
   · exact hli x hx
   · exact hqi x hx
 generalize l ++ ql = l2 at o21 hlen2 hle2 hli2 ⊢
 refine sp rfl (PE.assign rfl) rfl ?_
 refine sy_seq ?_
 refine sy_tx' [0, 1, 2, 3, 4, 5, 6, 7, 8, 9] rfl ?_
 refine spL rfl rfl (lhA (btl b (b.sl ab cb)) ag33 rfl rfl rfl) rfl ?_
 refine sp rfl (PE.move rfl) rfl ?_
 refine clV rfl cal25 rfl rfl (FnV.lendO o21 (fun v => [b.v (b.sl ab cb), v]) (fun a5 c5 B => by rw [plrows_len]; exact c_rBurns b ab cb hok l2 a5 c5 (by omega) hli2 (by omega) _ _)) ?_
 refine sp rfl (PE.move rfl) rfl ?_
 refine sp rfl (PE.extract rfl rfl) rfl ?_
 refine sp rfl (PE.extract rfl rfl) rfl ?_
 refine sp rfl (PE.extract rfl rfl) rfl ?_
 refine sp rfl (PE.assign rfl) rfl ?_
 refine sp rfl (PE.assign rfl) rfl ?_
 refine sp rfl (PE.assign rfl) rfl ?_
 refine sy_seq ?_
 refine sy_tx' [0] rfl ?_
 refine sp rfl (PE.move rfl) rfl ?_
 refine sy_cond rfl (fun hc1 => ?_) (fun hc1 => ?_)
 have hng : ¬ b.goes (lls pl) (lls ql) := fun hg => by
   have h1 := brn_iff.2 (hg (n + 1))
   rw [← hle2, hc1] at h1; cases h1
 refine sy_seq ?_
 refine sy_tx' [0] rfl ?_
 refine sp rfl (PE.assign rfl) rfl ?_
 refine sy_ret ?_
 exact sy_return (vs := [_]) rfl (.cons (RV.tmp rfl) .nil) rfl ⟨⟨false, ⟨fun h => (by cases h), fun h => absurd h hng⟩, rfl⟩, rfl, rfl⟩ (fun w h => ((St.drop h).del b3).facts (fun g hg => by simp [hg]))
 have hno2 : ∀ k, 1 ≤ k → k ≤ n + 1 → (b.burnsF b.warms (lls pl ++ rep k (lls ql)) 0).1 = none := fun k h1 h2 => by
   rcases Nat.lt_or_ge n k with h3 | h3
   · obtain rfl : k = n + 1 := by omega
     have h4 := brn_iff.1 hc1
     rw [hle2] at h4; exact h4
   · exact hno k h1 h3
 refine sy_skip ?_
 refine sy_tx' [0, 1, 2] rfl ?_
 refine sp rfl (PE.move rfl) rfl ?_
 refine sp rfl (PE.add rfl rfl (by omega)) rfl ?_
 refine sp rfl (PE.assign rfl) rfl ?_
 exact sy_next ⟨⟨(n + 1, l2), by dsimp only; omega, hle2, hlen2, hli2, hno2⟩, o21⟩ (by dsimp only; omega) (by repeat' first | exact Sub.nil | apply Sub.cons | rfl | (simp [lk]; omega)) (fun w h => h.facts (fun g hg => by rcases List.mem_cons.1 hg with hg | hg <;> simp [hg]))
 try simp only [decide_eq_true_eq, decide_eq_false_iff_not, Bool.and_eq_true, Bool.or_eq_true, Bool.not_eq_true', Int.not_le, Int.not_lt] at hc0
 obtain rfl : n = 12 := by omega
 have hg : b.goes (lls pl) (lls ql) := goes_ref hok (fun e => hne (by have := congrArg List.length e; rwa [lls_len] at this)) hno
 refine sy_exit ?_
 repeat refine sy_tx ?_
 refine sy_bx ?_
 refine sy_seq ?_
 refine sy_tx' [0] rfl ?_
 refine sp rfl (PE.assign rfl) rfl ?_
 refine sy_ret ?_
 exact sy_return (vs := [_]) rfl (.cons (RV.tmp rfl) .nil) rfl ⟨⟨true, ⟨fun _ => hg, fun _ => rfl⟩, rfl⟩, rfl, rfl⟩ (fun w h => ((St.drop h).del b3).facts (fun g hg => by simp [hg]))
theorem c_GoesV (b : Barn) (ab : Option Addr) (cb : Nat) (hl : b.bins.length ≤ 9223372036854775807) (hr : b.rise.length = 6) (pl : List PL) (ap : Option Addr) (cp : Nat) (hpl : pl.length ≤ 9223372036854775807) (hpi : ∀ x ∈ pl, x.l.length ≤ 9223372036854775807) (ql : List PL) (aq : Option Addr) (cq : Nat) (hql : ql.length ≤ 9223372036854775807) (hqi : ∀ x ∈ ql, x.l.length ≤ 9223372036854775807) {w u : Int} {g : Bool} (hw : RWant b (lls pl) (lls ql) w u g) {p1 q1 : List PL} (e1 : lls p1 = lls pl) (e2 : lls q1 = lls ql) (a1 : Option Addr) (c1 : Nat) (a2 : Option Addr) (c2 : Nat) (H : Heap) (R : Facts) [hB : MemRows ab 4 (brows b.bins) R] [hP : MemRows a1 1 (plrows p1) R] [hI : MemF (Inn p1) R] [hQ : MemRows a2 1 (plrows q1) R] [hJ : MemF (Inn q1) R] :
    FnV Try.prog 43 [b.v (b.sl ab cb), .slice a1 p1.length c1, .slice a2 q1.length c2] H R (.tuple #[.bool g, .int .i64 u]) := by
  have k : ∀ (x y : List PL), lls x = lls y → (∀ z ∈ y, z.l.length ≤ 9223372036854775807) → ∀ z ∈ x, z.l.length ≤ 9223372036854775807 := fun x y e h z hz => by
    have h1 : z.l ∈ lls x := List.mem_map.2 ⟨z, hz, rfl⟩
    rw [e] at h1
    obtain ⟨z', hz', e'⟩ := List.mem_map.1 h1
    rw [← e']; exact h z' hz'
  have n : ∀ (x y : List PL), lls x = lls y → y.length ≤ 9223372036854775807 → x.length ≤ 9223372036854775807 := fun x y e h => by
    have := congrArg List.length e
    rw [lls_len, lls_len] at this; omega
  refine (c_Goes b ab cb hl hr p1 a1 c1 (n _ _ e1 hpl) (k _ _ e1 hpi) q1 a2 c2 (n _ _ e2 hql) (k _ _ e2 hqi) H R).toV (fun v hq => hw.val ?_)
  rw [e1, e2] at hq; exact hq
theorem c_HeatRounds (b : Barn) (ab : Option Addr) (cb : Nat) (pl : List PL) (ap : Option Addr) (cp : Nat) (hpl : pl.length ≤ 9223372036854775807) (hpi : ∀ x ∈ pl, x.l.length ≤ 9223372036854775807) (ql : List PL) (aq : Option Addr) (cq : Nat) (hql : ql.length ≤ 9223372036854775807) (hqi : ∀ x ∈ ql, x.l.length ≤ 9223372036854775807) (hl9 : b.bins.length ≤ 4398046511104) (hr : b.rise.length = 6) (H : Heap) (R : Facts) [hB : MemRows ab 4 (brows b.bins) R] [hP : MemRows ap 1 (plrows pl) R] [hI : MemF (Inn pl) R] [hQ : MemRows aq 1 (plrows ql) R] [hJ : MemF (Inn ql) R] :
    Fn Try.prog 6 [b.v (b.sl ab cb), .slice ap pl.length cp, .slice aq ql.length cq] H R (fun v H' R' => v = .bool true ∧ H' = H ∧ R' = R) := by
 have hl : b.bins.length ≤ 9223372036854775807 := by omega
 refine fn_of Try.func6 rfl Try.ntmps6 rfl ?_
 refine sy_seq ?_
 refine sy_tx' [0, 1] rfl ?_
 refine bx rfl rfl rfl (fun b3 => ?_)
 refine sp rfl (PE.assign rfl) rfl ?_
 refine sy_seq ?_
 refine sy_seq ?_
 refine sy_tx' [0, 1, 2, 3, 4, 5, 6, 7, 8, 9] rfl ?_
 refine spL rfl rfl (lhA (btl b (b.sl ab cb)) ag25 rfl rfl rfl) rfl ?_
 refine clV rfl cal33 rfl rfl (c_wide b ab cb 80 hl9 hr _ _) ?_
 refine sp rfl (PE.move rfl) rfl ?_
 refine sy_case (t := 21) rfl (fun g21 => ?_) (fun g21 => ?_)
 repeat refine spN rfl rfl rfl rfl rfl rfl rfl rfl ?_
 refine sp rfl (PE.pick rfl rfl rfl) rfl ?_
 refine sp rfl (PE.move rfl) rfl ?_
 repeat refine spN rfl rfl rfl rfl rfl rfl rfl rfl ?_
 refine sp rfl (PE.pick rfl rfl rfl) rfl ?_
 refine sy_condT rfl ?_
 refine sy_seq ?_
 refine sy_tx' [0, 1] rfl ?_
 refine clV rfl cal18 rfl rfl (c_awake _ _) ?_
 refine sp rfl (PE.assign rfl) rfl ?_
 refine sy_ret ?_
 exact sy_return (vs := [_]) rfl (.cons (RV.tmp rfl) .nil) rfl ⟨rfl, rfl, rfl⟩ (fun w h => by first | exact (((h.del b8).del b7).del b3).facts (fun g hg => by simp [hg]) | exact h.del b3)
 have h8 : ¬ 8 < b.bins.length := by unfold wideV at g21; rw [Bool.or_eq_false_iff] at g21; simpa using g21.1
 refine spG rfl rfl rfl rfl (PE.move rfl) rfl ?_
 refine clVG rfl rfl rfl rfl cal17 rfl rfl (c_long pl ap cp hpl hpi _ _) ?_
 refine sp rfl (PE.pick rfl rfl rfl) rfl ?_
 refine sp rfl (PE.move rfl) rfl ?_
 refine sy_case (t := 25) rfl (fun g25 => ?_) (fun g25 => ?_)
 repeat refine spN rfl rfl rfl rfl rfl rfl rfl rfl ?_
 refine sp rfl (PE.pick rfl rfl rfl) rfl ?_
 refine sy_condT rfl ?_
 refine sy_seq ?_
 refine sy_tx' [0, 1] rfl ?_
 refine clV rfl cal18 rfl rfl (c_awake _ _) ?_
 refine sp rfl (PE.assign rfl) rfl ?_
 refine sy_ret ?_
 exact sy_return (vs := [_]) rfl (.cons (RV.tmp rfl) .nil) rfl ⟨rfl, rfl, rfl⟩ (fun w h => by first | exact (((h.del b8).del b7).del b3).facts (fun g hg => by simp [hg]) | exact h.del b3)
 obtain ⟨hp24, hpe8'⟩ := longP_no g25
 rw [lls_len] at hp24
 have hpe8 : ∀ x ∈ pl, x.l.length ≤ 8 := fun x hx => hpe8' x.l (List.mem_map.2 ⟨x, hx, rfl⟩)
 refine spG rfl rfl rfl rfl (PE.move rfl) rfl ?_
 refine clVG rfl rfl rfl rfl cal17 rfl rfl (c_long ql aq cq hql hqi _ _) ?_
 refine sp rfl (PE.pick rfl rfl rfl) rfl ?_
 refine sy_cond rfl (fun hc0 => ?_) (fun hc0 => ?_)
 refine sy_seq ?_
 refine sy_tx' [0, 1] rfl ?_
 refine clV rfl cal18 rfl rfl (c_awake _ _) ?_
 refine sp rfl (PE.assign rfl) rfl ?_
 refine sy_ret ?_
 exact sy_return (vs := [_]) rfl (.cons (RV.tmp rfl) .nil) rfl ⟨rfl, rfl, rfl⟩ (fun w h => by first | exact (((h.del b8).del b7).del b3).facts (fun g hg => by simp [hg]) | exact h.del b3)
 obtain ⟨hq24, hqe8'⟩ := longP_no hc0
 rw [lls_len] at hq24
 have hqe8 : ∀ x ∈ ql, x.l.length ≤ 8 := fun x hx => hqe8' x.l (List.mem_map.2 ⟨x, hx, rfl⟩)
 refine sy_skip ?_
 refine sy_seq ?_
 refine sy_free [0, 1, 0, 7, 0, 31, 0, 127, 0, 0, 1023, 2047, 4095, 8191] [0, 1, 2, 3, 4, 5, 6, 7, 8, 9, 10, 11, 12, 13] mixed (by kernel_rfl) rfl (fun s L H1 R1 => ∃ (a1 : Option Addr) (c1 : Nat) (a2 : Option Addr) (c2 : Nat) (p1 : List PL) (d1 : Option Addr) (e1 : Nat) (p2 : List PL) (d2 : Option Addr) (e2 : Nat) (b7 : Nat) (x7 : List Value) (b8 : Nat) (x8 : List Value), Sub [(1, .slice ap pl.length cp), (2, .slice aq ql.length cq), (3, .pointer (some ⟨b3, 0, none⟩))] L ∧ (∀ f ∈ (R : Facts), f ∈ R1) ∧ (s 0 = true → lk L 30 = some (b.v (b.sl ab cb))) ∧ (s 1 = true → lk L 31 = some (b.v (b.sl a1 c1)) ∧ (RowsA a1 4 (brows b.bins)) ∈ R1) ∧ (s 2 = true → lk L 32 = some (b.v (b.sl ab cb))) ∧ (s 3 = true → lk L 33 = some (b.v (b.sl a2 c2)) ∧ (RowsA a2 4 (brows b.bins)) ∈ R1) ∧ (s 4 = true → lk L 34 = some (.slice ap pl.length cp)) ∧ (s 5 = true → lk L 35 = some (.slice d1 p1.length e1) ∧ (RowsA d1 1 (plrows p1)) ∈ R1 ∧ (Inn p1) ∈ R1 ∧ (lls p1 = lls pl)) ∧ (s 6 = true → lk L 36 = some (.slice aq ql.length cq)) ∧ (s 7 = true → lk L 37 = some (.slice d2 p2.length e2) ∧ (RowsA d2 1 (plrows p2)) ∈ R1 ∧ (Inn p2) ∈ R1 ∧ (lls p2 = lls ql)) ∧ (s 8 = true → lk L 7 = some (.pointer (some ⟨b7, 0, none⟩)) ∧ (s 10 = false → x7 = [.int .i64 0, .int .i64 0, .int .i64 0, .int .i64 0, .int .i64 0, .int .i64 0, .int .i64 0, .int .i64 0, .slice none 0 0])) ∧ (s 9 = true → lk L 8 = some (.pointer (some ⟨b8, 0, none⟩)) ∧ (s 11 = false → x8 = [.int .i64 0, .int .i64 0, .int .i64 0, .int .i64 0, .int .i64 0, .int .i64 0, .int .i64 0, .int .i64 0, .slice none 0 0])) ∧ (s 10 = true → x7 = btl b (b.sl a1 c1)) ∧ (s 11 = true → x8 = btl b (b.sl a2 c2)) ∧ (s 12 = true → lk L 9 = some (.slice d1 p1.length e1)) ∧ (s 13 = true → lk L 10 = some (.slice d2 p2.length e2)) ∧ ∀ w, St H1 R1 w → St ((bif s 9 then [(b8, cel 33 x8)] else []) ++ ((bif s 8 then [(b7, cel 25 x7)] else []) ++ ((b3, cel 25 (btl b (b.sl ab cb))) :: H))) R1 w) ?_ ?_ ?_
 exact ⟨none, 0, none, 0, [], none, 0, [], none, 0, 0, [], 0, [], (by repeat' first | exact Sub.nil | apply Sub.cons | rfl | (simp [lk]; omega)), fun _ hf => hf, (fun h => by cases (show false = true from h)), (fun h => by cases (show false = true from h)), (fun h => by cases (show false = true from h)), (fun h => by cases (show false = true from h)), (fun h => by cases (show false = true from h)), (fun h => by cases (show false = true from h)), (fun h => by cases (show false = true from h)), (fun h => by cases (show false = true from h)), (fun h => by cases (show false = true from h)), (fun h => by cases (show false = true from h)), (fun h => by cases (show false = true from h)), (fun h => by cases (show false = true from h)), (fun h => by cases (show false = true from h)), (fun h => by cases (show false = true from h)), fun w h => h⟩
 refine ⟨?_, ?_, ?_, ?_, ?_, ?_, ?_, ?_, ?_, ?_, ?_, ?_, ?_, ?_, trivial⟩
 intro s Lz Hz Rz hdn hs hpre hI K hK
 obtain ⟨a1, c1, a2, c2, p1, d1, e1, p2, d2, e2, b7, x7, b8, x8, hL0, hR0, q0, q1, q2, q3, q4, q5, q6, q7, q8, q9, q10, q11, q12, q13, hH⟩ := hI
 refine Sy.heap hH ?_
 refine spL rfl (Sub.lk hL0 _ _ rfl) ((lhA (btl b (b.sl ab cb)) ag25 rfl rfl rfl)) rfl ?_
 exact hK _ _ _ ⟨a1, c1, a2, c2, p1, d1, e1, p2, d2, e2, b7, x7, b8, x8, sub_more rfl hL0, hR0, fun _ => lk_same, fun h => ⟨lk_more rfl (q1 h).1, (q1 h).2⟩, fun h => lk_more rfl (q2 h), fun h => ⟨lk_more rfl (q3 h).1, (q3 h).2⟩, fun h => lk_more rfl (q4 h), fun h => ⟨lk_more rfl (q5 h).1, (q5 h).2.1, (q5 h).2.2.1, (q5 h).2.2.2⟩, fun h => lk_more rfl (q6 h), fun h => ⟨lk_more rfl (q7 h).1, (q7 h).2.1, (q7 h).2.2.1, (q7 h).2.2.2⟩, fun h => ⟨lk_more rfl (q8 h).1, (q8 h).2⟩, fun h => ⟨lk_more rfl (q9 h).1, (q9 h).2⟩, fun h => q10 h, fun h => q11 h, fun h => lk_more rfl (q12 h), fun h => lk_more rfl (q13 h), fun w h => h⟩
 intro s Lz Hz Rz hdn hs hpre hI K hK
 obtain ⟨a1, c1, a2, c2, p1, d1, e1, p2, d2, e2, b7, x7, b8, x8, hL0, hR0, q0, q1, q2, q3, q4, q5, q6, q7, q8, q9, q10, q11, q12, q13, hH⟩ := hI
 have h0 : s 0 = true := hpre 0 rfl
 refine Sy.heap hH ?_
 haveI m0 : MemRows ab 4 (brows b.bins) Rz := ⟨hR0 _ (inferInstance : MemRows ab 4 (brows b.bins) (R)).mem⟩
 refine cl rfl cal19 rfl (by simp only [evs, show ev Lz (.tmp 30) = _ from (q0 h0)]) (c_OwnF b ab cb (by omega) _ _) ?_
 rintro _ _ R1 ⟨a1, c1, rfl, rfl, hR1⟩
 obtain rfl := hR1.symm
 clear hR1
 exact hK _ _ _ ⟨a1, c1, a2, c2, p1, d1, e1, p2, d2, e2, b7, x7, b8, x8, sub_more rfl hL0, fin_more (hR0), fun h => lk_more rfl (q0 h), fun _ => ⟨lk_same, (by simp)⟩, fun h => lk_more rfl (q2 h), fun h => ⟨lk_more rfl (q3 h).1, List.mem_cons_of_mem _ ((q3 h).2)⟩, fun h => lk_more rfl (q4 h), fun h => ⟨lk_more rfl (q5 h).1, List.mem_cons_of_mem _ ((q5 h).2.1), List.mem_cons_of_mem _ ((q5 h).2.2.1), (q5 h).2.2.2⟩, fun h => lk_more rfl (q6 h), fun h => ⟨lk_more rfl (q7 h).1, List.mem_cons_of_mem _ ((q7 h).2.1), List.mem_cons_of_mem _ ((q7 h).2.2.1), (q7 h).2.2.2⟩, fun h => ⟨lk_more rfl (q8 h).1, (q8 h).2⟩, fun h => ⟨lk_more rfl (q9 h).1, (q9 h).2⟩, fun h => absurd (hdn 10 1 (Nat.le_of_ble_eq_true rfl) rfl h) (by rw [hs]; exact Bool.false_ne_true), fun h => q11 h, fun h => lk_more rfl (q12 h), fun h => lk_more rfl (q13 h), fun w h => h⟩
 intro s Lz Hz Rz hdn hs hpre hI K hK
 obtain ⟨a1, c1, a2, c2, p1, d1, e1, p2, d2, e2, b7, x7, b8, x8, hL0, hR0, q0, q1, q2, q3, q4, q5, q6, q7, q8, q9, q10, q11, q12, q13, hH⟩ := hI
 refine Sy.heap hH ?_
 refine spL rfl (Sub.lk hL0 _ _ rfl) ((lhA (btl b (b.sl ab cb)) ag25 rfl rfl rfl)) rfl ?_
 exact hK _ _ _ ⟨a1, c1, a2, c2, p1, d1, e1, p2, d2, e2, b7, x7, b8, x8, sub_more rfl hL0, hR0, fun h => lk_more rfl (q0 h), fun h => ⟨lk_more rfl (q1 h).1, (q1 h).2⟩, fun _ => lk_same, fun h => ⟨lk_more rfl (q3 h).1, (q3 h).2⟩, fun h => lk_more rfl (q4 h), fun h => ⟨lk_more rfl (q5 h).1, (q5 h).2.1, (q5 h).2.2.1, (q5 h).2.2.2⟩, fun h => lk_more rfl (q6 h), fun h => ⟨lk_more rfl (q7 h).1, (q7 h).2.1, (q7 h).2.2.1, (q7 h).2.2.2⟩, fun h => ⟨lk_more rfl (q8 h).1, (q8 h).2⟩, fun h => ⟨lk_more rfl (q9 h).1, (q9 h).2⟩, fun h => q10 h, fun h => q11 h, fun h => lk_more rfl (q12 h), fun h => lk_more rfl (q13 h), fun w h => h⟩
 intro s Lz Hz Rz hdn hs hpre hI K hK
 obtain ⟨a1, c1, a2, c2, p1, d1, e1, p2, d2, e2, b7, x7, b8, x8, hL0, hR0, q0, q1, q2, q3, q4, q5, q6, q7, q8, q9, q10, q11, q12, q13, hH⟩ := hI
 obtain ⟨h0, h1, h2⟩ : s 0 = true ∧ s 1 = true ∧ s 2 = true := ⟨hpre 0 rfl, hpre 1 rfl, hpre 2 rfl⟩
 refine Sy.heap hH ?_
 haveI m0 : MemRows ab 4 (brows b.bins) Rz := ⟨hR0 _ (inferInstance : MemRows ab 4 (brows b.bins) (R)).mem⟩
 refine cl rfl cal20 rfl (by simp only [evs, show ev Lz (.tmp 32) = _ from (q2 h2)]) (c_theirs b ab cb (by omega) _ _) ?_
 rintro _ _ R1 ⟨a2, c2, rfl, rfl, hR1⟩
 obtain rfl := hR1.symm
 clear hR1
 exact hK _ _ _ ⟨a1, c1, a2, c2, p1, d1, e1, p2, d2, e2, b7, x7, b8, x8, sub_more rfl hL0, fin_more (hR0), fun h => lk_more rfl (q0 h), fun h => ⟨lk_more rfl (q1 h).1, List.mem_cons_of_mem _ ((q1 h).2)⟩, fun h => lk_more rfl (q2 h), fun _ => ⟨lk_same, (by simp)⟩, fun h => lk_more rfl (q4 h), fun h => ⟨lk_more rfl (q5 h).1, List.mem_cons_of_mem _ ((q5 h).2.1), List.mem_cons_of_mem _ ((q5 h).2.2.1), (q5 h).2.2.2⟩, fun h => lk_more rfl (q6 h), fun h => ⟨lk_more rfl (q7 h).1, List.mem_cons_of_mem _ ((q7 h).2.1), List.mem_cons_of_mem _ ((q7 h).2.2.1), (q7 h).2.2.2⟩, fun h => ⟨lk_more rfl (q8 h).1, (q8 h).2⟩, fun h => ⟨lk_more rfl (q9 h).1, (q9 h).2⟩, fun h => q10 h, fun h => absurd (hdn 11 3 (Nat.le_of_ble_eq_true rfl) rfl h) (by rw [hs]; exact Bool.false_ne_true), fun h => lk_more rfl (q12 h), fun h => lk_more rfl (q13 h), fun w h => h⟩
 intro s Lz Hz Rz hdn hs hpre hI K hK
 obtain ⟨a1, c1, a2, c2, p1, d1, e1, p2, d2, e2, b7, x7, b8, x8, hL0, hR0, q0, q1, q2, q3, q4, q5, q6, q7, q8, q9, q10, q11, q12, q13, hH⟩ := hI
 refine Sy.heap hH ?_
 refine sp rfl (PE.move (Sub.lk hL0 _ _ rfl)) rfl ?_
 exact hK _ _ _ ⟨a1, c1, a2, c2, p1, d1, e1, p2, d2, e2, b7, x7, b8, x8, sub_more rfl hL0, hR0, fun h => lk_more rfl (q0 h), fun h => ⟨lk_more rfl (q1 h).1, (q1 h).2⟩, fun h => lk_more rfl (q2 h), fun h => ⟨lk_more rfl (q3 h).1, (q3 h).2⟩, fun _ => lk_same, fun h => ⟨lk_more rfl (q5 h).1, (q5 h).2.1, (q5 h).2.2.1, (q5 h).2.2.2⟩, fun h => lk_more rfl (q6 h), fun h => ⟨lk_more rfl (q7 h).1, (q7 h).2.1, (q7 h).2.2.1, (q7 h).2.2.2⟩, fun h => ⟨lk_more rfl (q8 h).1, (q8 h).2⟩, fun h => ⟨lk_more rfl (q9 h).1, (q9 h).2⟩, fun h => q10 h, fun h => q11 h, fun h => lk_more rfl (q12 h), fun h => lk_more rfl (q13 h), fun w h => h⟩
 intro s Lz Hz Rz hdn hs hpre hI K hK
 obtain ⟨a1, c1, a2, c2, p1, d1, e1, p2, d2, e2, b7, x7, b8, x8, hL0, hR0, q0, q1, q2, q3, q4, q5, q6, q7, q8, q9, q10, q11, q12, q13, hH⟩ := hI
 obtain ⟨h0, h1, h2, h3, h4⟩ : s 0 = true ∧ s 1 = true ∧ s 2 = true ∧ s 3 = true ∧ s 4 = true := ⟨hpre 0 rfl, hpre 1 rfl, hpre 2 rfl, hpre 3 rfl, hpre 4 rfl⟩
 refine Sy.heap hH ?_
 haveI m0 : MemRows ap 1 (plrows pl) Rz := ⟨hR0 _ (inferInstance : MemRows ap 1 (plrows pl) (R)).mem⟩
 haveI m1 : MemF (Inn pl) Rz := ⟨hR0 _ (inferInstance : MemF (Inn pl) (R)).mem⟩
 refine cl rfl cal21 rfl (by simp only [evs, show ev Lz (.tmp 34) = _ from (q4 h4)]) (c_DupRows pl ap cp (by omega) (fun x hx => by have := hpe8 x hx; omega) _ _) ?_
 rintro _ _ R1 ⟨p1, d1, e1, hq1, rfl, rfl, hR1⟩
 obtain rfl := hR1.symm
 clear hR1
 exact hK _ _ _ ⟨a1, c1, a2, c2, p1, d1, e1, p2, d2, e2, b7, x7, b8, x8, sub_more rfl hL0, fin_more (fin_more (hR0)), fun h => lk_more rfl (q0 h), fun h => ⟨lk_more rfl (q1 h).1, List.mem_cons_of_mem _ (List.mem_cons_of_mem _ ((q1 h).2))⟩, fun h => lk_more rfl (q2 h), fun h => ⟨lk_more rfl (q3 h).1, List.mem_cons_of_mem _ (List.mem_cons_of_mem _ ((q3 h).2))⟩, fun h => lk_more rfl (q4 h), fun _ => ⟨lk_same, (by simp), (by simp), hq1⟩, fun h => lk_more rfl (q6 h), fun h => ⟨lk_more rfl (q7 h).1, List.mem_cons_of_mem _ (List.mem_cons_of_mem _ ((q7 h).2.1)), List.mem_cons_of_mem _ (List.mem_cons_of_mem _ ((q7 h).2.2.1)), (q7 h).2.2.2⟩, fun h => ⟨lk_more rfl (q8 h).1, (q8 h).2⟩, fun h => ⟨lk_more rfl (q9 h).1, (q9 h).2⟩, fun h => q10 h, fun h => q11 h, fun h => absurd (hdn 12 5 (Nat.le_of_ble_eq_true rfl) rfl h) (by rw [hs]; exact Bool.false_ne_true), fun h => lk_more rfl (q13 h), fun w h => h⟩
 intro s Lz Hz Rz hdn hs hpre hI K hK
 obtain ⟨a1, c1, a2, c2, p1, d1, e1, p2, d2, e2, b7, x7, b8, x8, hL0, hR0, q0, q1, q2, q3, q4, q5, q6, q7, q8, q9, q10, q11, q12, q13, hH⟩ := hI
 refine Sy.heap hH ?_
 refine sp rfl (PE.move (Sub.lk hL0 _ _ rfl)) rfl ?_
 exact hK _ _ _ ⟨a1, c1, a2, c2, p1, d1, e1, p2, d2, e2, b7, x7, b8, x8, sub_more rfl hL0, hR0, fun h => lk_more rfl (q0 h), fun h => ⟨lk_more rfl (q1 h).1, (q1 h).2⟩, fun h => lk_more rfl (q2 h), fun h => ⟨lk_more rfl (q3 h).1, (q3 h).2⟩, fun h => lk_more rfl (q4 h), fun h => ⟨lk_more rfl (q5 h).1, (q5 h).2.1, (q5 h).2.2.1, (q5 h).2.2.2⟩, fun _ => lk_same, fun h => ⟨lk_more rfl (q7 h).1, (q7 h).2.1, (q7 h).2.2.1, (q7 h).2.2.2⟩, fun h => ⟨lk_more rfl (q8 h).1, (q8 h).2⟩, fun h => ⟨lk_more rfl (q9 h).1, (q9 h).2⟩, fun h => q10 h, fun h => q11 h, fun h => lk_more rfl (q12 h), fun h => lk_more rfl (q13 h), fun w h => h⟩
 intro s Lz Hz Rz hdn hs hpre hI K hK
 obtain ⟨a1, c1, a2, c2, p1, d1, e1, p2, d2, e2, b7, x7, b8, x8, hL0, hR0, q0, q1, q2, q3, q4, q5, q6, q7, q8, q9, q10, q11, q12, q13, hH⟩ := hI
 obtain ⟨h0, h1, h2, h3, h4, h5, h6⟩ : s 0 = true ∧ s 1 = true ∧ s 2 = true ∧ s 3 = true ∧ s 4 = true ∧ s 5 = true ∧ s 6 = true := ⟨hpre 0 rfl, hpre 1 rfl, hpre 2 rfl, hpre 3 rfl, hpre 4 rfl, hpre 5 rfl, hpre 6 rfl⟩
 refine Sy.heap hH ?_
 haveI m0 : MemRows aq 1 (plrows ql) Rz := ⟨hR0 _ (inferInstance : MemRows aq 1 (plrows ql) (R)).mem⟩
 haveI m1 : MemF (Inn ql) Rz := ⟨hR0 _ (inferInstance : MemF (Inn ql) (R)).mem⟩
 refine cl rfl cal21 rfl (by simp only [evs, show ev Lz (.tmp 36) = _ from (q6 h6)]) (c_DupRows ql aq cq (by omega) (fun x hx => by have := hqe8 x hx; omega) _ _) ?_
 rintro _ _ R1 ⟨p2, d2, e2, hq2, rfl, rfl, hR1⟩
 obtain rfl := hR1.symm
 clear hR1
 exact hK _ _ _ ⟨a1, c1, a2, c2, p1, d1, e1, p2, d2, e2, b7, x7, b8, x8, sub_more rfl hL0, fin_more (fin_more (hR0)), fun h => lk_more rfl (q0 h), fun h => ⟨lk_more rfl (q1 h).1, List.mem_cons_of_mem _ (List.mem_cons_of_mem _ ((q1 h).2))⟩, fun h => lk_more rfl (q2 h), fun h => ⟨lk_more rfl (q3 h).1, List.mem_cons_of_mem _ (List.mem_cons_of_mem _ ((q3 h).2))⟩, fun h => lk_more rfl (q4 h), fun h => ⟨lk_more rfl (q5 h).1, List.mem_cons_of_mem _ (List.mem_cons_of_mem _ ((q5 h).2.1)), List.mem_cons_of_mem _ (List.mem_cons_of_mem _ ((q5 h).2.2.1)), (q5 h).2.2.2⟩, fun h => lk_more rfl (q6 h), fun _ => ⟨lk_same, (by simp), (by simp), hq2⟩, fun h => ⟨lk_more rfl (q8 h).1, (q8 h).2⟩, fun h => ⟨lk_more rfl (q9 h).1, (q9 h).2⟩, fun h => q10 h, fun h => q11 h, fun h => lk_more rfl (q12 h), fun h => absurd (hdn 13 7 (Nat.le_of_ble_eq_true rfl) rfl h) (by rw [hs]; exact Bool.false_ne_true), fun w h => h⟩
 intro s Lz Hz Rz hdn hs hpre hI K hK
 obtain ⟨a1, c1, a2, c2, p1, d1, e1, p2, d2, e2, b7, x7, b8, x8, hL0, hR0, q0, q1, q2, q3, q4, q5, q6, q7, q8, q9, q10, q11, q12, q13, hH⟩ := hI
 refine Sy.heap hH ?_
 refine alc rfl zl25 rfl (fun b7 => ?_)
 exact hK _ _ _ ⟨a1, c1, a2, c2, p1, d1, e1, p2, d2, e2, b7, [.int .i64 0, .int .i64 0, .int .i64 0, .int .i64 0, .int .i64 0, .int .i64 0, .int .i64 0, .int .i64 0, .slice none 0 0], b8, x8, sub_more rfl hL0, hR0, fun h => lk_more rfl (q0 h), fun h => ⟨lk_more rfl (q1 h).1, (q1 h).2⟩, fun h => lk_more rfl (q2 h), fun h => ⟨lk_more rfl (q3 h).1, (q3 h).2⟩, fun h => lk_more rfl (q4 h), fun h => ⟨lk_more rfl (q5 h).1, (q5 h).2.1, (q5 h).2.2.1, (q5 h).2.2.2⟩, fun h => lk_more rfl (q6 h), fun h => ⟨lk_more rfl (q7 h).1, (q7 h).2.1, (q7 h).2.2.1, (q7 h).2.2.2⟩, fun _ => ⟨lk_same, fun _ => rfl⟩, fun h => ⟨lk_more rfl (q9 h).1, (q9 h).2⟩, fun h => absurd (hdn 10 8 (Nat.le_of_ble_eq_true rfl) rfl h) (by rw [hs]; exact Bool.false_ne_true), fun h => q11 h, fun h => lk_more rfl (q12 h), fun h => lk_more rfl (q13 h), fun w h => by rw [hs] at h; exact h.perm (List.perm_middle.symm.trans (List.Perm.append_left _ (.refl _)))⟩
 intro s Lz Hz Rz hdn hs hpre hI K hK
 obtain ⟨a1, c1, a2, c2, p1, d1, e1, p2, d2, e2, b7, x7, b8, x8, hL0, hR0, q0, q1, q2, q3, q4, q5, q6, q7, q8, q9, q10, q11, q12, q13, hH⟩ := hI
 refine Sy.heap hH ?_
 refine alc rfl zl33 rfl (fun b8 => ?_)
 exact hK _ _ _ ⟨a1, c1, a2, c2, p1, d1, e1, p2, d2, e2, b7, x7, b8, [.int .i64 0, .int .i64 0, .int .i64 0, .int .i64 0, .int .i64 0, .int .i64 0, .int .i64 0, .int .i64 0, .slice none 0 0], sub_more rfl hL0, hR0, fun h => lk_more rfl (q0 h), fun h => ⟨lk_more rfl (q1 h).1, (q1 h).2⟩, fun h => lk_more rfl (q2 h), fun h => ⟨lk_more rfl (q3 h).1, (q3 h).2⟩, fun h => lk_more rfl (q4 h), fun h => ⟨lk_more rfl (q5 h).1, (q5 h).2.1, (q5 h).2.2.1, (q5 h).2.2.2⟩, fun h => lk_more rfl (q6 h), fun h => ⟨lk_more rfl (q7 h).1, (q7 h).2.1, (q7 h).2.2.1, (q7 h).2.2.2⟩, fun h => ⟨lk_more rfl (q8 h).1, (q8 h).2⟩, fun _ => ⟨lk_same, fun _ => rfl⟩, fun h => q10 h, fun h => absurd (hdn 11 9 (Nat.le_of_ble_eq_true rfl) rfl h) (by rw [hs]; exact Bool.false_ne_true), fun h => lk_more rfl (q12 h), fun h => lk_more rfl (q13 h), fun w h => by rw [hs] at h; exact h.perm (.refl _)⟩
 intro s Lz Hz Rz hdn hs hpre hI K hK
 obtain ⟨a1, c1, a2, c2, p1, d1, e1, p2, d2, e2, b7, x7, b8, x8, hL0, hR0, q0, q1, q2, q3, q4, q5, q6, q7, q8, q9, q10, q11, q12, q13, hH⟩ := hI
 obtain ⟨h0, h1, h2, h3, h4, h5, h6, h7, h8, h9⟩ : s 0 = true ∧ s 1 = true ∧ s 2 = true ∧ s 3 = true ∧ s 4 = true ∧ s 5 = true ∧ s 6 = true ∧ s 7 = true ∧ s 8 = true ∧ s 9 = true := ⟨hpre 0 rfl, hpre 1 rfl, hpre 2 rfl, hpre 3 rfl, hpre 4 rfl, hpre 5 rfl, hpre 6 rfl, hpre 7 rfl, hpre 8 rfl, hpre 9 rfl⟩
 refine Sy.heap hH ?_
 obtain rfl := (q8 h8).2 hs
 refine Sy.heap (H' := (bif s 9 then [(b8, cel 33 x8)] else []) ++ ((b7, cel 25 [.int .i64 0, .int .i64 0, .int .i64 0, .int .i64 0, .int .i64 0, .int .i64 0, .int .i64 0, .int .i64 0, .slice none 0 0]) :: ((b3, cel 25 (btl b (b.sl ab cb))) :: H))) (fun w h => by rw [h8] at h; exact h) ?_
 refine stoE (l' := btl b (b.sl a1 c1)) rfl (q8 h8).1 (q1 h1).1 cn25 rfl rfl rfl rfl (Nat.le_refl _) ?_
 exact hK _ _ _ ⟨a1, c1, a2, c2, p1, d1, e1, p2, d2, e2, b7, btl b (b.sl a1 c1), b8, x8, hL0, hR0, fun h => (q0 h), fun h => ⟨(q1 h).1, (q1 h).2⟩, fun h => (q2 h), fun h => ⟨(q3 h).1, (q3 h).2⟩, fun h => (q4 h), fun h => ⟨(q5 h).1, (q5 h).2.1, (q5 h).2.2.1, (q5 h).2.2.2⟩, fun h => (q6 h), fun h => ⟨(q7 h).1, (q7 h).2.1, (q7 h).2.2.1, (q7 h).2.2.2⟩, fun h => ⟨(q8 h).1, fun h => by cases (show true = false from h)⟩, fun h => ⟨(q9 h).1, (q9 h).2⟩, fun _ => rfl, fun h => q11 h, fun h => (q12 h), fun h => (q13 h), fun w h => by show St ((bif s 9 then [(b8, cel 33 x8)] else []) ++ ((bif s 8 then [(b7, cel 25 (btl b (b.sl a1 c1)))] else []) ++ ((b3, cel 25 (btl b (b.sl ab cb))) :: H))) Rz w; rw [h8]; exact h⟩
 intro s Lz Hz Rz hdn hs hpre hI K hK
 obtain ⟨a1, c1, a2, c2, p1, d1, e1, p2, d2, e2, b7, x7, b8, x8, hL0, hR0, q0, q1, q2, q3, q4, q5, q6, q7, q8, q9, q10, q11, q12, q13, hH⟩ := hI
 obtain ⟨h0, h1, h2, h3, h4, h5, h6, h7, h8, h9, h10⟩ : s 0 = true ∧ s 1 = true ∧ s 2 = true ∧ s 3 = true ∧ s 4 = true ∧ s 5 = true ∧ s 6 = true ∧ s 7 = true ∧ s 8 = true ∧ s 9 = true ∧ s 10 = true := ⟨hpre 0 rfl, hpre 1 rfl, hpre 2 rfl, hpre 3 rfl, hpre 4 rfl, hpre 5 rfl, hpre 6 rfl, hpre 7 rfl, hpre 8 rfl, hpre 9 rfl, hpre 10 rfl⟩
 refine Sy.heap hH ?_
 obtain rfl := (q9 h9).2 hs
 refine Sy.heap (H' := (b8, cel 33 [.int .i64 0, .int .i64 0, .int .i64 0, .int .i64 0, .int .i64 0, .int .i64 0, .int .i64 0, .int .i64 0, .slice none 0 0]) :: ((bif s 8 then [(b7, cel 25 x7)] else []) ++ ((b3, cel 25 (btl b (b.sl ab cb))) :: H))) (fun w h => by rw [h9] at h; exact h) ?_
 refine stoE (l' := btl b (b.sl a2 c2)) rfl (q9 h9).1 (q3 h3).1 cn33 rfl rfl rfl rfl (Nat.le_refl _) ?_
 exact hK _ _ _ ⟨a1, c1, a2, c2, p1, d1, e1, p2, d2, e2, b7, x7, b8, btl b (b.sl a2 c2), hL0, hR0, fun h => (q0 h), fun h => ⟨(q1 h).1, (q1 h).2⟩, fun h => (q2 h), fun h => ⟨(q3 h).1, (q3 h).2⟩, fun h => (q4 h), fun h => ⟨(q5 h).1, (q5 h).2.1, (q5 h).2.2.1, (q5 h).2.2.2⟩, fun h => (q6 h), fun h => ⟨(q7 h).1, (q7 h).2.1, (q7 h).2.2.1, (q7 h).2.2.2⟩, fun h => ⟨(q8 h).1, (q8 h).2⟩, fun h => ⟨(q9 h).1, fun h => by cases (show true = false from h)⟩, fun h => q10 h, fun _ => rfl, fun h => (q12 h), fun h => (q13 h), fun w h => by show St ((bif s 9 then [(b8, cel 33 (btl b (b.sl a2 c2)))] else []) ++ ((bif s 8 then [(b7, cel 25 x7)] else []) ++ ((b3, cel 25 (btl b (b.sl ab cb))) :: H))) Rz w; rw [h9]; exact h⟩
 intro s Lz Hz Rz hdn hs hpre hI K hK
 obtain ⟨a1, c1, a2, c2, p1, d1, e1, p2, d2, e2, b7, x7, b8, x8, hL0, hR0, q0, q1, q2, q3, q4, q5, q6, q7, q8, q9, q10, q11, q12, q13, hH⟩ := hI
 obtain ⟨h0, h1, h2, h3, h4, h5, h6, h7, h8, h9, h10, h11⟩ : s 0 = true ∧ s 1 = true ∧ s 2 = true ∧ s 3 = true ∧ s 4 = true ∧ s 5 = true ∧ s 6 = true ∧ s 7 = true ∧ s 8 = true ∧ s 9 = true ∧ s 10 = true ∧ s 11 = true := ⟨hpre 0 rfl, hpre 1 rfl, hpre 2 rfl, hpre 3 rfl, hpre 4 rfl, hpre 5 rfl, hpre 6 rfl, hpre 7 rfl, hpre 8 rfl, hpre 9 rfl, hpre 10 rfl, hpre 11 rfl⟩
 refine Sy.heap hH ?_
 refine sp rfl (PE.assign (q5 h5).1) rfl ?_
 exact hK _ _ _ ⟨a1, c1, a2, c2, p1, d1, e1, p2, d2, e2, b7, x7, b8, x8, sub_more rfl hL0, hR0, fun h => lk_more rfl (q0 h), fun h => ⟨lk_more rfl (q1 h).1, (q1 h).2⟩, fun h => lk_more rfl (q2 h), fun h => ⟨lk_more rfl (q3 h).1, (q3 h).2⟩, fun h => lk_more rfl (q4 h), fun h => ⟨lk_more rfl (q5 h).1, (q5 h).2.1, (q5 h).2.2.1, (q5 h).2.2.2⟩, fun h => lk_more rfl (q6 h), fun h => ⟨lk_more rfl (q7 h).1, (q7 h).2.1, (q7 h).2.2.1, (q7 h).2.2.2⟩, fun h => ⟨lk_more rfl (q8 h).1, (q8 h).2⟩, fun h => ⟨lk_more rfl (q9 h).1, (q9 h).2⟩, fun h => q10 h, fun h => q11 h, fun _ => lk_same, fun h => lk_more rfl (q13 h), fun w h => h⟩
 intro s Lz Hz Rz hdn hs hpre hI K hK
 obtain ⟨a1, c1, a2, c2, p1, d1, e1, p2, d2, e2, b7, x7, b8, x8, hL0, hR0, q0, q1, q2, q3, q4, q5, q6, q7, q8, q9, q10, q11, q12, q13, hH⟩ := hI
 obtain ⟨h0, h1, h2, h3, h4, h5, h6, h7, h8, h9, h10, h11, h12⟩ : s 0 = true ∧ s 1 = true ∧ s 2 = true ∧ s 3 = true ∧ s 4 = true ∧ s 5 = true ∧ s 6 = true ∧ s 7 = true ∧ s 8 = true ∧ s 9 = true ∧ s 10 = true ∧ s 11 = true ∧ s 12 = true := ⟨hpre 0 rfl, hpre 1 rfl, hpre 2 rfl, hpre 3 rfl, hpre 4 rfl, hpre 5 rfl, hpre 6 rfl, hpre 7 rfl, hpre 8 rfl, hpre 9 rfl, hpre 10 rfl, hpre 11 rfl, hpre 12 rfl⟩
 refine Sy.heap hH ?_
 refine sp rfl (PE.assign (q7 h7).1) rfl ?_
 exact hK _ _ _ ⟨a1, c1, a2, c2, p1, d1, e1, p2, d2, e2, b7, x7, b8, x8, sub_more rfl hL0, hR0, fun h => lk_more rfl (q0 h), fun h => ⟨lk_more rfl (q1 h).1, (q1 h).2⟩, fun h => lk_more rfl (q2 h), fun h => ⟨lk_more rfl (q3 h).1, (q3 h).2⟩, fun h => lk_more rfl (q4 h), fun h => ⟨lk_more rfl (q5 h).1, (q5 h).2.1, (q5 h).2.2.1, (q5 h).2.2.2⟩, fun h => lk_more rfl (q6 h), fun h => ⟨lk_more rfl (q7 h).1, (q7 h).2.1, (q7 h).2.2.1, (q7 h).2.2.2⟩, fun h => ⟨lk_more rfl (q8 h).1, (q8 h).2⟩, fun h => ⟨lk_more rfl (q9 h).1, (q9 h).2⟩, fun h => q10 h, fun h => q11 h, fun h => lk_more rfl (q12 h), fun _ => lk_same, fun w h => h⟩
 intro Lz Hz Rz hI
 obtain ⟨a1, c1, a2, c2, p1, d1, e1, p2, d2, e2, b7, x7, b8, x8, hL0, hR0, q0, q1, q2, q3, q4, q5, q6, q7, q8, q9, q10, q11, q12, q13, hH⟩ := hI
 obtain rfl := q11 rfl
 obtain rfl := q10 rfl
 have hq1 : lls p1 = lls pl := (q5 rfl).2.2.2
 have hq2 : lls p2 = lls ql := (q7 rfl).2.2.2
 refine Sy.weak (L' := [(8, .pointer (some ⟨b8, 0, none⟩)), (7, .pointer (some ⟨b7, 0, none⟩)), (9, .slice d1 p1.length e1), (10, .slice d2 p2.length e2), (1, .slice ap pl.length cp), (2, .slice aq ql.length cq), (3, .pointer (some ⟨b3, 0, none⟩))]) (H' := (b8, cel 33 (btl b (b.sl a2 c2))) :: (b7, cel 25 (btl b (b.sl a1 c1))) :: (b3, cel 25 (btl b (b.sl ab cb))) :: H) (R' := RowsA d2 1 (plrows p2) :: Inn p2 :: RowsA d1 1 (plrows p1) :: Inn p1 :: RowsA a2 4 (brows b.bins) :: RowsA a1 4 (brows b.bins) :: R) ?_ (Sub.cons (q9 rfl).1 (Sub.cons (q8 rfl).1 (Sub.cons (q12 rfl) (Sub.cons (q13 rfl) hL0)))).lk (fun w h => St.facts (hH w h) (fin_cons (q7 rfl).2.1 (fin_cons (q7 rfl).2.2.1 (fin_cons (q5 rfl).2.1 (fin_cons (q5 rfl).2.2.1 (fin_cons (q3 rfl).2 (fin_cons (q1 rfl).2 hR0)))))))
 refine sy_seq ?_
 refine sy_tx' [0, 1, 2] rfl ?_
 refine spL rfl rfl (lhA (btl b (b.sl a2 c2)) ag33 rfl rfl rfl) rfl ?_
 refine clV rfl cal22 rfl rfl (c_rCheck b a2 c2 hl hr _ _) ?_
 refine sp rfl (PE.assign rfl) rfl ?_
 refine sy_seq ?_
 refine sy_tx' [0, 1, 2] rfl ?_
 refine sp rfl (PE.move rfl) rfl ?_
 refine sp rfl (PE.assign rfl) rfl ?_
 refine sp rfl (PE.assign rfl) rfl ?_
 refine sy_seq ?_
 refine sy_seq ?_
 refine sy_tx' [0, 1] rfl ?_
 refine sp rfl (PE.move rfl) rfl ?_
 refine sp rfl (PE.eql rfl rfl) rfl ?_
 refine sy_join (ι := {y : Int × Int × Bool // RWant b (lls pl) (lls ql) y.1 y.2.1 y.2.2}) (fun y => ⟨[(1, .slice ap pl.length cp), (2, .slice aq ql.length cq), (3, .pointer (some ⟨b3, 0, none⟩)), (7, .pointer (some ⟨b7, 0, none⟩)), (8, .pointer (some ⟨b8, 0, none⟩)), (9, .slice d1 p1.length e1), (10, .slice d2 p2.length e2), (11, .int .i64 y.1.1), (12, .int .i64 y.1.2.1), (13, .bool y.1.2.2)], (b8, cel 33 (btl b (b.sl a2 c2))) :: (b7, cel 25 (btl b (b.sl a1 c1))) :: (b3, cel 25 (btl b (b.sl ab cb))) :: H, RowsA d2 1 (plrows p2) :: Inn p2 :: RowsA d1 1 (plrows p1) :: Inn p1 :: RowsA a2 4 (brows b.bins) :: RowsA a1 4 (brows b.bins) :: R⟩) ?_ ?_
 refine sy_cond rfl (fun hc1 => ?_) (fun hc1 => ?_)
 try simp only [decide_eq_true_eq, decide_eq_false_iff_not, Bool.and_eq_true, Bool.or_eq_true, Bool.not_eq_true', Int.not_le, Int.not_lt] at hc1
 have hck : b.check = 0 := hc1
 have hok := Barn.ok_of hr hck
 have hmn := hok.many
 have hplz : b.planned (lls pl) = planErr b.bins.length b.gangs (lls pl) := by unfold Barn.planned; rw [decide_eq_true hck]; rfl
 refine sy_seq ?_
 refine sy_seq ?_
 refine sy_tx' [0, 1, 2] rfl ?_
 refine spL rfl rfl (lhA (btl b (b.sl a2 c2)) ag33 rfl rfl rfl) rfl ?_
 refine cl rfl cal34 rfl rfl (c_rLongest b a2 c2 hok _ _) ?_
 rintro _ _ _ ⟨⟨m, hm, rfl⟩, rfl, rfl⟩
 refine sp rfl (PE.neq rfl rfl) rfl ?_
 refine sy_join (ι := {w : Int // (w = 0 ∧ Kpt b.dsk b.state 1000000) ∨ (w = 6 ∧ ∃ v, v ≠ 1000000 ∧ Kpt b.dsk b.state v)}) (fun w => ⟨[(1, .slice ap pl.length cp), (2, .slice aq ql.length cq), (3, .pointer (some ⟨b3, 0, none⟩)), (7, .pointer (some ⟨b7, 0, none⟩)), (8, .pointer (some ⟨b8, 0, none⟩)), (9, .slice d1 p1.length e1), (10, .slice d2 p2.length e2), (11, .int .i64 w.1), (13, .bool false)], (b8, cel 33 (btl b (b.sl a2 c2))) :: (b7, cel 25 (btl b (b.sl a1 c1))) :: (b3, cel 25 (btl b (b.sl ab cb))) :: H, RowsA d2 1 (plrows p2) :: Inn p2 :: RowsA d1 1 (plrows p1) :: Inn p1 :: RowsA a2 4 (brows b.bins) :: RowsA a1 4 (brows b.bins) :: R⟩) ?_ ?_
 refine sy_cond rfl (fun hc2 => ?_) (fun hc2 => ?_)
 try simp only [decide_eq_true_eq, decide_eq_false_iff_not, Bool.and_eq_true, Bool.or_eq_true, Bool.not_eq_true', Int.not_le, Int.not_lt] at hc2
 refine sy_tx' [0] rfl ?_
 refine sp rfl (PE.assign rfl) rfl ?_
 first | exact sy_jend ⟨6, .inr ⟨rfl, m, hc2, hm⟩⟩ (by repeat' first | exact Sub.nil | apply Sub.cons | rfl | (simp [lk]; omega)) (fun w h => h) | exact sy_jend ⟨0, .inl ⟨rfl, by rw [← show m = 1000000 by omega]; exact hm⟩⟩ (by rw [hck]; exact (by repeat' first | exact Sub.nil | apply Sub.cons | rfl | (simp [lk]; omega))) (fun w h => h)
 try simp only [decide_eq_true_eq, decide_eq_false_iff_not, Bool.and_eq_true, Bool.or_eq_true, Bool.not_eq_true', Int.not_le, Int.not_lt] at hc2
 refine sy_skip ?_
 first | exact sy_jend ⟨6, .inr ⟨rfl, m, hc2, hm⟩⟩ (by repeat' first | exact Sub.nil | apply Sub.cons | rfl | (simp [lk]; omega)) (fun w h => h) | exact sy_jend ⟨0, .inl ⟨rfl, by rw [← show m = 1000000 by omega]; exact hm⟩⟩ (by rw [hck]; exact (by repeat' first | exact Sub.nil | apply Sub.cons | rfl | (simp [lk]; omega))) (fun w h => h)
 rintro ⟨w, hw⟩
 have hww : (b.check ≠ 0 ∧ w = b.check) ∨ (b.check = 0 ∧ w = 0 ∧ Kpt b.dsk b.state 1000000) ∨ (b.check = 0 ∧ w = 6 ∧ ∃ v, v ≠ 1000000 ∧ Kpt b.dsk b.state v) := .inr (hw.imp (fun h => ⟨hck, h⟩) (fun h => ⟨hck, h⟩))
 refine sy_seq ?_
 refine sy_seq ?_
 refine sy_tx' [0, 1, 2, 3] rfl ?_
 refine spL rfl rfl (lhA (btl b (b.sl a2 c2)) ag33 rfl rfl rfl) rfl ?_
 refine sp rfl (PE.move rfl) rfl ?_
 refine clV rfl cal23 rfl rfl (c_rPlanned b a2 c2 hl pl ap cp hpl hpi _ _) ?_
 refine sp rfl (PE.assign rfl) rfl ?_
 refine sy_seq ?_
 refine sy_tx' [0, 1] rfl ?_
 refine sp rfl (PE.move rfl) rfl ?_
 refine sp rfl (PE.eql rfl rfl) rfl ?_
 refine sy_cond rfl (fun hc3 => ?_) (fun hc3 => ?_)
 try simp only [decide_eq_true_eq, decide_eq_false_iff_not, Bool.and_eq_true, Bool.or_eq_true, Bool.not_eq_true', Int.not_le, Int.not_lt] at hc3
 have hpe : planErr b.bins.length b.gangs (lls pl) = 0 := hc3
 refine sy_tx' [0, 1, 2, 3] rfl ?_
 refine spL rfl rfl (lhA (btl b (b.sl a2 c2)) ag33 rfl rfl rfl) rfl ?_
 refine sp rfl (PE.move rfl) rfl ?_
 refine clV rfl cal23 rfl rfl (c_rPlanned b a2 c2 hl ql aq cq hql hqi _ _) ?_
 refine sp rfl (PE.assign rfl) rfl ?_
 refine sy_seq ?_
 refine sy_seq ?_
 refine sy_tx' [0, 1, 2, 3, 4, 5, 6] rfl ?_
 refine sp rfl (PE.move rfl) rfl ?_
 refine sp rfl (PE.eql rfl rfl) rfl ?_
 refine sp rfl (PE.move rfl) rfl ?_
 refine sy_case (t := 56) rfl (fun g56 => ?_) (fun g56 => ?_)
 try simp only [decide_eq_true_eq, decide_eq_false_iff_not, Bool.and_eq_true, Bool.or_eq_true, Bool.not_eq_true', Int.not_le, Int.not_lt] at g56
 have hqe : planErr b.bins.length b.gangs (lls ql) = 0 := g56
 refine spG rfl rfl rfl rfl (PE.move rfl) rfl ?_
 refine spG rfl rfl rfl rfl (PE.lenSl isl26 rfl) rfl ?_
 refine spG rfl rfl rfl rfl (PE.eql rfl rfl) rfl ?_
 refine sp rfl (PE.pick rfl rfl rfl) rfl ?_
 refine sy_cond rfl (fun hc4 => ?_) (fun hc4 => ?_)
 try simp only [decide_eq_true_eq, decide_eq_false_iff_not, Bool.and_eq_true, Bool.or_eq_true, Bool.not_eq_true', Int.not_le, Int.not_lt] at hc4
 have hq0 : ql.length = 0 := by omega
 have ege : goesErr b (lls pl) (lls ql) = 6 := by unfold goesErr; rw [hplz, hpe, hqe, lls_len, decide_eq_true hq0]; rfl
 refine sy_tx' [0] rfl ?_
 refine sp rfl (PE.assign rfl) rfl ?_
 refine sy_seq ?_
 refine sy_tx' [0, 1] rfl ?_
 refine sp rfl (PE.move rfl) rfl ?_
 refine sp rfl (PE.eql rfl rfl) rfl ?_
 refine sy_cond rfl (fun hc5 => ?_) (fun hc5 => ?_)
 exact absurd hc5 (by decide)
 refine sy_skip ?_
 exact sy_jend ⟨(w, 6, false), ⟨ege.symm, ⟨fun h => (by cases h), fun h => absurd (ege ▸ h.1) (by decide)⟩, hww⟩⟩ (by repeat' first | exact Sub.nil | apply Sub.cons | rfl | (simp [lk]; omega)) (fun w h => h)
 try simp only [decide_eq_true_eq, decide_eq_false_iff_not, Bool.and_eq_true, Bool.or_eq_true, Bool.not_eq_true', Int.not_le, Int.not_lt] at hc4
 have hq0 : ql.length ≠ 0 := by omega
 have ege : goesErr b (lls pl) (lls ql) = 0 := by unfold goesErr; rw [hplz, hpe, hqe, lls_len, decide_eq_false hq0]; rfl
 rw [hqe]
 refine sy_skip ?_
 refine sy_seq ?_
 refine sy_tx' [0, 1] rfl ?_
 refine sp rfl (PE.move rfl) rfl ?_
 refine sp rfl (PE.eql rfl rfl) rfl ?_
 refine sy_cond rfl (fun hc5 => ?_) (fun hc5 => ?_)
 refine sy_tx' [0, 1, 2, 3, 4] rfl ?_
 refine spL rfl rfl (lhA (btl b (b.sl a2 c2)) ag33 rfl rfl rfl) rfl ?_
 refine sp rfl (PE.move rfl) rfl ?_
 refine sp rfl (PE.move rfl) rfl ?_
 refine cl rfl cal41 rfl rfl (c_rGoes b a2 c2 hok pl ap cp hpl hpi ql aq cq hql hqi (by omega) hq0 _ _) ?_
 rintro _ _ _ ⟨⟨g, hg, rfl⟩, rfl, rfl⟩
 refine sp rfl (PE.assign rfl) rfl ?_
 exact sy_jend ⟨(w, 0, g), ⟨ege.symm, ⟨fun h => ⟨ege, hg.1 h⟩, fun h => hg.2 h.2⟩, hww⟩⟩ (by repeat' first | exact Sub.nil | apply Sub.cons | rfl | (simp [lk]; omega)) (fun w h => h)
 exact absurd hc5 (by simp)
 try simp only [decide_eq_true_eq, decide_eq_false_iff_not, Bool.and_eq_true, Bool.or_eq_true, Bool.not_eq_true', Int.not_le, Int.not_lt] at g56
 have hqe : planErr b.bins.length b.gangs (lls ql) ≠ 0 := g56
 have ege : goesErr b (lls pl) (lls ql) = planErr b.bins.length b.gangs (lls ql) := by unfold goesErr; rw [hplz, hpe, decide_eq_false hqe]; rfl
 repeat refine spN rfl rfl rfl rfl rfl rfl rfl rfl ?_
 refine sp rfl (PE.pick rfl rfl rfl) rfl ?_
 refine sy_condF rfl ?_
 refine sy_skip ?_
 refine sy_seq ?_
 refine sy_tx' [0, 1] rfl ?_
 refine sp rfl (PE.move rfl) rfl ?_
 refine sp rfl (PE.eql rfl rfl) rfl ?_
 refine sy_cond rfl (fun hc5 => ?_) (fun hc5 => ?_)
 exact absurd (of_decide_eq_true hc5) hqe
 refine sy_skip ?_
 exact sy_jend ⟨(w, planErr b.bins.length b.gangs (lls ql), false), ⟨ege.symm, ⟨fun h => (by cases h), fun h => absurd (ege ▸ h.1) hqe⟩, hww⟩⟩ (by repeat' first | exact Sub.nil | apply Sub.cons | rfl | (simp [lk]; omega)) (fun w h => h)
 try simp only [decide_eq_true_eq, decide_eq_false_iff_not, Bool.and_eq_true, Bool.or_eq_true, Bool.not_eq_true', Int.not_le, Int.not_lt] at hc3
 have hpe : planErr b.bins.length b.gangs (lls pl) ≠ 0 := hc3
 have ege : goesErr b (lls pl) (lls ql) = planErr b.bins.length b.gangs (lls pl) := by unfold goesErr; rw [hplz, decide_eq_false hpe]; rfl
 refine sy_skip ?_
 refine sy_seq ?_
 refine sy_seq ?_
 refine sy_tx' [0, 1, 2, 3, 4, 5, 6] rfl ?_
 refine sp rfl (PE.move rfl) rfl ?_
 refine sp rfl (PE.eql rfl rfl) rfl ?_
 refine sp rfl (PE.move rfl) rfl ?_
 refine sy_case (t := 56) rfl (fun g56 => ?_) (fun g56 => ?_)
 exact absurd (of_decide_eq_true g56) hpe
 repeat refine spN rfl rfl rfl rfl rfl rfl rfl rfl ?_
 refine sp rfl (PE.pick rfl rfl rfl) rfl ?_
 refine sy_condF rfl ?_
 refine sy_skip ?_
 refine sy_seq ?_
 refine sy_tx' [0, 1] rfl ?_
 refine sp rfl (PE.move rfl) rfl ?_
 refine sp rfl (PE.eql rfl rfl) rfl ?_
 refine sy_cond rfl (fun hc5 => ?_) (fun hc5 => ?_)
 exact absurd (of_decide_eq_true hc5) hpe
 refine sy_skip ?_
 exact sy_jend ⟨(w, planErr b.bins.length b.gangs (lls pl), false), ⟨ege.symm, ⟨fun h => (by cases h), fun h => absurd (ege ▸ h.1) hpe⟩, hww⟩⟩ (by repeat' first | exact Sub.nil | apply Sub.cons | rfl | (simp [lk]; omega)) (fun w h => h)
 try simp only [decide_eq_true_eq, decide_eq_false_iff_not, Bool.and_eq_true, Bool.or_eq_true, Bool.not_eq_true', Int.not_le, Int.not_lt] at hc1
 have hck : b.check ≠ 0 := hc1
 have ege : goesErr b (lls pl) (lls ql) = b.check := by
   have hpn : b.planned (lls pl) = b.check := by unfold Barn.planned; rw [decide_eq_false hck]; rfl
   unfold goesErr; rw [hpn, decide_eq_false hck]; rfl
 refine sy_skip ?_
 exact sy_jend ⟨(b.check, b.check, false), ege.symm, ⟨fun h => (by cases h), fun h => absurd (ege ▸ h.1) hck⟩, .inl ⟨hck, rfl⟩⟩ (by repeat' first | exact Sub.nil | apply Sub.cons | rfl | (simp [lk]; omega)) (fun w h => h)
 rintro ⟨⟨w, u, g⟩, hw⟩
 dsimp only at hw ⊢
 refine sy_seq ?_
 refine sy_tx' [0, 1, 2, 3, 4, 5, 6, 7, 8] rfl ?_
 refine spL rfl rfl (lhA (btl b (b.sl a1 c1)) ag25 rfl rfl rfl) rfl ?_
 refine cl rfl cal42 rfl rfl (c_Round b a1 c1 hl hr _ _) ?_
 rintro _ _ R1 ⟨rfl, (⟨hck, rfl, hR1⟩ | ⟨hck, hkp, rfl, hR1⟩ | ⟨hck, hkp, p, q, pa, qa, aa, ar, ca, cr, hro, hpa, hqa, rfl, hR1⟩)⟩ <;> obtain rfl := hR1.symm <;> clear hR1
 refine sp rfl (PE.move rfl) rfl ?_
 obtain rfl := hw.w1 hck
 refine sp rfl (PE.extract rfl rfl) rfl ?_
 refine sp rfl (PE.extract rfl rfl) rfl ?_
 refine sp rfl (PE.extract rfl rfl) rfl ?_
 refine sp rfl (PE.assign rfl) rfl ?_
 refine sp rfl (PE.assign rfl) rfl ?_
 refine sp rfl (PE.assign rfl) rfl ?_
 refine sy_seq ?_
 refine sy_tx' [0, 1, 2, 3, 4, 5, 6, 7, 8] rfl ?_
 refine spL rfl rfl (lhA (btl b (b.sl a1 c1)) ag25 rfl rfl rfl) rfl ?_
 refine sp rfl (PE.move rfl) rfl ?_
 refine sp rfl (PE.move rfl) rfl ?_
 refine clV rfl cal43 rfl rfl (c_GoesV b a1 c1 hl hr pl ap cp hpl hpi ql aq cq hql hqi hw hq1 hq2 d1 e1 d2 e2 _ _) ?_
 refine sp rfl (PE.move rfl) rfl ?_
 refine sp rfl (PE.extract rfl rfl) rfl ?_
 refine sp rfl (PE.extract rfl rfl) rfl ?_
 refine sp rfl (PE.assign rfl) rfl ?_
 refine sp rfl (PE.assign rfl) rfl ?_
 refine sy_seq ?_
 refine sy_seq ?_
 refine sy_tx' [0, 1, 2, 3, 4, 5, 6, 7, 8, 9, 10, 11, 12] rfl ?_
 refine sp rfl (PE.move rfl) rfl ?_
 refine sp rfl (PE.move rfl) rfl ?_
 refine sp rfl (PE.neq rfl rfl) rfl ?_
 refine sp rfl (PE.move rfl) rfl ?_
 refine sy_case (t := 83) rfl (fun g83 => ?_) (fun g83 => ?_)
 exact absurd g83 (by simp)
 refine spG rfl rfl rfl rfl (PE.move rfl) rfl ?_
 refine spG rfl rfl rfl rfl (PE.move rfl) rfl ?_
 refine spG rfl rfl rfl rfl (PE.neq rfl rfl) rfl ?_
 refine sp rfl (PE.pick rfl rfl rfl) rfl ?_
 refine sp rfl (PE.move rfl) rfl ?_
 refine sy_case (t := 88) rfl (fun g88 => ?_) (fun g88 => ?_)
 exact absurd g88 (by simp)
 refine spG rfl rfl rfl rfl (PE.move rfl) rfl ?_
 refine spG rfl rfl rfl rfl (PE.move rfl) rfl ?_
 refine spG rfl rfl rfl rfl (PE.neqBool ub4 rfl rfl) rfl ?_
 refine sp rfl (PE.pick rfl rfl rfl) rfl ?_
 refine sy_cond rfl (fun hc6 => ?_) (fun hc6 => ?_)
 exact absurd hc6 (by simp)
 refine sy_skip ?_
 refine sy_seq ?_
 refine sy_seq ?_
 refine sy_tx' [0, 1, 2, 3, 4, 5, 6, 7, 8, 9] rfl ?_
 refine sp rfl (PE.move rfl) rfl ?_
 refine sp rfl (PE.neq rfl rfl) rfl ?_
 refine sp rfl (PE.move rfl) rfl ?_
 refine sy_case (t := 95) rfl (fun g95 => ?_) (fun g95 => ?_)
 refine spG rfl rfl rfl rfl (PE.move rfl) rfl ?_
 refine spG rfl rfl rfl rfl (PE.lenSl isl26 rfl) rfl ?_
 refine spG rfl rfl rfl rfl (PE.move rfl) rfl ?_
 refine spG rfl rfl rfl rfl (PE.lenSl isl26 rfl) rfl ?_
 refine spG rfl rfl rfl rfl (PE.add rfl rfl (by omega)) rfl ?_
 refine spG rfl rfl rfl rfl (PE.gtr rfl rfl) rfl ?_
 refine sp rfl (PE.pick rfl rfl rfl) rfl ?_
 refine sy_cond rfl (fun hc7 => ?_) (fun hc7 => ?_)
 exact absurd hc7 (by simp)
 refine sy_skip ?_
 refine sy_seq ?_
 refine sy_seq ?_
 refine sy_tx' [0, 1] rfl ?_
 refine sp rfl (PE.move rfl) rfl ?_
 refine sp rfl (PE.eql rfl rfl) rfl ?_
 refine sy_cond rfl (fun hc8 => ?_) (fun hc8 => ?_)
 exact absurd (of_decide_eq_true hc8) hck
 refine sy_skip ?_
 refine sy_seq ?_
 refine sy_tx' [0, 1, 2, 3, 4, 5, 6, 7, 8, 9, 10, 11, 12, 13, 14, 15, 16] rfl ?_
 refine spL rfl rfl (lhA (btl b (b.sl a1 c1)) ag25 rfl rfl rfl) rfl ?_
 refine spL rfl rfl (lhA (btl b (b.sl ab cb)) ag25 rfl rfl rfl) rfl ?_
 refine clV rfl cal31 rfl rfl (c_same b a1 c1 b ab cb hl hl hr hr _ _) ?_
 refine sp rfl (PE.move rfl) rfl ?_
 refine sy_case (t := 138) rfl (fun g138 => ?_) (fun g138 => ?_)
 refine spG rfl rfl rfl rfl (PE.move rfl) rfl ?_
 refine spG rfl rfl rfl rfl (PE.move rfl) rfl ?_
 refine clVG rfl rfl rfl rfl cal32 rfl rfl (c_EqRows p1 d1 e1 (by have := congrArg List.length hq1; rw [lls_len, lls_len] at this; omega) (lls_big hq1 hpi) pl ap cp hpl hpi _ _) ?_
 refine sp rfl (PE.pick rfl rfl rfl) rfl ?_
 refine sp rfl (PE.move rfl) rfl ?_
 refine sy_case (t := 143) rfl (fun g143 => ?_) (fun g143 => ?_)
 refine spG rfl rfl rfl rfl (PE.move rfl) rfl ?_
 refine spG rfl rfl rfl rfl (PE.move rfl) rfl ?_
 refine clVG rfl rfl rfl rfl cal32 rfl rfl (c_EqRows p2 d2 e2 (by have := congrArg List.length hq2; rw [lls_len, lls_len] at this; omega) (lls_big hq2 hqi) ql aq cq hql hqi _ _) ?_
 refine sp rfl (PE.pick rfl rfl rfl) rfl ?_
 refine sp rfl (PE.move rfl) rfl ?_
 refine sy_case (t := 148) rfl (fun g148 => ?_) (fun g148 => ?_)
 refine clVG rfl rfl rfl rfl cal18 rfl rfl (c_awake _ _) ?_
 refine sp rfl (PE.pick rfl rfl rfl) rfl ?_
 refine sp rfl (PE.assign rfl) rfl ?_
 refine sy_ret ?_
 exact sy_return (vs := [_]) rfl (.cons (RV.tmp rfl) .nil) rfl ⟨rfl, rfl, rfl⟩ (fun w h => by first | exact (((h.del b8).del b7).del b3).facts (fun g hg => by simp [hg]) | exact h.del b3)
 exact absurd hq2 (of_decide_eq_false g148)
 exact absurd hq1 (of_decide_eq_false g143)
 rw [sameB_iff.2 rfl] at g138; exact absurd g138 (by decide)
 exact absurd hck (by simpa using g95)
 refine sp rfl (PE.move rfl) rfl ?_
 obtain rfl := hw.w2 hck hkp
 refine sp rfl (PE.extract rfl rfl) rfl ?_
 refine sp rfl (PE.extract rfl rfl) rfl ?_
 refine sp rfl (PE.extract rfl rfl) rfl ?_
 refine sp rfl (PE.assign rfl) rfl ?_
 refine sp rfl (PE.assign rfl) rfl ?_
 refine sp rfl (PE.assign rfl) rfl ?_
 refine sy_seq ?_
 refine sy_tx' [0, 1, 2, 3, 4, 5, 6, 7, 8] rfl ?_
 refine spL rfl rfl (lhA (btl b (b.sl a1 c1)) ag25 rfl rfl rfl) rfl ?_
 refine sp rfl (PE.move rfl) rfl ?_
 refine sp rfl (PE.move rfl) rfl ?_
 refine clV rfl cal43 rfl rfl (c_GoesV b a1 c1 hl hr pl ap cp hpl hpi ql aq cq hql hqi hw hq1 hq2 d1 e1 d2 e2 _ _) ?_
 refine sp rfl (PE.move rfl) rfl ?_
 refine sp rfl (PE.extract rfl rfl) rfl ?_
 refine sp rfl (PE.extract rfl rfl) rfl ?_
 refine sp rfl (PE.assign rfl) rfl ?_
 refine sp rfl (PE.assign rfl) rfl ?_
 refine sy_seq ?_
 refine sy_seq ?_
 refine sy_tx' [0, 1, 2, 3, 4, 5, 6, 7, 8, 9, 10, 11, 12] rfl ?_
 refine sp rfl (PE.move rfl) rfl ?_
 refine sp rfl (PE.move rfl) rfl ?_
 refine sp rfl (PE.neq rfl rfl) rfl ?_
 refine sp rfl (PE.move rfl) rfl ?_
 refine sy_case (t := 83) rfl (fun g83 => ?_) (fun g83 => ?_)
 exact absurd g83 (by simp)
 refine spG rfl rfl rfl rfl (PE.move rfl) rfl ?_
 refine spG rfl rfl rfl rfl (PE.move rfl) rfl ?_
 refine spG rfl rfl rfl rfl (PE.neq rfl rfl) rfl ?_
 refine sp rfl (PE.pick rfl rfl rfl) rfl ?_
 refine sp rfl (PE.move rfl) rfl ?_
 refine sy_case (t := 88) rfl (fun g88 => ?_) (fun g88 => ?_)
 exact absurd g88 (by simp)
 refine spG rfl rfl rfl rfl (PE.move rfl) rfl ?_
 refine spG rfl rfl rfl rfl (PE.move rfl) rfl ?_
 refine spG rfl rfl rfl rfl (PE.neqBool ub4 rfl rfl) rfl ?_
 refine sp rfl (PE.pick rfl rfl rfl) rfl ?_
 refine sy_cond rfl (fun hc6 => ?_) (fun hc6 => ?_)
 exact absurd hc6 (by simp)
 refine sy_skip ?_
 refine sy_seq ?_
 refine sy_seq ?_
 refine sy_tx' [0, 1, 2, 3, 4, 5, 6, 7, 8, 9] rfl ?_
 refine sp rfl (PE.move rfl) rfl ?_
 refine sp rfl (PE.neq rfl rfl) rfl ?_
 refine sp rfl (PE.move rfl) rfl ?_
 refine sy_case (t := 95) rfl (fun g95 => ?_) (fun g95 => ?_)
 refine spG rfl rfl rfl rfl (PE.move rfl) rfl ?_
 refine spG rfl rfl rfl rfl (PE.lenSl isl26 rfl) rfl ?_
 refine spG rfl rfl rfl rfl (PE.move rfl) rfl ?_
 refine spG rfl rfl rfl rfl (PE.lenSl isl26 rfl) rfl ?_
 refine spG rfl rfl rfl rfl (PE.add rfl rfl (by omega)) rfl ?_
 refine spG rfl rfl rfl rfl (PE.gtr rfl rfl) rfl ?_
 refine sp rfl (PE.pick rfl rfl rfl) rfl ?_
 refine sy_cond rfl (fun hc7 => ?_) (fun hc7 => ?_)
 exact absurd hc7 (by simp)
 refine sy_skip ?_
 refine sy_seq ?_
 refine sy_seq ?_
 refine sy_tx' [0, 1] rfl ?_
 refine sp rfl (PE.move rfl) rfl ?_
 refine sp rfl (PE.eql rfl rfl) rfl ?_
 refine sy_cond rfl (fun hc8 => ?_) (fun hc8 => ?_)
 exact absurd hc8 (by decide)
 refine sy_skip ?_
 refine sy_seq ?_
 refine sy_tx' [0, 1, 2, 3, 4, 5, 6, 7, 8, 9, 10, 11, 12, 13, 14, 15, 16] rfl ?_
 refine spL rfl rfl (lhA (btl b (b.sl a1 c1)) ag25 rfl rfl rfl) rfl ?_
 refine spL rfl rfl (lhA (btl b (b.sl ab cb)) ag25 rfl rfl rfl) rfl ?_
 refine clV rfl cal31 rfl rfl (c_same b a1 c1 b ab cb hl hl hr hr _ _) ?_
 refine sp rfl (PE.move rfl) rfl ?_
 refine sy_case (t := 138) rfl (fun g138 => ?_) (fun g138 => ?_)
 refine spG rfl rfl rfl rfl (PE.move rfl) rfl ?_
 refine spG rfl rfl rfl rfl (PE.move rfl) rfl ?_
 refine clVG rfl rfl rfl rfl cal32 rfl rfl (c_EqRows p1 d1 e1 (by have := congrArg List.length hq1; rw [lls_len, lls_len] at this; omega) (lls_big hq1 hpi) pl ap cp hpl hpi _ _) ?_
 refine sp rfl (PE.pick rfl rfl rfl) rfl ?_
 refine sp rfl (PE.move rfl) rfl ?_
 refine sy_case (t := 143) rfl (fun g143 => ?_) (fun g143 => ?_)
 refine spG rfl rfl rfl rfl (PE.move rfl) rfl ?_
 refine spG rfl rfl rfl rfl (PE.move rfl) rfl ?_
 refine clVG rfl rfl rfl rfl cal32 rfl rfl (c_EqRows p2 d2 e2 (by have := congrArg List.length hq2; rw [lls_len, lls_len] at this; omega) (lls_big hq2 hqi) ql aq cq hql hqi _ _) ?_
 refine sp rfl (PE.pick rfl rfl rfl) rfl ?_
 refine sp rfl (PE.move rfl) rfl ?_
 refine sy_case (t := 148) rfl (fun g148 => ?_) (fun g148 => ?_)
 refine clVG rfl rfl rfl rfl cal18 rfl rfl (c_awake _ _) ?_
 refine sp rfl (PE.pick rfl rfl rfl) rfl ?_
 refine sp rfl (PE.assign rfl) rfl ?_
 refine sy_ret ?_
 exact sy_return (vs := [_]) rfl (.cons (RV.tmp rfl) .nil) rfl ⟨rfl, rfl, rfl⟩ (fun w h => by first | exact (((h.del b8).del b7).del b3).facts (fun g hg => by simp [hg]) | exact h.del b3)
 exact absurd hq2 (of_decide_eq_false g148)
 exact absurd hq1 (of_decide_eq_false g143)
 rw [sameB_iff.2 rfl] at g138; exact absurd g138 (by decide)
 exact absurd g95 (by decide)
 refine sp rfl (PE.move rfl) rfl ?_
 obtain rfl := hw.w3 hck hkp
 have hok := Barn.ok_of hr hck
 have hlw := hro.law hok hpa hqa
 have hln := hlw.len
 have hne := hlw.ne
 have hpz1 := hlw.p
 have hpz2 := hlw.q
 have hpi1 : ∀ x ∈ pa, x.l.length ≤ 9223372036854775807 := fun x hx => by have := hlw.four x (by simp [hx]); omega
 have hpi2 : ∀ x ∈ qa, x.l.length ≤ 9223372036854775807 := fun x hx => by have := hlw.four x (by simp [hx]); omega
 refine sp rfl (PE.extract rfl rfl) rfl ?_
 refine sp rfl (PE.extract rfl rfl) rfl ?_
 refine sp rfl (PE.extract rfl rfl) rfl ?_
 refine sp rfl (PE.assign rfl) rfl ?_
 refine sp rfl (PE.assign rfl) rfl ?_
 refine sp rfl (PE.assign rfl) rfl ?_
 refine sy_seq ?_
 refine sy_tx' [0, 1, 2, 3, 4, 5, 6, 7, 8] rfl ?_
 refine spL rfl rfl (lhA (btl b (b.sl a1 c1)) ag25 rfl rfl rfl) rfl ?_
 refine sp rfl (PE.move rfl) rfl ?_
 refine sp rfl (PE.move rfl) rfl ?_
 refine clV rfl cal43 rfl rfl (c_GoesV b a1 c1 hl hr pl ap cp hpl hpi ql aq cq hql hqi hw hq1 hq2 d1 e1 d2 e2 _ _) ?_
 refine sp rfl (PE.move rfl) rfl ?_
 refine sp rfl (PE.extract rfl rfl) rfl ?_
 refine sp rfl (PE.extract rfl rfl) rfl ?_
 refine sp rfl (PE.assign rfl) rfl ?_
 refine sp rfl (PE.assign rfl) rfl ?_
 refine sy_seq ?_
 refine sy_seq ?_
 refine sy_tx' [0, 1, 2, 3, 4, 5, 6, 7, 8, 9, 10, 11, 12] rfl ?_
 refine sp rfl (PE.move rfl) rfl ?_
 refine sp rfl (PE.move rfl) rfl ?_
 refine sp rfl (PE.neq rfl rfl) rfl ?_
 refine sp rfl (PE.move rfl) rfl ?_
 refine sy_case (t := 83) rfl (fun g83 => ?_) (fun g83 => ?_)
 exact absurd g83 (by simp)
 refine spG rfl rfl rfl rfl (PE.move rfl) rfl ?_
 refine spG rfl rfl rfl rfl (PE.move rfl) rfl ?_
 refine spG rfl rfl rfl rfl (PE.neq rfl rfl) rfl ?_
 refine sp rfl (PE.pick rfl rfl rfl) rfl ?_
 refine sp rfl (PE.move rfl) rfl ?_
 refine sy_case (t := 88) rfl (fun g88 => ?_) (fun g88 => ?_)
 exact absurd g88 (by simp)
 refine spG rfl rfl rfl rfl (PE.move rfl) rfl ?_
 refine spG rfl rfl rfl rfl (PE.move rfl) rfl ?_
 refine spG rfl rfl rfl rfl (PE.neqBool ub4 rfl rfl) rfl ?_
 refine sp rfl (PE.pick rfl rfl rfl) rfl ?_
 refine sy_cond rfl (fun hc6 => ?_) (fun hc6 => ?_)
 exact absurd hc6 (by simp)
 refine sy_skip ?_
 refine sy_seq ?_
 refine sy_seq ?_
 refine sy_tx' [0, 1, 2, 3, 4, 5, 6, 7, 8, 9] rfl ?_
 refine sp rfl (PE.move rfl) rfl ?_
 refine sp rfl (PE.neq rfl rfl) rfl ?_
 refine sp rfl (PE.move rfl) rfl ?_
 refine sy_case (t := 95) rfl (fun g95 => ?_) (fun g95 => ?_)
 exact absurd g95 (by simp)
 repeat refine spN rfl rfl rfl rfl rfl rfl rfl rfl ?_
 refine sp rfl (PE.pick rfl rfl rfl) rfl ?_
 refine sy_condF rfl ?_
 refine sy_skip ?_
 refine sy_seq ?_
 refine sy_seq ?_
 refine sy_tx' [0, 1] rfl ?_
 refine sp rfl (PE.move rfl) rfl ?_
 refine sp rfl (PE.eql rfl rfl) rfl ?_
 refine sy_cond rfl (fun hc8 => ?_) (fun hc8 => ?_)
 refine sy_seq ?_
 refine sy_tx' [0, 1, 2, 3, 4, 5, 6, 7, 8, 9, 10, 11, 12, 13, 14, 15, 16, 17, 18, 19, 20, 21, 22, 23, 24, 25, 26, 27, 28, 29] rfl ?_
 refine sp rfl (PE.move rfl) rfl ?_
 refine sp rfl (PE.lenSl isl26 rfl) rfl ?_
 refine sp rfl (PE.move rfl) rfl ?_
 refine sp rfl (PE.lenSl isl26 rfl) rfl ?_
 refine sp rfl (PE.add rfl rfl (by omega)) rfl ?_
 refine sp rfl (PE.gtr rfl rfl) rfl ?_
 refine sp rfl (PE.move rfl) rfl ?_
 refine sy_case (t := 111) rfl (fun g111 => ?_) (fun g111 => ?_)
 simp only [decide_eq_true_eq] at g111; omega
 refine spG rfl rfl rfl rfl (PE.move rfl) rfl ?_
 refine spG rfl rfl rfl rfl (PE.lenSl isl26 rfl) rfl ?_
 refine spG rfl rfl rfl rfl (PE.eql rfl rfl) rfl ?_
 refine sp rfl (PE.pick rfl rfl rfl) rfl ?_
 refine sp rfl (PE.move rfl) rfl ?_
 refine sy_case (t := 116) rfl (fun g116 => ?_) (fun g116 => ?_)
 simp only [decide_eq_true_eq] at g116; omega
 refine spLG rfl rfl rfl rfl rfl (lhA (btl b (b.sl a2 c2)) ag33 rfl rfl rfl) rfl ?_
 refine spG rfl rfl rfl rfl (PE.move rfl) rfl ?_
 refine clVG rfl rfl rfl rfl cal23 rfl rfl (c_rPlanned b a2 c2 hl pa aa ca (by omega) hpi1 _ _) ?_
 rw [hpz1]
 refine spG rfl rfl rfl rfl (PE.neq rfl rfl) rfl ?_
 refine sp rfl (PE.pick rfl rfl rfl) rfl ?_
 refine sp rfl (PE.move rfl) rfl ?_
 refine sy_case (t := 122) rfl (fun g122 => ?_) (fun g122 => ?_)
 exact absurd g122 (by simp)
 refine spLG rfl rfl rfl rfl rfl (lhA (btl b (b.sl a2 c2)) ag33 rfl rfl rfl) rfl ?_
 refine spG rfl rfl rfl rfl (PE.move rfl) rfl ?_
 refine clVG rfl rfl rfl rfl cal23 rfl rfl (c_rPlanned b a2 c2 hl qa ar cr (by omega) hpi2 _ _) ?_
 rw [hpz2]
 refine spG rfl rfl rfl rfl (PE.neq rfl rfl) rfl ?_
 refine sp rfl (PE.pick rfl rfl rfl) rfl ?_
 refine sp rfl (PE.move rfl) rfl ?_
 refine sy_case (t := 128) rfl (fun g128 => ?_) (fun g128 => ?_)
 exact absurd g128 (by simp)
 refine spLG rfl rfl rfl rfl rfl (lhA (btl b (b.sl a2 c2)) ag33 rfl rfl rfl) rfl ?_
 refine spG rfl rfl rfl rfl (PE.move rfl) rfl ?_
 refine spG rfl rfl rfl rfl (PE.move rfl) rfl ?_
 refine clG rfl rfl rfl rfl cal41 rfl rfl (c_rGoes b a2 c2 hok pa aa ca (by omega) hpi1 qa ar cr (by omega) hpi2 (by omega) hne _ _) ?_
 rintro _ _ _ ⟨⟨g2, hg2, rfl⟩, rfl, rfl⟩
 obtain rfl := hg2.2 hlw.goes
 refine spG rfl rfl rfl rfl (PE.not rfl) rfl ?_
 refine sp rfl (PE.pick rfl rfl rfl) rfl ?_
 refine sy_cond rfl (fun hc9 => ?_) (fun hc9 => ?_)
 exact absurd hc9 (by decide)
 refine sy_skip ?_
 refine sy_seq ?_
 refine sy_tx' [0, 1, 2, 3, 4, 5, 6, 7, 8, 9, 10, 11, 12, 13, 14, 15, 16] rfl ?_
 refine spL rfl rfl (lhA (btl b (b.sl a1 c1)) ag25 rfl rfl rfl) rfl ?_
 refine spL rfl rfl (lhA (btl b (b.sl ab cb)) ag25 rfl rfl rfl) rfl ?_
 refine clV rfl cal31 rfl rfl (c_same b a1 c1 b ab cb hl hl hr hr _ _) ?_
 refine sp rfl (PE.move rfl) rfl ?_
 refine sy_case (t := 138) rfl (fun g138 => ?_) (fun g138 => ?_)
 refine spG rfl rfl rfl rfl (PE.move rfl) rfl ?_
 refine spG rfl rfl rfl rfl (PE.move rfl) rfl ?_
 refine clVG rfl rfl rfl rfl cal32 rfl rfl (c_EqRows p1 d1 e1 (by have := congrArg List.length hq1; rw [lls_len, lls_len] at this; omega) (lls_big hq1 hpi) pl ap cp hpl hpi _ _) ?_
 refine sp rfl (PE.pick rfl rfl rfl) rfl ?_
 refine sp rfl (PE.move rfl) rfl ?_
 refine sy_case (t := 143) rfl (fun g143 => ?_) (fun g143 => ?_)
 refine spG rfl rfl rfl rfl (PE.move rfl) rfl ?_
 refine spG rfl rfl rfl rfl (PE.move rfl) rfl ?_
 refine clVG rfl rfl rfl rfl cal32 rfl rfl (c_EqRows p2 d2 e2 (by have := congrArg List.length hq2; rw [lls_len, lls_len] at this; omega) (lls_big hq2 hqi) ql aq cq hql hqi _ _) ?_
 refine sp rfl (PE.pick rfl rfl rfl) rfl ?_
 refine sp rfl (PE.move rfl) rfl ?_
 refine sy_case (t := 148) rfl (fun g148 => ?_) (fun g148 => ?_)
 refine clVG rfl rfl rfl rfl cal18 rfl rfl (c_awake _ _) ?_
 refine sp rfl (PE.pick rfl rfl rfl) rfl ?_
 refine sp rfl (PE.assign rfl) rfl ?_
 refine sy_ret ?_
 exact sy_return (vs := [_]) rfl (.cons (RV.tmp rfl) .nil) rfl ⟨rfl, rfl, rfl⟩ (fun w h => by first | exact (((h.del b8).del b7).del b3).facts (fun g hg => by simp [hg]) | exact h.del b3)
 exact absurd hq2 (of_decide_eq_false g148)
 exact absurd hq1 (of_decide_eq_false g143)
 rw [sameB_iff.2 rfl] at g138; exact absurd g138 (by decide)
 exact absurd hc8 (by decide)
end Go.Proofs.Ytelegnmfhjfbaaa
namespace Go.Proofs.Ytelegnmfhjfbaaa
set_option linter.unusedSimpArgs false
set_option linter.unusedVariables false
open Go Go.ChangeShapes Go.WideShapes Go.RowKit
section weigh
variable {H : Type} {enc : TypeId × Value → H} {P : Program} {w : World} {base : Nat} {spare : Nat → Bool} {held : Bool}
theorem weight_slice {t e fuel : Nat} {cs : List Value} {x : DataW H × List MemPlace} (hu : P.underlying t = some (.slice e)) (h : DataW.trod enc P w base spare held fuel t cs = some x) {a : Option Addr} {len cap : Nat} (hc : cs = [.slice a len cap]) {B : Nat} (hw : ∀ n ∈ x.1.weights P t, n ≤ B) : len * P.bytesOf e ≤ B := by
  rcases DataW.trod_slice hu h with ⟨h1, _⟩ | ⟨a', len', cap', elems, rest, n, _, h1, rfl, hb, hl, hm, hlen, _⟩
  · rw [h1] at hc
    simp only [List.cons.injEq, Value.slice.injEq, and_true] at hc
    rw [← hc.2.1]; simp
  · rw [h1] at hc
    simp only [List.cons.injEq, Value.slice.injEq, and_true] at hc
    have := hw ((elems.length + rest.length) * P.bytesOf e) (by simp [DataW.weights, hu])
    refine Nat.le_trans (Nat.mul_le_mul_right _ (by omega)) this
theorem weight_field {T e fuel k : Nat} {fs : Array Field} {cs : List Value} {x : DataW H × List MemPlace} {f : Field} (hu : P.underlying T = some (.struct fs)) (h : DataW.trod enc P w base spare held fuel T cs = some x) (hf : fs[k]? = some f) (hs : P.underlying f.type = some (.slice e)) {a : Option Addr} {len cap : Nat}
    (hc : (cs.drop f.offset).take (P.cellsOf f.type) = [.slice a len cap]) {B : Nat} (hw : ∀ n ∈ x.1.weights P T, n ≤ B) : len * P.bytesOf e ≤ B := by
  obtain ⟨xs, n, _, rfl, _, hxl, hx⟩ := DataW.trod_struct hu h
  have h1 := hx k f hf
  obtain ⟨y, hy⟩ : ∃ y, xs[k]? = some y := ⟨_, List.getElem?_eq_getElem (by rw [hxl]; exact (Array.getElem?_eq_some_iff.1 hf).1)⟩
  rw [hy] at h1
  refine weight_slice hs h1 hc fun m hm => hw m ?_
  show m ∈ (DataW.agg (xs.map (·.1))).weights P T
  simp only [DataW.weights, hu]
  exact DataW.weights_mem_each (j := k) (t := f.type) (d := y.1) (by rw [List.getElem?_map, Array.getElem?_toList, hf]; rfl) (by rw [List.getElem?_map, hy]; rfl) m hm
end weigh
end Go.Proofs.Ytelegnmfhjfbaaa
