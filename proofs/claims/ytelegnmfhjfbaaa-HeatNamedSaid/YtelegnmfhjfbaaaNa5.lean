/- Walks of the functions of the program, and the laws that join them: what the last theorem of this claim needs, in order. -/
import Derived.Test.YtelegnmfhjfbaaaNa4
namespace Go.Proofs.Ytelegnmfhjfbaaa
set_option linter.unusedSimpArgs false
set_option linter.unusedVariables false
open Go
structure FewC (d : Dsk) (s : HSt) (n c : Nat) : Prop where
  is : ∃ t, d.pth n s t c
  le : ∀ t c', d.pth n s t c' → c ≤ c'
structure Fsp (es : List (HSt × List Int)) (m : MW) : Prop where
  mem : ∀ t w, mget m t = some w → (t, w) ∈ es
  has : ∀ t w, (t, w) ∈ es → ∃ w', mget m t = some w' ∧ na w' 5 ≤ na w 5
theorem Fsp.nil : Fsp [] [] := ⟨fun t w h => (by cases h), fun t w h => (by cases h)⟩
theorem Fsp.add {es : List (HSt × List Int)} {m : MW} {e : HSt × List Int} (h : Fsp es m) (hz : ∀ f ∈ es, f.2 ≠ zw) : Fsp (es ++ [e]) (updW m e) := by
  obtain ⟨k, v⟩ := e
  have key : (updW m (k, v) = mput m k v ∧ ∀ w, mget m k = some w → na v 5 < na w 5) ∨ (updW m (k, v) = m ∧ ∃ w, mget m k = some w ∧ na w 5 ≤ na v 5) := by
    unfold updW
    dsimp only
    cases hk : mget m k with
    | none => exact .inl ⟨by rw [Option.getD_none, decide_eq_true rfl]; rfl, fun w h => by cases h⟩
    | some w0 =>
      have h0 : w0 ≠ zw := hz _ (h.mem _ _ hk)
      rw [Option.getD_some, decide_eq_false h0, Bool.false_or]
      by_cases h1 : na v 5 < na w0 5
      · rw [decide_eq_true h1]; exact .inl ⟨rfl, fun w hw => by cases hw; exact h1⟩
      · rw [decide_eq_false h1]; exact .inr ⟨rfl, w0, rfl, by omega⟩
  rcases key with ⟨e1, h1⟩ | ⟨e1, w0, h1, h2⟩
  · rw [e1]
    refine ⟨fun t w hw => ?_, fun t w hw => ?_⟩
    · rw [mget_mput] at hw
      by_cases hkt : k = t
      · rw [decide_eq_true hkt] at hw; cases hw; subst hkt; simp
      · rw [decide_eq_false hkt] at hw; exact List.mem_append_left _ (h.mem _ _ hw)
    · rw [mget_mput]
      by_cases hkt : k = t
      · subst hkt
        rw [decide_eq_true rfl]
        refine ⟨v, rfl, ?_⟩
        rcases List.mem_append.1 hw with h3 | h3
        · obtain ⟨w', h4, h5⟩ := h.has _ _ h3
          have := h1 _ h4
          omega
        · cases List.mem_singleton.1 h3; exact Int.le_refl _
      · rw [decide_eq_false hkt]
        rcases List.mem_append.1 hw with h3 | h3
        · exact h.has _ _ h3
        · cases List.mem_singleton.1 h3; exact absurd rfl hkt
  · rw [e1]
    refine ⟨fun t w hw => List.mem_append_left _ (h.mem _ _ hw), fun t w hw => ?_⟩
    rcases List.mem_append.1 hw with h3 | h3
    · exact h.has _ _ h3
    · cases List.mem_singleton.1 h3; exact ⟨w0, h1, h2⟩
theorem Fsp.fold : ∀ {fs es : List (HSt × List Int)} {m : MW}, Fsp es m → (∀ f ∈ es ++ fs, f.2 ≠ zw) → Fsp (es ++ fs) (fs.foldl updW m)
  | [], es, m, h, _ => by rw [List.append_nil]; exact h
  | f :: fs, es, m, h, hz => by
    have := Fsp.fold (fs := fs) (h.add (e := f) fun g hg => hz g (List.mem_append_left _ hg)) (fun g hg => hz g (by simpa [List.append_assoc] using hg))
    rw [List.append_assoc] at this
    exact this
theorem mem_ev {d : Dsk} {m : MW} {e : HSt × List Int} : e ∈ (d.sts.take d.nst).flatMap (evW d m) ↔ ∃ s, s ∈ d.sts ∧ ∃ w, mget m s = some w ∧ ∃ l, l ∈ d.trs false ∧ ∃ t, d.next s l = some t ∧ e = (t, s ++ [(setN l : Int), na w 5 + (l.length : Int)]) := by
  rw [List.take_of_length_le (by rw [d.sts_len]; exact Nat.le_refl _), List.mem_flatMap]
  refine exists_congr fun s => and_congr_right fun _ => ?_
  unfold evW evsP
  cases mget m s with
  | none => simp
  | some w =>
    dsimp only
    rw [List.take_length, List.mem_filterMap]
    constructor
    · rintro ⟨l, hl, he⟩
      unfold evOf at he
      rw [Option.map_eq_some_iff] at he
      obtain ⟨t, ht, rfl⟩ := he
      exact ⟨w, rfl, l, hl, t, ht, rfl⟩
    · rintro ⟨w', hw, l, hl, t, ht, rfl⟩
      cases hw
      exact ⟨l, hl, by unfold evOf; rw [ht]; rfl⟩
theorem ev_nz {d : Dsk} (hd : d.ok) {s t : HSt} (hs : d.inS s) {l : List Nat} (hl : l ∈ d.trs false) (hn : d.next s l = some t) (c : Int) : s ++ [(setN l : Int), c] ≠ zw := by
  intro e
  obtain ⟨s0, s1, s2, s3, rfl⟩ := list4 hs.len
  have e2 : s0 = 0 ∧ (setN l : Int) = 0 := by
    have h1 := congrArg (fun z => na z 0) e
    have h2 := congrArg (fun z => na z 4) e
    exact ⟨h1, h2⟩
  have hn1 := hd.n
  have h2 := ((d.next_at hn1.2 hs.len (d.trs_lt hl) hn).2 0).1 (by omega)
  have h0 : (0 : Nat) ∉ l := fun hm => by
    have h3 := setN_mem l 0
    rw [decide_eq_true hm, show setN l = 0 by have := e2.2; omega] at h3
    simp at h3
  unfold Dsk.mid at h2
  rw [if_neg h0] at h2
  have h4 : na [s0, s1, s2, s3] 0 = 0 := e2.1
  omega
theorem mday_fsp {d : Dsk} (hd : d.ok) (s0 : HSt) (i : Nat) : Fsp ((d.sts.take d.nst).flatMap (evW d (mday d s0 i))) (mday d s0 (i + 1)) := by
  have h := Fsp.fold (fs := (d.sts.take d.nst).flatMap (evW d (mday d s0 i))) Fsp.nil (fun f hf => by
    rw [List.nil_append] at hf
    obtain ⟨s, hs, w, _, l, hl, t, ht, rfl⟩ := mem_ev.1 hf
    exact ev_nz hd ((d.mem_sts hd s).1 hs) hl ht _)
  rw [List.nil_append] at h
  exact h
theorem mday_zero {d : Dsk} {s0 : HSt} (s : HSt) : mget (mday d s0 0) s = bif decide (s0 = s) then some zw else none := by
  unfold mday mget
  rw [List.find?_cons]
  dsimp only
  cases decide (s0 = s) <;> rfl
theorem mday_back {d : Dsk} (hd : d.ok) {s0 : HSt} {i : Nat} {s : HSt} {w : List Int} (h : mget (mday d s0 (i + 1)) s = some w) :
    ∃ u w' l, u ∈ d.sts ∧ mget (mday d s0 i) u = some w' ∧ l ∈ d.trs false ∧ d.next u l = some s ∧ w = u ++ [(setN l : Int), na w' 5 + (l.length : Int)] := by
  obtain ⟨u, hu, w', hw', l, hl, t, ht, e⟩ := mem_ev.1 ((mday_fsp hd s0 i).mem _ _ h)
  cases e
  exact ⟨u, w', l, hu, hw', hl, ht, rfl⟩
theorem way_last {u : HSt} (hu : u.length = 4) (x y : Int) : na (u ++ [x, y]) 5 = y ∧ na (u ++ [x, y]) 4 = x ∧ (u ++ [x, y]).take 4 = u := by
  obtain ⟨a, b, c, e, rfl⟩ := list4 hu
  exact ⟨rfl, rfl, rfl⟩
theorem mday_spec {d : Dsk} (hd : d.ok) {s0 : HSt} (h0 : d.inS s0) : ∀ (i : Nat), (∀ s c, d.pth i s0 s c → ∃ w, mget (mday d s0 i) s = some w ∧ na w 5 ≤ (c : Int)) ∧ (∀ s w, mget (mday d s0 i) s = some w → ∃ c : Nat, na w 5 = c ∧ d.pth i s0 s c)
  | 0 => by
    refine ⟨fun s c h => ?_, fun s w h => ?_⟩
    · obtain ⟨rfl, rfl⟩ := h
      exact ⟨zw, by rw [mday_zero, decide_eq_true rfl]; rfl, by decide⟩
    · rw [mday_zero] at h
      by_cases e : s0 = s
      · rw [decide_eq_true e] at h; cases h; exact ⟨0, by decide, e.symm, rfl⟩
      · rw [decide_eq_false e] at h; cases h
  | i + 1 => by
    obtain ⟨i1, i2⟩ := mday_spec hd h0 i
    refine ⟨fun s c h => ?_, fun s w h => ?_⟩
    · obtain ⟨u, a, l, h1, h2, h3, rfl⟩ := h
      obtain ⟨w, hw, hle⟩ := i1 u a h1
      have hu := d.pth_inS hd h0 h1
      obtain ⟨w', hw', hle'⟩ := (mday_fsp hd s0 i).has s (u ++ [(setN l : Int), na w 5 + (l.length : Int)]) (mem_ev.2 ⟨u, (d.mem_sts hd u).2 hu, w, hw, l, h2, s, h3, rfl⟩)
      rw [(way_last hu.len _ _).1] at hle'
      exact ⟨w', hw', by push_cast; omega⟩
    · obtain ⟨u, w', l, hu, hw', hl, ht, rfl⟩ := mday_back hd h
      obtain ⟨c, hc, hp⟩ := i2 u w' hw'
      have hul := ((d.mem_sts hd u).1 hu).len
      refine ⟨c + l.length, ?_, u, c, l, hp, hl, ht, rfl⟩
      rw [(way_last hul _ _).1, hc]; push_cast; rfl
def Bsp (m : MW) (D : List HSt) : Option (HSt × Int) → Prop
  | none => ∀ s ∈ D, mget m s = none
  | some p => p.1 ∈ D ∧ ∃ w, mget m p.1 = some w ∧ p.2 = na w 5 ∧ ∀ s ∈ D, ∀ w', mget m s = some w' → p.2 ≤ na w' 5
theorem Bsp.add {m : MW} {D : List HSt} {acc : Option (HSt × Int)} (h : Bsp m D acc) (s : HSt) : Bsp m (D ++ [s]) (bestS m acc s) := by
  unfold bestS
  cases hs : mget m s with
  | none =>
    dsimp only
    cases acc with
    | none => intro t ht; rcases List.mem_append.1 ht with h1 | h1; exact h t h1; rw [List.mem_singleton.1 h1]; exact hs
    | some p =>
      obtain ⟨h1, w, h2, h3, h4⟩ := h
      refine ⟨List.mem_append_left _ h1, w, h2, h3, fun t ht w' hw' => ?_⟩
      rcases List.mem_append.1 ht with h5 | h5
      · exact h4 t h5 w' hw'
      · rw [List.mem_singleton.1 h5, hs] at hw'; cases hw'
  | some w =>
    dsimp only
    cases acc with
    | none =>
      refine ⟨by simp, w, hs, rfl, fun t ht w' hw' => ?_⟩
      rcases List.mem_append.1 ht with h5 | h5
      · rw [h t h5] at hw'; cases hw'
      · rw [List.mem_singleton.1 h5, hs] at hw'; cases hw'; exact Int.le_refl _
    | some p =>
      obtain ⟨q, n⟩ := p
      obtain ⟨h1, w0, h2, h3, h4⟩ := h
      dsimp only at h1 h2 h3 h4 ⊢
      by_cases hlt : na w 5 < n
      · rw [decide_eq_true hlt, cond_true]
        refine ⟨by simp, w, hs, rfl, fun t ht w' hw' => ?_⟩
        dsimp only
        rcases List.mem_append.1 ht with h5 | h5
        · have := h4 t h5 w' hw'; omega
        · rw [List.mem_singleton.1 h5, hs] at hw'; cases hw'; exact Int.le_refl _
      · rw [decide_eq_false hlt, cond_false]
        refine ⟨List.mem_append_left _ h1, w0, h2, h3, fun t ht w' hw' => ?_⟩
        dsimp only
        rcases List.mem_append.1 ht with h5 | h5
        · exact h4 t h5 w' hw'
        · rw [List.mem_singleton.1 h5, hs] at hw'; cases hw'; omega
theorem Bsp.fold {m : MW} : ∀ {l D : List HSt} {acc : Option (HSt × Int)}, Bsp m D acc → Bsp m (D ++ l) (l.foldl (bestS m) acc)
  | [], D, acc, h => by rw [List.append_nil]; exact h
  | s :: l, D, acc, h => by
    have := Bsp.fold (l := l) (h.add s)
    rw [List.append_assoc] at this
    exact this
theorem bestT_spec (d : Dsk) (m : MW) : Bsp m d.sts (bestT d m d.nst) := by
  have h := Bsp.fold (m := m) (l := d.sts) (D := []) (acc := none) (fun s hs => by cases hs)
  unfold bestT
  rw [List.take_of_length_le (by rw [d.sts_len]; exact Nat.le_refl _)]
  exact h
def Dsk.run (d : Dsk) : HSt → List (List Nat) → Option HSt
  | s, [] => some s
  | s, l :: p => match d.next s l with
    | none => none
    | some t => d.run t p
def turnsN (p : List (List Nat)) : Nat := (p.map List.length).sum
theorem turnsN_app (p q : List (List Nat)) : turnsN (p ++ q) = turnsN p + turnsN q := by unfold turnsN; rw [List.map_append, List.sum_append]
theorem Dsk.run_app (d : Dsk) : ∀ (p q : List (List Nat)) (s : HSt), d.run s (p ++ q) = match d.run s p with
    | none => none
    | some t => d.run t q
  | [], q, s => rfl
  | l :: p, q, s => by
    have e1 : ∀ r, d.run s (l :: r) = match d.next s l with
      | none => none
      | some t => d.run t r := fun r => rfl
    rw [List.cons_append, e1, e1]
    cases d.next s l with
    | none => rfl
    | some t => exact run_app d p q t
theorem Dsk.run_one (d : Dsk) (s : HSt) (l : List Nat) : d.run s [l] = d.next s l := by
  unfold Dsk.run
  cases d.next s l <;> rfl
theorem backP_spec {d : Dsk} (hd : d.ok) {s0 : HSt} : ∀ (i : Nat) (s : HSt) (w : List Int), mget (mday d s0 i) s = some w → (backP d s0 i s).length = i ∧ (∀ l ∈ backP d s0 i s, l ∈ d.trs false) ∧ d.run s0 (backP d s0 i s) = some s ∧ (turnsN (backP d s0 i s) : Int) = na w 5
  | 0, s, w, h => by
    rw [mday_zero] at h
    by_cases e : s0 = s
    · rw [decide_eq_true e] at h; cases h; subst e; exact ⟨rfl, fun l hl => (by cases hl), rfl, rfl⟩
    · rw [decide_eq_false e] at h; cases h
  | i + 1, s, w, h => by
    obtain ⟨u, w', l, hu, hw', hl, ht, rfl⟩ := mday_back hd h
    obtain ⟨a5, a4, aT⟩ := way_last ((d.mem_sts hd u).1 hu).len (setN l : Int) (na w' 5 + (l.length : Int))
    obtain ⟨i1, i2, i3, i4⟩ := backP_spec hd i u w' hw'
    have hn := hd.n
    obtain ⟨v, hv, rfl⟩ : ∃ v, v < 2 ^ d.n ∧ l = bitl d.n v := by obtain ⟨v, hv, e, _⟩ := d.mem_trs.1 hl; exact ⟨v, hv, e⟩
    have hlt : setN (bitl d.n v) < 2 ^ d.n := setN_lt fun k hk => bitl_lt hk
    have hlt4 : setN (bitl d.n v) < 2 ^ 4 := Nat.lt_of_lt_of_le hlt (Nat.pow_le_pow_right (by decide) hn.2)
    have eb : backP d s0 (i + 1) s = backP d s0 i u ++ [bitl d.n v] := by
      show backP d s0 i (((mget (mday d s0 (i + 1)) s).getD zw).take 4) ++ [bitl 4 (na ((mget (mday d s0 (i + 1)) s).getD zw) 4).toNat] = _
      rw [h, Option.getD_some, aT, a4, Int.toNat_natCast, bitl_same hlt4 hlt, bitl_setN]
    rw [eb, a5]
    refine ⟨by simp [i1], fun k hk => ?_, by rw [d.run_app, i3]; dsimp only; rw [d.run_one]; exact ht, by rw [turnsN_app]; push_cast; rw [i4]; rfl⟩
    rcases List.mem_append.1 hk with h4 | h4
    · exact i2 k h4
    · rw [List.mem_singleton.1 h4]; exact hl
theorem best_few {d : Dsk} (hd : d.ok) {s0 : HSt} (h0 : d.inS s0) (days : Nat) : (bestT d (mday d s0 days) d.nst = none ∧ ¬ ∃ t c, d.pth days s0 t c) ∨
    ∃ (s : HSt) (c : Nat), bestT d (mday d s0 days) d.nst = some (s, (c : Int)) ∧ FewC d s0 days c ∧ (backP d s0 days s).length = days ∧ (∀ l ∈ backP d s0 days s, l ∈ d.trs false) ∧ d.run s0 (backP d s0 days s) = some s ∧ turnsN (backP d s0 days s) = c := by
  have hb := bestT_spec d (mday d s0 days)
  obtain ⟨m1, m2⟩ := mday_spec hd h0 days
  cases he : bestT d (mday d s0 days) d.nst with
  | none =>
    rw [he] at hb
    refine .inl ⟨rfl, ?_⟩
    rintro ⟨t, c, hp⟩
    obtain ⟨w, hw, _⟩ := m1 t c hp
    rw [hb t ((d.mem_sts hd t).2 (d.pth_inS hd h0 hp))] at hw
    cases hw
  | some p =>
    rw [he] at hb
    obtain ⟨s, n⟩ := p
    obtain ⟨h1, w, h2, h3, h4⟩ := hb
    dsimp only at h1 h2 h3 h4
    obtain ⟨c, hc, hp⟩ := m2 s w h2
    obtain ⟨b1, b2, b3, b4⟩ := backP_spec hd days s w h2
    refine .inr ⟨s, c, by rw [h3, hc], ⟨⟨s, hp⟩, fun t c' hp' => ?_⟩, b1, b2, b3, by omega⟩
    obtain ⟨w', hw', hle⟩ := m1 t c' hp'
    have := h4 t ((d.mem_sts hd t).2 (d.pth_inS hd h0 hp')) w' hw'
    omega
def Barn.stw (b : Barn) (ws : List Int) : HSt := pad ((List.range b.bins.length).map fun k => b.days (b.bins.getD k hb0) (na ws k))
theorem Barn.stw_at {b : Barn} {ws : List Int} {k : Nat} (hk : k < b.bins.length) : na (b.stw ws) k = b.days (b.bins.getD k hb0) (na ws k) := by
  unfold Barn.stw
  rw [pad_na]
  unfold na
  rw [List.getD_eq_getElem?_getD, List.getElem?_map, List.getElem?_range hk]; rfl
theorem Barn.stw_out {b : Barn} {ws : List Int} {k : Nat} (hk : b.bins.length ≤ k) : na (b.stw ws) k = 0 := by
  unfold Barn.stw
  rw [pad_na]
  unfold na
  rw [List.getD_eq_getElem?_getD, List.getElem?_eq_none (by simpa using hk)]; rfl
theorem Barn.stw_len {b : Barn} (hb : b.ok) (ws : List Int) : (b.stw ws).length = 4 := pad_len' (by simpa using hb.many.2)
theorem Barn.state_at {b : Barn} (hb : b.ok) {k : Nat} (hk : k < b.bins.length) : na b.state k = b.days (b.bins.getD k hb0) (b.bins.getD k hb0).warm := by
  obtain ⟨x, hx⟩ : ∃ x, b.bins[k]? = some x := ⟨_, List.getElem?_eq_getElem hk⟩
  rw [bin_getD hx]
  exact na_at (b.map_get hb _ hx)
theorem Barn.lasts_at {b : Barn} (hb : b.ok) {k : Nat} (hk : k < b.bins.length) : na b.lasts k = b.days (b.bins.getD k hb0) b.cool := by
  obtain ⟨x, hx⟩ : ∃ x, b.bins[k]? = some x := ⟨_, List.getElem?_eq_getElem hk⟩
  rw [bin_getD hx]
  exact na_at (b.map_get hb _ hx)
theorem Barn.warms_at {b : Barn} {k : Nat} (hk : k < b.bins.length) : na b.warms k = (b.bins.getD k hb0).warm := by
  obtain ⟨x, hx⟩ : ∃ x, b.bins[k]? = some x := ⟨_, List.getElem?_eq_getElem hk⟩
  rw [bin_getD hx]
  unfold na Barn.warms
  rw [List.getD_eq_getElem?_getD, List.getElem?_map, hx]; rfl
theorem Barn.stw_warms {b : Barn} (hb : b.ok) : b.stw b.warms = b.state := ext4 (b.stw_len hb _) (b.state_sml hb).len fun k _ => by
  rcases Nat.lt_or_ge k b.bins.length with h | h
  · rw [Barn.stw_at h, Barn.state_at hb h, Barn.warms_at h]
  · rw [Barn.stw_out h]
    unfold Barn.state
    rw [pad_na]
    unfold na
    rw [List.getD_eq_getElem?_getD, List.getElem?_eq_none (by simpa using h)]; rfl
theorem daysB_anti {r m w v : Int} (hr : 0 ≤ r) (h : w ≤ v) : daysB r m v ≤ daysB r m w := by
  unfold daysB
  by_cases h0 : r = 0
  · rw [decide_eq_true h0]; exact Int.le_refl _
  · rw [decide_eq_false h0, cond_false, cond_false]
    by_cases h1 : m < v
    · rw [decide_eq_true h1, cond_true]
      by_cases h2 : m < w
      · rw [decide_eq_true h2]; exact Int.le_refl _
      · rw [decide_eq_false h2, cond_false]; exact Int.ediv_nonneg (by omega) hr
    · rw [decide_eq_false h1, cond_false, decide_eq_false (by omega), cond_false]
      exact Int.ediv_le_ediv (by omega) (by omega)
theorem daysB_min {r m w c : Int} (hr : 0 ≤ r) : max (daysB r m w) (daysB r m c) = daysB r m (min w c) := by
  rcases Int.le_total w c with h | h
  · have := daysB_anti (m := m) hr h
    rw [Int.min_eq_left h]; omega
  · have := daysB_anti (m := m) hr h
    rw [Int.min_eq_right h]; omega
theorem daysB_hot {r m w : Int} (hr : 0 < r) (hw : w ≤ m) (h : m < w + r) : daysB r m w = 0 := by
  unfold daysB
  rw [decide_eq_false (by omega), cond_false, decide_eq_false (by omega), cond_false]
  exact Int.ediv_eq_zero_of_lt (by omega) (by omega)
theorem daysB_day {r m w : Int} (hr : 0 < r) (h : w + r ≤ m) : daysB r m (w + r) = daysB r m w - 1 ∧ 1 ≤ daysB r m w := by
  have e : daysB r m w = daysB r m (w + r) + 1 := by
    unfold daysB
    rw [decide_eq_false (by omega), cond_false, cond_false, decide_eq_false (by omega), cond_false, decide_eq_false (by omega), cond_false]
    rw [show m - w = (m - (w + r)) + 1 * r by omega, Int.add_mul_ediv_right _ _ (by omega)]
  have : 0 ≤ daysB r m (w + r) := by
    unfold daysB
    rw [decide_eq_false (by omega), cond_false, decide_eq_false (by omega), cond_false]
    exact Int.ediv_nonneg (by omega) (by omega)
  omega
theorem has_il (l : List Nat) (k : Nat) : hasI (il l) (k : Int) = decide (k ∈ l) := by
  rw [Bool.eq_iff_iff, decide_eq_true_eq]
  unfold hasI il
  rw [List.any_eq_true]
  constructor
  · rintro ⟨y, hy, he⟩
    obtain ⟨j, hj, rfl⟩ := List.mem_map.1 hy
    have := of_decide_eq_true he
    obtain rfl : k = j := by omega
    exact hj
  · intro h; exact ⟨(k : Int), List.mem_map.2 ⟨k, h, rfl⟩, decide_eq_true rfl⟩
theorem Barn.bin_at {b : Barn} (hb : b.ok) {k : Nat} (hk : k < b.bins.length) : b.bins.getD k hb0 ∈ b.bins := by
  rw [List.getD_eq_getElem?_getD, List.getElem?_eq_getElem hk]; exact List.getElem_mem hk
theorem Barn.mid_of {b : Barn} (hb : b.ok) {ws : List Int} (l : List Nat) {k : Nat} (hk : k < b.bins.length) : b.dsk.mid (b.stw ws) l k = b.days (b.bins.getD k hb0) (bif hasI (il l) k then min (na ws k) b.cool else na ws k) := by
  have hr := b.worst_range hb (Barn.bin_at hb hk)
  unfold Dsk.mid
  rw [has_il, Barn.stw_at hk, show na b.dsk.lasts k = _ from Barn.lasts_at hb hk]
  by_cases h : k ∈ l
  · rw [if_pos h, decide_eq_true h, cond_true]; exact daysB_min (by omega)
  · rw [if_neg h, decide_eq_false h, cond_false]
theorem Barn.run_day {b : Barn} (hb : b.ok) {ws : List Int} (hw : Cool b ws) {l : List Nat} (hl : ∀ k ∈ l, k < b.bins.length) :
    ((∀ k < b.bins.length, b.hotAt ws (il l) k = false) → b.dsk.next (b.stw ws) l = some (b.stw (b.dayW ws (il l)))) ∧ (∀ k < b.bins.length, b.hotAt ws (il l) k = true → b.dsk.next (b.stw ws) l = none) := by
  have hn := hb.many
  have key : ∀ k < b.bins.length, ∃ r m v, (r = 0 ∨ 6 ≤ r) ∧ v ≤ m ∧ m ≤ 60 ∧ 0 ≤ v ∧ b.dsk.mid (b.stw ws) l k = daysB r m v ∧ (b.hotAt ws (il l) k = decide (m < v + r)) ∧ na (b.stw (b.dayW ws (il l))) k = daysB r m (v + r) := fun k hk => by
    have hm := Barn.bin_at hb hk
    have hr := b.worst_range hb hm
    obtain ⟨x, hx⟩ : ∃ x, b.bins[k]? = some x := ⟨_, List.getElem?_eq_getElem hk⟩
    have hc := hw.at_ k x hx
    have hcl := hb.cool
    have hmk := (hb.bins x (List.mem_of_getElem? hx)).1
    have e1 := Barn.mid_of hb (ws := ws) l hk
    rw [bin_getD hx] at e1 hr
    refine ⟨b.worst x, x.mark, bif hasI (il l) k then min (na ws k) b.cool else na ws k, by omega, ?_, by omega, ?_, e1, ?_, ?_⟩
    · cases hasI (il l) k <;> simp only [cond_true, cond_false] <;> omega
    · cases hasI (il l) k <;> simp only [cond_true, cond_false] <;> omega
    · unfold Barn.hotAt; rw [bin_getD hx, b.wdAt_of hx]; rfl
    · rw [Barn.stw_at hk, na_at (b.dayW_at hk), b.wdAt_of hx, bin_getD hx]; rfl
  constructor
  · intro hcold
    obtain ⟨t, ht⟩ := b.dsk.next_some hn.2 (b.stw_len hb ws) hl (fun k hk => by
      obtain ⟨r, m, v, h1, h2, h3, h4, h5, h6, h7⟩ := key k hk
      rw [h5]
      rcases h1 with rfl | h1
      · exact .inl rfl
      · have h8 := hcold k hk
        rw [h6, decide_eq_false_iff_not] at h8
        exact .inr (daysB_day (by omega) (by omega)).2)
    rw [ht]
    congr 1
    obtain ⟨t1, t2⟩ := b.dsk.next_at hn.2 (b.stw_len hb ws) hl ht
    refine ext4 t1 (b.stw_len hb _) fun k _ => ?_
    rw [(t2 k).2]
    rcases Nat.lt_or_ge k b.bins.length with hk | hk
    · obtain ⟨r, m, v, h1, h2, h3, h4, h5, h6, h7⟩ := key k hk
      rw [h7, h5]
      rcases h1 with rfl | h1
      · rw [if_neg (by intro h; exact h.2 rfl)]; rfl
      · have h8 := hcold k hk
        rw [h6, decide_eq_false_iff_not] at h8
        have h9 := daysB_day (r := r) (m := m) (w := v) (by omega) (by omega)
        have h10 : daysB r m v ≤ 60 := by
          unfold daysB
          rw [decide_eq_false (by omega), cond_false, decide_eq_false (by omega), cond_false]
          exact Int.le_trans (Int.ediv_le_self _ (by omega)) (by omega)
        rw [if_pos ⟨hk, by omega⟩, h9.1]
    · rw [if_neg (by intro h; have : k < b.bins.length := h.1; omega), Barn.stw_out hk]
      unfold Dsk.mid
      rw [if_neg (fun h => by have := hl k h; omega), Barn.stw_out hk]
  · intro k hk hhot
    cases hnx : b.dsk.next (b.stw ws) l with
    | none => rfl
    | some t =>
      exfalso
      have h8 := ((b.dsk.next_at hn.2 (b.stw_len hb ws) hl hnx).2 k).1 hk
      obtain ⟨r, m, v, h1, h2, h3, h4, h5, h6, h7⟩ := key k hk
      rw [h6, decide_eq_true_eq] at hhot
      have h9 := daysB_hot (r := r) (m := m) (w := v) (by omega) h2 hhot
      rw [h5, h9] at h8
      omega
theorem Barn.run_burns {b : Barn} (hb : b.ok) : ∀ (p : List (List Nat)) (ws : List Int) (d0 : Nat), Cool b ws → (∀ l ∈ p, ∀ k ∈ l, k < b.bins.length) →
    (∃ ws', b.burnsF ws (p.map il) d0 = (none, ws') ∧ b.dsk.run (b.stw ws) p = some (b.stw ws') ∧ Cool b ws') ∨ (∃ q ws', b.burnsF ws (p.map il) d0 = (some q, ws') ∧ b.dsk.run (b.stw ws) p = none)
  | [], ws, d0, hc, _ => .inl ⟨ws, rfl, rfl, hc⟩
  | l :: p, ws, d0, hc, hl => by
    obtain ⟨r1, r2⟩ := Barn.run_day hb hc (hl l (by simp))
    rw [List.map_cons, b.burns_cons]
    cases hf : (List.range b.bins.length).find? (b.hotAt ws (il l)) with
    | some k =>
      rw [List.find?_range_eq_some] at hf
      refine .inr ⟨_, _, rfl, ?_⟩
      unfold Dsk.run
      rw [r2 k (List.mem_range.1 hf.2.1) hf.1]
    | none =>
      have hn : ∀ k < b.bins.length, b.hotAt ws (il l) k = false := fun k hk => by
        have := List.find?_eq_none.1 hf k (List.mem_range.2 hk)
        simpa using this
      dsimp only
      unfold Dsk.run
      rw [r1 hn]
      exact run_burns hb p _ (d0 + 1) (hc.next hb hn) (fun m hm => hl m (by simp [hm]))
theorem Dsk.trs_four {d : Dsk} (hd : d.ok) {l : List Nat} (h : l ∈ d.trs false) : l.length ≤ 4 := trs_len4 hd h
theorem Dsk.pth_le {d : Dsk} (hd : d.ok) : ∀ {n : Nat} {s t : HSt} {c : Nat}, d.pth n s t c → c ≤ 4 * n
  | 0, s, t, c, h => by obtain ⟨_, rfl⟩ := h; omega
  | n + 1, s, t, c, h => by
    obtain ⟨u, a, l, h1, h2, _, rfl⟩ := h
    have := pth_le hd h1
    have := d.trs_four hd h2
    omega
def Sxc (n : Nat) (g : Int) (la : List Int) (now : List (List Int)) (cs : List Int) (i u : Nat) (t : List Int) (x : Int) : Prop := ∃ j s v a, now[j]? = some s ∧ cs[j]? = some a ∧ (j < i ∨ (j = i ∧ v < u)) ∧ v < 2 ^ n ∧ rS n g la s v = some t ∧ x = a + ((bitl 4 v).length : Int)
theorem Sxc.sx {n : Nat} {g : Int} {la : List Int} {now : List (List Int)} {cs : List Int} {i u : Nat} {t : List Int} {x : Int} (h : Sxc n g la now cs i u t x) : Sx n g la now i u t := by
  obtain ⟨j, s, v, a, h1, _, h3, h4, h5, _⟩ := h
  exact ⟨j, s, v, h1, h3, h4, h5⟩
theorem Sxc.step {n : Nat} {g : Int} {la s t : List Int} {now : List (List Int)} {cs : List Int} {i u : Nat} {a x : Int} (hs : now[i]? = some s) (ha : cs[i]? = some a) (hu : u < 2 ^ n) : Sxc n g la now cs i (u + 1) t x ↔ Sxc n g la now cs i u t x ∨ (rS n g la s u = some t ∧ x = a + ((bitl 4 u).length : Int)) := by
  constructor
  · rintro ⟨j, s', v, a', h1, h2, h3, h4, h5, h6⟩
    rcases h3 with h3 | ⟨rfl, h3⟩
    · exact .inl ⟨j, s', v, a', h1, h2, .inl h3, h4, h5, h6⟩
    · rcases Nat.lt_or_ge v u with h7 | h7
      · exact .inl ⟨j, s', v, a', h1, h2, .inr ⟨rfl, h7⟩, h4, h5, h6⟩
      · obtain rfl : v = u := by omega
        rw [hs] at h1; cases h1; rw [ha] at h2; cases h2; exact .inr ⟨h5, h6⟩
  · rintro (⟨j, s', v, a', h1, h2, h3, h4, h5, h6⟩ | ⟨h5, h6⟩)
    · exact ⟨j, s', v, a', h1, h2, by omega, h4, h5, h6⟩
    · exact ⟨i, s, u, a, hs, ha, by omega, hu, h5, h6⟩
theorem Sxc.next {n : Nat} {g : Int} {la t : List Int} {now : List (List Int)} {cs : List Int} {i : Nat} {x : Int} : Sxc n g la now cs (i + 1) 0 t x ↔ Sxc n g la now cs i (2 ^ n) t x := by
  constructor
  · rintro ⟨j, s', v, a, h1, h2, h3, h4, h5⟩
    exact ⟨j, s', v, a, h1, h2, by omega, h4, h5⟩
  · rintro ⟨j, s', v, a, h1, h2, h3, h4, h5⟩
    exact ⟨j, s', v, a, h1, h2, by omega, h4, h5⟩
structure Bc (n : Nat) (g : Int) (la : List Int) (now : List (List Int)) (cs : List Int) (i u : Nat) (L : List (List Int)) (S : List Int) : Prop where
  bf : Bf n g la now i u L
  len : S.length = L.length
  val : ∀ (j : Nat) (t : List Int) (x : Int), L[j]? = some t → S[j]? = some x → Sxc n g la now cs i u t x ∧ ∀ y, Sxc n g la now cs i u t y → x ≤ y
theorem Bc.start {n : Nat} {g : Int} {la : List Int} {now : List (List Int)} {cs : List Int} : Bc n g la now cs 0 0 [] [] := ⟨Bf.start, rfl, fun j t x h => by simp at h⟩
theorem Bc.next {n : Nat} {g : Int} {la : List Int} {now : List (List Int)} {cs : List Int} {i : Nat} {L : List (List Int)} {S : List Int} (h : Bc n g la now cs i (2 ^ n) L S) : Bc n g la now cs (i + 1) 0 L S :=
  ⟨h.bf.next, h.len, fun j t x h1 h2 => by
    obtain ⟨h3, h4⟩ := h.val j t x h1 h2
    exact ⟨Sxc.next.2 h3, fun y hy => h4 y (Sxc.next.1 hy)⟩⟩
theorem Bc.skip {n : Nat} {g : Int} {la s : List Int} {now : List (List Int)} {cs : List Int} {i u : Nat} {L : List (List Int)} {S : List Int} {a : Int} (h : Bc n g la now cs i u L S) (hs : now[i]? = some s) (ha : cs[i]? = some a) (hu : u < 2 ^ n) (hn : rS n g la s u = none) : Bc n g la now cs i (u + 1) L S :=
  ⟨h.bf.skip hs hu (fun t ht => by rw [hn] at ht; cases ht), h.len, fun j t x h1 h2 => by
    obtain ⟨h3, h4⟩ := h.val j t x h1 h2
    refine ⟨(Sxc.step hs ha hu).2 (.inl h3), fun y hy => ?_⟩
    rcases (Sxc.step hs ha hu).1 hy with h5 | ⟨h5, _⟩
    · exact h4 y h5
    · rw [hn] at h5; cases h5⟩
theorem Bc.add {n : Nat} {g : Int} {la s t : List Int} {now : List (List Int)} {cs : List Int} {i u : Nat} {L : List (List Int)} {S : List Int} {a : Int} (h : Bc n g la now cs i u L S) (hs : now[i]? = some s) (ha : cs[i]? = some a) (hu : u < 2 ^ n) (ht : rS n g la s u = some t) (hn : t ∉ L) :
    Bc n g la now cs i (u + 1) (L ++ [t]) (S ++ [a + ((bitl 4 u).length : Int)]) where
  bf := h.bf.add hs hu ht hn
  len := by rw [List.length_append, List.length_append, h.len]; rfl
  val j t' x h1 h2 := by
    have hl := h.len
    rcases Nat.lt_or_ge j L.length with hj | hj
    · rw [List.getElem?_append_left hj] at h1
      rw [List.getElem?_append_left (by omega)] at h2
      obtain ⟨h3, h4⟩ := h.val j t' x h1 h2
      refine ⟨(Sxc.step hs ha hu).2 (.inl h3), fun y hy => ?_⟩
      rcases (Sxc.step hs ha hu).1 hy with h5 | ⟨h5, _⟩
      · exact h4 y h5
      · rw [ht] at h5; cases h5; exact absurd (List.mem_of_getElem? h1) hn
    · have hj2 := (List.getElem?_eq_some_iff.1 h1).1
      rw [List.length_append, List.length_singleton] at hj2
      obtain rfl : j = L.length := by omega
      rw [List.getElem?_append_right (Nat.le_refl _), Nat.sub_self] at h1
      rw [← hl, List.getElem?_append_right (Nat.le_refl _), Nat.sub_self] at h2
      cases h1; cases h2
      refine ⟨(Sxc.step hs ha hu).2 (.inr ⟨ht, rfl⟩), fun y hy => ?_⟩
      rcases (Sxc.step hs ha hu).1 hy with h5 | ⟨_, h5⟩
      · exact absurd ((h.bf.mem _).2 h5.sx) hn
      · rw [h5]; exact Int.le_refl _
theorem Bc.low {n : Nat} {g : Int} {la s t : List Int} {now : List (List Int)} {cs : List Int} {i u k : Nat} {L : List (List Int)} {S : List Int} {a x : Int} (h : Bc n g la now cs i u L S) (hs : now[i]? = some s) (ha : cs[i]? = some a) (hu : u < 2 ^ n) (ht : rS n g la s u = some t) (hk : L[k]? = some t) (hx : S[k]? = some x) :
    Bc n g la now cs i (u + 1) L (S.set k (min x (a + ((bitl 4 u).length : Int)))) where
  bf := h.bf.skip hs hu (fun t2 ht2 => by rw [ht] at ht2; cases ht2; exact List.mem_of_getElem? hk)
  len := by rw [List.length_set, h.len]
  val j t' y h1 h2 := by
    have hl := h.len
    have hkl := (List.getElem?_eq_some_iff.1 hk).1
    by_cases hj : k = j
    · subst hj
      rw [hk] at h1; cases h1
      rw [List.getElem?_set_self (by omega)] at h2; cases h2
      obtain ⟨h3, h4⟩ := h.val k t x hk hx
      refine ⟨(Sxc.step hs ha hu).2 ?_, fun y hy => ?_⟩
      · rcases Int.le_total x (a + ((bitl 4 u).length : Int)) with h5 | h5
        · rw [Int.min_eq_left h5]; exact .inl h3
        · rw [Int.min_eq_right h5]; exact .inr ⟨ht, rfl⟩
      · rcases (Sxc.step hs ha hu).1 hy with h5 | ⟨_, h5⟩
        · have := h4 y h5; omega
        · omega
    · rw [List.getElem?_set_ne hj] at h2
      obtain ⟨h3, h4⟩ := h.val j t' y h1 h2
      refine ⟨(Sxc.step hs ha hu).2 (.inl h3), fun z hz => ?_⟩
      rcases (Sxc.step hs ha hu).1 hz with h5 | ⟨h5, _⟩
      · exact h4 z h5
      · rw [ht] at h5; cases h5
        exact absurd ((List.getElem?_inj hkl h.bf.nd).1 (hk.trans h1.symm)) hj
structure Lvc (d : Dsk) (s0 : HSt) (day : Nat) (L : List (List Int)) (C : List Int) : Prop where
  lv : Lv d s0 day L
  len : C.length = L.length
  val : ∀ (j : Nat) (t : List Int) (x : Int), L[j]? = some t → C[j]? = some x → ∃ c : Nat, x = c ∧ d.pth day s0 (pad t) c ∧ ∀ c', d.pth day s0 (pad t) c' → c ≤ c'
theorem Lvc.start {d : Dsk} {s : List Int} (hs : s.length = d.n) : Lvc d (pad s) 0 [s] [0] := ⟨Lv.start hs, rfl, fun j t x h1 h2 => by
  cases j with
  | succ j => simp at h1
  | zero => cases h1; cases h2; exact ⟨0, rfl, ⟨rfl, rfl⟩, fun c' _ => Nat.zero_le _⟩⟩
theorem Lvc.next {d : Dsk} (hd : d.ok) {s0 : HSt} (h0 : d.inS s0) {la : List Int} (hla : ∀ k < d.n, na la k = na d.lasts k) {day : Nat} {now L : List (List Int)} {cs S : List Int} (h : Lvc d s0 day now cs) (hb : Bc d.n d.gangs la now cs now.length 0 L S) : Lvc d s0 (day + 1) L S where
  lv := h.lv.next hd h0 hla hb.bf
  len := hb.len
  val j t x h1 h2 := by
    have hn := hd.n
    have htl := hb.bf.len t (List.mem_of_getElem? h1)
    obtain ⟨⟨i, s, v, a, g1, g2, _, g4, g5, rfl⟩, h4⟩ := hb.val j t x h1 h2
    obtain ⟨ca, rfl, hp, _⟩ := h.val i s a g1 g2
    have hsl := h.lv.len s (List.mem_of_getElem? g1)
    obtain ⟨k1, k2⟩ := (rS_iff hd hla hsl htl g4).1 g5
    have e4 := ones_eq hn.2 g4
    refine ⟨ca + (bitl d.n v).length, by rw [e4]; push_cast; rfl, ⟨_, ca, _, hp, k1, k2, rfl⟩, fun c' hc' => ?_⟩
    obtain ⟨u, a', l, p1, p2, p3, rfl⟩ := hc'
    have hu := d.pth_inS hd h0 p1
    have eu := inS_pad hd hu
    have hul : (u.take d.n).length = d.n := by rw [List.length_take, hu.len]; omega
    have hmem : u.take d.n ∈ now := (h.lv.mem _ hul).2 ⟨a', by rw [eu]; exact p1⟩
    obtain ⟨i2, hi2⟩ := List.getElem?_of_mem hmem
    have hi2l := (List.getElem?_eq_some_iff.1 hi2).1
    obtain ⟨y, hy⟩ : ∃ y, cs[i2]? = some y := ⟨_, List.getElem?_eq_getElem (by rw [h.len]; exact hi2l)⟩
    obtain ⟨cy, rfl, _, hmin⟩ := h.val i2 _ y hi2 hy
    rw [eu] at hmin
    have := hmin a' p1
    obtain ⟨w, hw, rfl, _⟩ := d.mem_trs.1 p2
    have e5 := ones_eq hn.2 hw
    have := h4 _ ⟨i2, _, w, _, hi2, hy, .inl hi2l, hw, (rS_iff hd hla hul htl hw).2 ⟨p2, by rw [eu]; exact p3⟩, rfl⟩
    omega
theorem Lvc.few {d : Dsk} (hd : d.ok) {s0 : HSt} (h0 : d.inS s0) {day : Nat} {L : List (List Int)} {C : List Int} (h : Lvc d s0 day L C) {j : Nat} {x : Int} (hx : C[j]? = some x) (hm : ∀ (i : Nat) (y : Int), C[i]? = some y → x ≤ y) : ∃ c : Nat, x = c ∧ FewC d s0 day c := by
  have hj := (List.getElem?_eq_some_iff.1 hx).1
  have hl := h.len
  obtain ⟨t, ht⟩ : ∃ t, L[j]? = some t := ⟨_, List.getElem?_eq_getElem (by omega)⟩
  obtain ⟨c, rfl, hp, _⟩ := h.val j t x ht hx
  refine ⟨c, rfl, ⟨_, hp⟩, fun u c' hu => ?_⟩
  have hi := d.pth_inS hd h0 hu
  have eu := inS_pad hd hi
  have hn := hd.n
  have hmem : u.take d.n ∈ L := (h.lv.mem _ (by rw [List.length_take, hi.len]; omega)).2 ⟨c', by rw [eu]; exact hu⟩
  obtain ⟨i2, hi2⟩ := List.getElem?_of_mem hmem
  have hi2l := (List.getElem?_eq_some_iff.1 hi2).1
  obtain ⟨y, hy⟩ : ∃ y, C[i2]? = some y := ⟨_, List.getElem?_eq_getElem (by omega)⟩
  obtain ⟨cy, rfl, _, hmin⟩ := h.val i2 _ y hi2 hy
  rw [eu] at hmin
  have := hmin c' hu
  have := hm i2 _ hy
  omega
theorem Lvc.none {d : Dsk} (hd : d.ok) {s0 : HSt} (h0 : d.inS s0) {day : Nat} {L : List (List Int)} {C : List Int} (h : Lvc d s0 day L C) (hc : C = []) : ¬ ∃ t c, d.pth day s0 t c := by
  rintro ⟨u, c', hu⟩
  have hi := d.pth_inS hd h0 hu
  have eu := inS_pad hd hi
  have hn := hd.n
  have hmem : u.take d.n ∈ L := (h.lv.mem _ (by rw [List.length_take, hi.len]; omega)).2 ⟨c', by rw [eu]; exact hu⟩
  have hl := h.len
  rw [hc] at hl
  rw [List.length_eq_zero_iff.1 hl.symm] at hmem
  cases hmem
theorem Lvc.bd {d : Dsk} (hd : d.ok) {s0 : HSt} {day : Nat} {L : List (List Int)} {C : List Int} (h : Lvc d s0 day L C) {j : Nat} {x : Int} (hx : C[j]? = some x) : 0 ≤ x ∧ x ≤ 4 * (day : Int) := by
  have hj := (List.getElem?_eq_some_iff.1 hx).1
  have hl := h.len
  obtain ⟨t, ht⟩ : ∃ t, L[j]? = some t := ⟨_, List.getElem?_eq_getElem (by omega)⟩
  obtain ⟨c, rfl, hp, _⟩ := h.val j t x ht hx
  have := d.pth_le hd hp
  omega
theorem Bc.bd {n : Nat} {g : Int} {la : List Int} {now : List (List Int)} {cs : List Int} {i u : Nat} {L : List (List Int)} {S : List Int} {B : Int} (h : Bc n g la now cs i u L S) (hc : ∀ (j : Nat) (x : Int), cs[j]? = some x → 0 ≤ x ∧ x ≤ B) {j : Nat} {x : Int} (hx : S[j]? = some x) : 0 ≤ x ∧ x ≤ B + 4 := by
  have hj := (List.getElem?_eq_some_iff.1 hx).1
  have hl := h.len
  obtain ⟨t, ht⟩ : ∃ t, L[j]? = some t := ⟨_, List.getElem?_eq_getElem (by omega)⟩
  obtain ⟨⟨i, s, v, a, _, g2, _, _, _, rfl⟩, _⟩ := h.val j t x ht hx
  have := hc _ _ g2
  have := ones_le v
  omega
def RTurn (b : Barn) (n : Nat) (m : Int) : Prop := (m = -1 ∧ ¬ ∃ t c, b.dsk.pth n b.state t c) ∨ ∃ c : Nat, m = c ∧ FewC b.dsk b.state n c
def MinI (cs : List Int) (i : Nat) (m : Int) : Prop := (i = 0 ∧ m = -1) ∨ (0 < i ∧ 0 ≤ m ∧ (∃ j : Nat, cs[j]? = some m) ∧ ∀ (j : Nat) (x : Int), j < i → cs[j]? = some x → m ≤ x)
theorem MinI.take {cs : List Int} {i : Nat} {m x : Int} (h : MinI cs i m) (hx : cs[i]? = some x) (h0 : 0 ≤ x) (hc : m < 0 ∨ x < m) : MinI cs (i + 1) x := by
  refine .inr ⟨by omega, h0, ⟨i, hx⟩, fun j y hj hy => ?_⟩
  rcases Nat.lt_or_ge j i with h1 | h1
  · rcases h with ⟨rfl, _⟩ | ⟨_, h2, _, h3⟩
    · omega
    · have := h3 j y h1 hy; omega
  · obtain rfl : j = i := by omega
    rw [hx] at hy; cases hy; exact Int.le_refl _
theorem MinI.keep {cs : List Int} {i : Nat} {m x : Int} (h : MinI cs i m) (hx : cs[i]? = some x) (h0 : ¬ m < 0) (hc : ¬ x < m) : MinI cs (i + 1) m := by
  rcases h with ⟨_, rfl⟩ | ⟨h1, h2, h3, h4⟩
  · omega
  · refine .inr ⟨by omega, h2, h3, fun j y hj hy => ?_⟩
    rcases Nat.lt_or_ge j i with h5 | h5
    · exact h4 j y h5 hy
    · obtain rfl : j = i := by omega
      rw [hx] at hy; cases hy; omega
theorem MinI.done {b : Barn} (hok : b.ok) {n : Nat} {L : List (List Int)} {cs : List Int} (h : Lvc b.dsk b.state n L cs) {m : Int} (hm : MinI cs cs.length m) : RTurn b n m := by
  have hdk := b.dsk_ok hok
  have hst := b.state_inS hok
  rcases hm with ⟨h1, rfl⟩ | ⟨_, _, ⟨j, hj⟩, h4⟩
  · exact .inl ⟨rfl, h.none hdk hst (List.length_eq_zero_iff.1 h1)⟩
  · exact .inr (h.few hdk hst hj fun i y hy => h4 i y (List.getElem?_eq_some_iff.1 hy).1 hy)
end Go.Proofs.Ytelegnmfhjfbaaa
namespace Go.Proofs.Ytelegnmfhjfbaaa
set_option linter.unusedSimpArgs false
set_option linter.unusedVariables false
open Go
structure Les (d d' : Dsk) : Prop where
  n : d.n = d'.n
  g : d.gangs ≤ d'.gangs
  lasts : ∀ k < d.n, na d.lasts k ≤ na d'.lasts k
theorem Les.next {d d' : Dsk} (h : Les d d') (hd : d.ok) (hd' : d'.ok) {s s' t : HSt} (hs : d.inS s) (hs' : d'.inS s') (hle : ∀ k < d.n, na s k ≤ na s' k) {l : List Nat} (hl : ∀ k ∈ l, k < d.n) (e : d.next s l = some t) : ∃ t', d'.next s' l = some t' ∧ ∀ k < d.n, na t k ≤ na t' k := by
  have hn := h.n
  obtain ⟨_, h2⟩ := d.next_at hd.n.2 hs.len hl e
  have hl' : ∀ k ∈ l, k < d'.n := fun k hk => by have := hl k hk; omega
  have hm : ∀ k < d.n, d.mid s l k ≤ d'.mid s' l k := fun k hk => by
    have h4 := hle k hk
    have h5 := h.lasts k hk
    unfold Dsk.mid
    by_cases h3 : k ∈ l
    · rw [if_pos h3, if_pos h3]; omega
    · rw [if_neg h3, if_neg h3]; exact h4
  obtain ⟨t', ht'⟩ := d'.next_some hd'.n.2 hs'.len hl' (fun k hk => by
    have hk0 : k < d.n := by omega
    have := hm k hk0; have := (h2 k).1 hk0; have := d.inS_mid hd hs l hk0; have := d'.inS_mid hd' hs' l hk; have := (hd.ever k hk0).2.1; have := (hd'.ever k hk).2.1; omega)
  refine ⟨t', ht', fun k hk => ?_⟩
  have hk' : k < d'.n := by omega
  obtain ⟨_, h3⟩ := d'.next_at hd'.n.2 hs'.len hl' ht'
  have a1 := (h2 k).2; have a2 := (h3 k).2
  have := hm k hk
  have b1 := d.inS_mid hd hs l hk; have b2 := d'.inS_mid hd' hs' l hk'
  have := (hd.ever k hk).2.1; have := (hd'.ever k hk').2.1
  rw [a1, a2]
  split <;> split <;> omega
theorem Les.trs {d d' : Dsk} (h : Les d d') {l : List Nat} (hl : l ∈ d.trs false) : l ∈ d'.trs false := by
  obtain ⟨u, hu, rfl, h1, _⟩ := d.mem_trs.1 hl
  have hn := h.n; have hg := h.g
  refine d'.mem_trs.2 ⟨u, by rw [← hn]; exact hu, by rw [← hn], ?_, fun h => by cases h⟩
  unfold Dsk.g at h1 ⊢
  omega
theorem Les.pth {d d' : Dsk} (h : Les d d') (hd : d.ok) (hd' : d'.ok) {s s' : HSt} (hs : d.inS s) (hs' : d'.inS s') (hle : ∀ k < d.n, na s k ≤ na s' k) : ∀ {n : Nat} {t : HSt} {c : Nat}, d.pth n s t c → ∃ t', d'.pth n s' t' c ∧ ∀ k < d.n, na t k ≤ na t' k
  | 0, t, c, hp => by obtain ⟨rfl, rfl⟩ := hp; exact ⟨s', ⟨rfl, rfl⟩, hle⟩
  | n + 1, t, c, hp => by
    obtain ⟨u, a, l, h1, h2, h3, rfl⟩ := hp
    obtain ⟨u', i1, i2⟩ := Les.pth h hd hd' hs hs' hle h1
    obtain ⟨t', j1, j2⟩ := h.next hd hd' (d.pth_inS hd hs h1) (d'.pth_inS hd' hs' i1) i2 (d.trs_lt h2) h3
    exact ⟨t', ⟨u', a, l, i1, h.trs h2, j1, rfl⟩, j2⟩
theorem Les.run {d d' : Dsk} (h : Les d d') (hd : d.ok) (hd' : d'.ok) : ∀ {p : List (List Nat)} {s s' t : HSt}, d.inS s → d'.inS s' → (∀ k < d.n, na s k ≤ na s' k) → (∀ l ∈ p, l ∈ d.trs false) → d.run s p = some t → ∃ t', d'.run s' p = some t' ∧ ∀ k < d.n, na t k ≤ na t' k
  | [], s, s', t, _, _, hle, _, hr => by cases hr; exact ⟨s', rfl, hle⟩
  | l :: p, s, s', t, hs, hs', hle, hp, hr => by
    unfold Dsk.run at hr
    split at hr
    · cases hr
    · rename_i u hu
      obtain ⟨u', j1, j2⟩ := h.next hd hd' hs hs' hle (d.trs_lt (hp l (by simp))) hu
      have hlt := d'.trs_lt (h.trs (hp l (by simp)))
      obtain ⟨t', i1, i2⟩ := Les.run h hd hd' (d.next_inS hd hs (d.trs_lt (hp l (by simp))) hu) (d'.next_inS hd' hs' hlt j1) j2 (fun m hm => hp m (by simp [hm])) hr
      refine ⟨t', ?_, i2⟩
      unfold Dsk.run
      rw [j1]; exact i1
theorem kpt_pth {d : Dsk} (hd : d.ok) {s : HSt} (hs : d.inS s) {v : Int} (h : Kpt d s v) (n : Nat) : (∃ t c, d.pth n s t c) ↔ v = 1000000 ∨ (n : Int) ≤ v := by
  rw [← d.alive_iff hd hs]
  rcases h with ⟨rfl, h1⟩ | ⟨j, hj, rfl, h1, h2⟩
  · exact ⟨fun _ => .inl rfl, fun _ => h1 n⟩
  · constructor
    · intro h3
      right
      rcases Nat.lt_or_ge j n with h4 | h4
      · exact absurd (d.alive_le (by omega) h3) h2
      · omega
    · rintro (h3 | h3)
      · omega
      · exact d.alive_le (by omega) h1
theorem kpt_nn {d : Dsk} {s : HSt} {v : Int} (h : Kpt d s v) : 0 ≤ v ∧ (v = 1000000 ∨ v ≤ 14641) := by
  rcases h with ⟨rfl, _⟩ | ⟨j, hj, rfl, _⟩ <;> omega
theorem kpt_le {d d' : Dsk} (hd : d.ok) (hd' : d'.ok) {s s' : HSt} (hs : d.inS s) (hs' : d'.inS s') (hp : ∀ n, (∃ t c, d.pth n s t c) → ∃ t c, d'.pth n s' t c) {v v' : Int} (h : Kpt d s v) (h' : Kpt d' s' v') : v ≤ v' ∧ (v = 1000000 → v' = 1000000) := by
  have n1 := kpt_nn h; have n2 := kpt_nn h'
  have key : ∀ n : Nat, (v = 1000000 ∨ (n : Int) ≤ v) → (v' = 1000000 ∨ (n : Int) ≤ v') := fun n hn => (kpt_pth hd' hs' h' n).1 (hp n ((kpt_pth hd hs h n).2 hn))
  rcases Int.lt_or_le v' 1000000 with h1 | h1
  · have h2 := key (v'.toNat + 1)
    have h3 := key v.toNat
    omega
  · omega
theorem Les.kpt {d d' : Dsk} (h : Les d d') (hd : d.ok) (hd' : d'.ok) {s s' : HSt} (hs : d.inS s) (hs' : d'.inS s') (hle : ∀ k < d.n, na s k ≤ na s' k) {v v' : Int} (hv : Kpt d s v) (hv' : Kpt d' s' v') : v ≤ v' ∧ (v = 1000000 → v' = 1000000) :=
  kpt_le hd hd' hs hs' (fun _ ⟨_, c, hp⟩ => by obtain ⟨t', i, _⟩ := h.pth hd hd' hs hs' hle hp; exact ⟨t', c, i⟩) hv hv'
theorem Les.few {d d' : Dsk} (h : Les d d') (hd : d.ok) (hd' : d'.ok) {s s' : HSt} (hs : d.inS s) (hs' : d'.inS s') (hle : ∀ k < d.n, na s k ≤ na s' k) {n c c' : Nat} (hc : FewC d s n c) (hc' : FewC d' s' n c') : c' ≤ c := by
  obtain ⟨t, ht⟩ := hc.is
  obtain ⟨t', i, _⟩ := h.pth hd hd' hs hs' hle ht
  exact hc'.le _ _ i
structure PlnOk (b : Barn) (n c : Nat) (p : List (List Nat)) : Prop where
  few : FewC b.dsk b.state n c
  len : p.length = n
  trs : ∀ l ∈ p, l ∈ b.dsk.trs false
  run : ∃ t, b.dsk.run b.state p = some t
  sum : turnsN p = c
theorem plan_facts {b : Barn} (hok : b.ok) (hck : b.check = 0) {n : Nat} (hn : n ≤ 20) : (planE b n = 6 ∧ turnsV b n = 0 ∧ ¬ ∃ t c, b.dsk.pth n b.state t c) ∨ ∃ (c : Nat) (p : List (List Nat)), planE b n = 0 ∧ turnsV b n = c ∧ planLs b n = p.map il ∧ PlnOk b n c p := by
  have hin : inB (n : Int) 0 20 = true := by simp [inB]; omega
  have he : planE b n = bif (bestT b.dsk (mday b.dsk b.state n) b.dsk.nst).isNone then 6 else 0 := by
    unfold planE; rw [decide_eq_true hck, hin, Int.toNat_natCast]; rfl
  rcases best_few (b.dsk_ok hok) (b.state_inS hok) n with ⟨h1, h2⟩ | ⟨s, c, h1, h2, h3, h4, h5, h6⟩
  · have e6 : planE b n = 6 := by rw [he, h1]; rfl
    exact .inl ⟨e6, by unfold turnsV; rw [e6]; rfl, h2⟩
  · have e0 : planE b n = 0 := by rw [he, h1]; rfl
    refine .inr ⟨c, backP b.dsk b.state n s, e0, by unfold turnsV; rw [e0, Int.toNat_natCast, h1]; rfl, by unfold planLs; rw [Int.toNat_natCast, h1]; rfl, h2, h3, h4, ⟨s, h5⟩, h6⟩
end Go.Proofs.Ytelegnmfhjfbaaa
namespace Go.Proofs.Ytelegnmfhjfbaaa
set_option linter.unusedSimpArgs false
set_option linter.unusedVariables false
open Go
structure RndOk (b : Barn) (p q : List (List Nat)) : Prop where
  hp : ∀ l ∈ p, l ∈ b.dsk.trs true
  hq : ∀ l ∈ q, l ∈ b.dsk.trs true
  ne : q ≠ []
  len : p.length + q.length ≤ 14641
  run : ∃ u, b.dsk.run b.state p = some u ∧ b.dsk.run u q = some u
theorem Dsk.run_rep {d : Dsk} {u : HSt} {q : List (List Nat)} (h : d.run u q = some u) : ∀ n, d.run u (List.replicate n q).flatten = some u
  | 0 => rfl
  | n + 1 => by
    rw [List.replicate_succ, List.flatten_cons, d.run_app, h]
    exact run_rep h n
theorem RndOk.goes {b : Barn} (hb : b.ok) {p q : List (List Nat)} (h : RndOk b p q) : b.goes (p.map il) (q.map il) := fun n => by
  obtain ⟨u, h1, h2⟩ := h.run
  have e : p.map il ++ rep n (q.map il) = (p ++ (List.replicate n q).flatten).map il := by
    unfold rep
    rw [List.map_append, List.map_flatten, List.map_replicate]
  rw [e]
  have hr : b.dsk.run (b.stw b.warms) (p ++ (List.replicate n q).flatten) = some u := by
    rw [Barn.stw_warms hb, b.dsk.run_app, h1]
    exact Dsk.run_rep h2 n
  rcases Barn.run_burns hb (p ++ (List.replicate n q).flatten) b.warms 0 (Cool.start hb) (fun l hl k hk => by
    rcases List.mem_append.1 hl with hl | hl
    · exact b.dsk.trs_lt (h.hp l hl) k hk
    · obtain ⟨r, hr, hl⟩ := List.mem_flatten.1 hl
      rw [(List.mem_replicate.1 hr).2] at hl
      exact b.dsk.trs_lt (h.hq l hl) k hk) with ⟨ws, h3, _⟩ | ⟨x, ws, _, h4⟩
  · rw [h3]
  · rw [hr] at h4; cases h4
structure Met (d : Dsk) (s0 : HSt) (S : List HSt) (p : List (List Nat)) (s : HSt) : Prop where
  len : S.length = p.length
  nd : S.Nodup
  trs : ∀ l ∈ p, l ∈ d.trs true
  at_ : ∀ j t, S[j]? = some t → d.run s0 (p.take j) = some t ∧ d.inS t
  run : d.run s0 p = some s
  inS : d.inS s
  ever : ∀ m, s ∈ d.alive m
theorem Met.start {d : Dsk} {s : HSt} (h : d.inS s) (he : ∀ m, s ∈ d.alive m) : Met d s [] [] s := ⟨rfl, List.nodup_nil, by simp, by simp, rfl, h, he⟩
theorem Met.few {d : Dsk} (hd : d.ok) {s0 s : HSt} {S : List HSt} {p : List (List Nat)} (h : Met d s0 S p s) : S.length ≤ d.nst := by
  have := nodup_len h.nd (m := d.sts) fun t ht => by
    obtain ⟨j, hj⟩ := List.getElem?_of_mem ht
    exact (d.mem_sts hd t).2 (h.at_ j t hj).2
  rw [d.sts_len] at this
  exact this
theorem Met.next {d : Dsk} (hd : d.ok) {s0 s t : HSt} {S : List HSt} {p : List (List Nat)} (h : Met d s0 S p s) (hs : s ∉ S) {l : List Nat} (hl : l ∈ d.trs true) (hn : d.next s l = some t) (he : ∀ m, t ∈ d.alive m) : Met d s0 (S ++ [s]) (p ++ [l]) t where
  len := by rw [List.length_append, List.length_append, h.len]; rfl
  nd := List.nodup_append.2 ⟨h.nd, by simp, fun x hx y hy e => hs (by rw [← List.mem_singleton.1 hy, ← e]; exact hx)⟩
  trs m hm := by
    rcases List.mem_append.1 hm with hm | hm
    · exact h.trs m hm
    · rw [List.mem_singleton.1 hm]; exact hl
  at_ j u hu := by
    have hlen := h.len
    rcases Nat.lt_or_ge j S.length with hj | hj
    · rw [List.getElem?_append_left hj] at hu
      rw [List.take_append_of_le_length (by omega)]
      exact h.at_ j u hu
    · have hj2 := (List.getElem?_eq_some_iff.1 hu).1
      rw [List.length_append, List.length_singleton] at hj2
      obtain rfl : j = S.length := by omega
      rw [List.getElem?_append_right (Nat.le_refl _), Nat.sub_self] at hu
      cases hu
      rw [hlen, List.take_left]
      exact ⟨h.run, h.inS⟩
  run := by rw [d.run_app, h.run]; dsimp only; rw [d.run_one]; exact hn
  inS := d.next_inS hd h.inS (d.trs_lt hl) hn
  ever := he
theorem Met.done {b : Barn} (hok : b.ok) {s : HSt} {S : List HSt} {p : List (List Nat)} (h : Met b.dsk b.state S p s) {j : Nat} (hj : S[j]? = some s) : RndOk b (p.take j) (p.drop j) := by
  have hjl := (List.getElem?_eq_some_iff.1 hj).1
  have hlen := h.len
  have hf := h.few (b.dsk_ok hok)
  have hn := (b.dsk.nst_le (b.dsk_ok hok)).2
  refine ⟨fun l hl => h.trs l (List.mem_of_mem_take hl), fun l hl => h.trs l (List.mem_of_mem_drop hl), fun e => ?_, ?_, s, (h.at_ j s hj).1, ?_⟩
  · have := congrArg List.length e
    rw [List.length_drop, List.length_nil] at this; omega
  · rw [List.length_take, List.length_drop]; omega
  · have h1 := h.run
    rw [← List.take_append_drop j p, b.dsk.run_app, (h.at_ j s hj).1] at h1
    exact h1
theorem Inn.sub {l k : List PL} (h : ∀ x ∈ k, x ∈ l) {w : World} (hi : Inn l w) : Inn k w := fun x hx => hi x (h x hx)
end Go.Proofs.Ytelegnmfhjfbaaa
namespace Go.Proofs.Ytelegnmfhjfbaaa
set_option linter.unusedSimpArgs false
set_option linter.unusedVariables false
open Go
structure RWant (b : Barn) (p q : List (List Int)) (w u : Int) (g : Bool) : Prop where
  u : u = goesErr b p q
  g : g = true ↔ goesErr b p q = 0 ∧ b.goes p q
  w : (b.check ≠ 0 ∧ w = b.check) ∨ (b.check = 0 ∧ w = 0 ∧ Kpt b.dsk b.state 1000000) ∨ (b.check = 0 ∧ w = 6 ∧ ∃ v, v ≠ 1000000 ∧ Kpt b.dsk b.state v)
theorem RWant.w1 {b : Barn} {p q : List (List Int)} {w u : Int} {g : Bool} (h : RWant b p q w u g) (hc : b.check ≠ 0) : w = b.check := by
  rcases h.w with ⟨_, h2⟩ | ⟨h1, _⟩ | ⟨h1, _⟩
  · exact h2
  · exact absurd h1 hc
  · exact absurd h1 hc
theorem RWant.w2 {b : Barn} {p q : List (List Int)} {w u : Int} {g : Bool} (h : RWant b p q w u g) (hc : b.check = 0) (hk : ∃ v, v ≠ 1000000 ∧ Kpt b.dsk b.state v) : w = 6 := by
  obtain ⟨v, hv, hk⟩ := hk
  rcases h.w with ⟨h1, _⟩ | ⟨_, _, h2⟩ | ⟨_, h2, _⟩
  · exact absurd hc h1
  · exact absurd (kpt_unique hk h2) hv
  · exact h2
theorem RWant.w3 {b : Barn} {p q : List (List Int)} {w u : Int} {g : Bool} (h : RWant b p q w u g) (hc : b.check = 0) (hk : Kpt b.dsk b.state 1000000) : w = 0 := by
  rcases h.w with ⟨h1, _⟩ | ⟨_, h2, _⟩ | ⟨_, _, v, hv, h3⟩
  · exact absurd hc h1
  · exact h2
  · exact absurd (kpt_unique h3 hk) hv
theorem RWant.val {b : Barn} {p q : List (List Int)} {w u : Int} {g : Bool} (h : RWant b p q w u g) {v : Value} (hv : GoesQ b p q v) : v = .tuple #[.bool g, .int .i64 u] := by
  rcases hv with ⟨h1, rfl⟩ | ⟨h1, is, h2, rfl⟩
  · have e : g = false := by
      cases hg : g with
      | false => rfl
      | true => exact absurd (h.g.1 hg).1 h1
    rw [e, h.u]
  · have e : is = g := by
      rw [Bool.eq_iff_iff, h2, h.g]
      exact ⟨fun h3 => ⟨h1, h3⟩, fun h3 => h3.2⟩
    rw [e, h.u, h1]
end Go.Proofs.Ytelegnmfhjfbaaa
namespace Go.Proofs.Ytelegnmfhjfbaaa
set_option linter.unusedSimpArgs false
set_option linter.unusedVariables false
open Go
theorem cal111 : cal Try.prog 111 = true := by kernel_rfl
theorem cal120 : cal Try.prog 120 = true := by kernel_rfl
theorem cal63 : cal Try.prog 63 = true := by kernel_rfl
theorem cal65 : cal Try.prog 65 = true := by kernel_rfl
theorem cn142 : cellN Try.prog 142 = some 1 := by kernel_rfl
theorem el73 : elN Try.prog 73 = some 1 := by kernel_rfl
theorem fo144_0 : fOff Try.prog 144 0 = some 0 := by kernel_rfl
theorem fo144_1 : fOff Try.prog 144 1 = some 1 := by kernel_rfl
theorem fo144_2 : fOff Try.prog 144 2 = some 2 := by kernel_rfl
theorem ik142 : intK Try.prog 142 = some .u32 := by kernel_rfl
theorem ik3 : intK Try.prog 3 = some .i64 := by kernel_rfl
theorem isl73 : isSl Try.prog 73 = true := by kernel_rfl
theorem pl144 : placeL Try.prog 144 = some [(0, 1), (1, 1), (2, 1)] := by kernel_rfl
theorem sc142 : scal Try.prog 142 = true := by kernel_rfl
theorem sc5 : scal Try.prog 5 = true := by kernel_rfl
theorem sc73 : scal Try.prog 73 = true := by kernel_rfl
theorem us142 : (Try.prog.underlying 142).isSome = true := by kernel_rfl
theorem us3 : (Try.prog.underlying 3).isSome = true := by kernel_rfl
theorem us5 : (Try.prog.underlying 5).isSome = true := by kernel_rfl
theorem zl144 : zeroL Try.prog 144 = some ([.slice none 0 0, .int .i64 0, .int .u32 0]) := by kernel_rfl
def nn (l : List Int) (k : Nat) : Int := l.getD k 0
theorem nn_set {l : List Int} {i j : Nat} {v : Int} (h : i < l.length) : nn (l.set i v) j = bif i == j then v else nn l j := by
  unfold nn
  rw [List.getD_eq_getElem?_getD, List.getD_eq_getElem?_getD, List.getElem?_set]
  by_cases e : i = j
  · subst e; rw [if_pos rfl, if_pos h]; simp
  · rw [if_neg e, show (i == j) = false from by simpa using e]; rfl
def urow (x : Int) : List Value := [.int .u8 x]
def urows (l : List Int) : List (List Value) := l.map urow
theorem c_Fill (g : List Int) (ag : Option Addr) (cg : Nat) (hgl : g.length ≤ 9223372036854775807) (H : Heap) (R : Facts) :
    Fn Try.prog 45 [.slice ag g.length cg] H R (fun v H' R' => ∃ bk, ∃ mx : Int, (0 ≤ mx ∧ mx ≤ 4294967295) ∧ v = .pointer (some ⟨bk, 0, none⟩) ∧ H' = (bk, cel 144 [.slice ag g.length cg, .int .i64 (0), .int .u32 (mx)]) :: H ∧ R' = R) := by
 refine fn_of Try.func45 rfl Try.ntmps45 rfl ?_
 refine sy_seq ?_
 refine sy_tx' [0] rfl ?_
 refine sp rfl (PE.assign rfl) rfl ?_
 refine sy_seq ?_
 refine sy_tx' [0, 1, 2, 3, 4, 5, 6, 7] rfl ?_
 refine sp rfl (PE.move rfl) rfl ?_
 refine sp rfl (PE.move rfl) rfl ?_
 refine sp rfl (PE.lenSl isl73 rfl) rfl ?_
 refine spE rfl (PE.convU us3 ik142 rfl) rfl ?_
 rintro _ ⟨u6, rfl, hu6⟩
 refine spE rfl (PE.xorU rfl rfl) rfl ?_
 rintro _ ⟨u7, rfl, hu7⟩
 refine sp rfl (PE.build (out := [_, _, _]) pl144 zl144 rfl rfl) rfl ?_
 refine bx rfl rfl rfl (fun b9 => ?_)
 refine sp rfl (PE.assign rfl) rfl ?_
 refine sy_ret ?_
 exact sy_return (vs := [_]) rfl (.cons (RV.tmp rfl) .nil) rfl ⟨b9, u7, hu7, rfl, rfl, rfl⟩ (fun _ h => h)
theorem c_handful (g : List Int) (ag : Option Addr) (cg bk : Nat) (hgl : g.length ≤ 9223372036854775807) (tq mx : Int) (htq : 0 ≤ tq ∧ tq ≤ 1000000000) (hmx : 0 ≤ mx ∧ mx ≤ 4294967295) (H : Heap) (R : Facts) [hG : MemRows ag 1 (urows g) R] :
    Fn Try.prog 120 [.pointer (some ⟨bk, 0, none⟩)] ((bk, cel 144 [.slice ag g.length cg, .int .i64 (tq), .int .u32 (mx)]) :: H) R (fun v H' R' => ∃ x m' : Int, (0 ≤ x ∧ x ≤ 65535) ∧ v = .int .i64 x ∧ (0 ≤ m' ∧ m' ≤ 4294967295) ∧ H' = (bk, cel 144 [.slice ag g.length cg, .int .i64 (tq + 1), .int .u32 (m')]) :: H ∧ R' = R) := by
 refine fn_of Try.func120 rfl Try.ntmps120 rfl ?_
 refine sy_seq ?_
 refine sy_tx' [0] rfl ?_
 refine sp rfl (PE.assign rfl) rfl ?_
 refine sy_seq ?_
 refine sy_seq ?_
 refine sy_tx' [0, 1, 2, 3, 4, 5] rfl ?_
 refine sp rfl (PE.move rfl) rfl ?_
 refine sp rfl (PE.nilCheck rfl) rfl ?_
 refine sp rfl (PE.fieldAddr fo144_0 rfl) rfl ?_
 refine spL rfl rfl (lh sc73 rfl rfl) rfl ?_
 refine sp rfl (PE.lenSl isl73 rfl) rfl ?_
 refine sp rfl (PE.assign rfl) rfl ?_
 refine sy_seq ?_
 refine sy_tx' [0, 1] rfl ?_
 refine sp rfl (PE.move rfl) rfl ?_
 refine sp rfl (PE.gtr rfl rfl) rfl ?_
 refine sy_cond rfl (fun hc0 => ?_) (fun hc0 => ?_)
 try simp only [decide_eq_true_eq, decide_eq_false_iff_not, Bool.and_eq_true, Bool.or_eq_true, Bool.not_eq_true', Int.not_le, Int.not_lt] at hc0
 obtain ⟨y, hy⟩ : ∃ y, g[(tq % g.length).toNat]? = some y := ⟨_, List.getElem?_eq_getElem (by have := Int.emod_lt_of_pos tq hc0; have := Int.emod_nonneg tq (show (g.length : Int) ≠ 0 by omega); omega)⟩
 refine sy_addr (a := ag) (sz := 1) (rows := urows g) (by intro h0; simp [urows] at h0; simp [h0] at hy) (fun bgr ogr he => ?_)
 subst he
 refine sy_draw [0, 0, 2, 6, 14, 0, 32, 96, 224, 0, 512, 1536, 3584, 0, 15872, 32736, 65504, 131040, 262142, 524286, 1048575, 2097151, 4194303] (.tk 0 (.tk 1 (.tk 2 (.tk 3 (.ld 4 (.tk 5 (.tk 6 (.tk 7 (.ld 8 (.tk 9 (.tk 10 (.tk 11 (.ld 12 (.tk 13 (.tk 14 (.tk 15 (.ld 16 (.tk 17 (.tk 18 (.tk 19 (.tk 20 (.tk 21 (.big 22 .done))))))))))))))))))))))) mixed (by kernel_rfl) ?_
 refine tk rfl (PE.move rfl) rfl ?_
 refine tk rfl (PE.move rfl) rfl ?_
 refine tk rfl (PE.nilCheck rfl) rfl ?_
 refine tk rfl (PE.fieldAddr fo144_2 rfl) rfl ?_
 refine ld rfl rfl (lh sc142 rfl rfl) rfl ?_
 refine tk rfl (PE.move rfl) rfl ?_
 refine tk rfl (PE.nilCheck rfl) rfl ?_
 refine tk rfl (PE.fieldAddr fo144_0 rfl) rfl ?_
 refine ld rfl rfl (lh sc73 rfl rfl) rfl ?_
 refine tk rfl (PE.move rfl) rfl ?_
 refine tk rfl (PE.nilCheck rfl) rfl ?_
 refine tk rfl (PE.fieldAddr fo144_1 rfl) rfl ?_
 refine ld rfl rfl (lh sc3 rfl rfl) rfl ?_
 refine tk rfl (PE.move rfl) rfl ?_
 refine tk rfl (PE.rem rfl rfl (by omega)) rfl ?_
 refine tk rfl (PE.indexAddr el73 rfl rfl (by exact Int.emod_nonneg tq (by omega)) (by exact Int.emod_lt_of_pos tq hc0)) rfl ?_
 refine ld rfl rfl (lf0 (x := .int .u8 y) sc5 (by simp [urows, urow, hy]; rfl) rfl) rfl ?_
 refine tkE rfl (PE.convU us5 ik142 rfl) rfl ?_
 rintro _ ⟨u28, rfl, hu28⟩
 refine tkE rfl (PE.xorU rfl rfl) rfl ?_
 rintro _ ⟨u29, rfl, hu29⟩
 refine tkE rfl (PE.mulU rfl rfl) rfl ?_
 rintro _ ⟨u30, rfl, hu30⟩
 refine tk rfl (PE.nilCheck rfl) rfl ?_
 refine tk rfl (PE.fieldAddr fo144_2 rfl) rfl ?_
 refine sto rfl rfl rfl cn142 rfl rfl rfl rfl ?_
 refine bg (fun w hs => ⟨trivial, trivial, trivial, trivial, trivial⟩) ?_
 refine sy_seq ?_
 refine sy_tx' [0, 1, 2, 3, 4, 5, 6, 7] rfl ?_
 refine sp rfl (PE.move rfl) rfl ?_
 refine sp rfl (PE.nilCheck rfl) rfl ?_
 refine sp rfl (PE.fieldAddr fo144_1 rfl) rfl ?_
 refine spL rfl rfl (lh sc3 rfl rfl) rfl ?_
 refine sp rfl (PE.add rfl rfl (by omega)) rfl ?_
 refine sp rfl (PE.nilCheck rfl) rfl ?_
 refine sp rfl (PE.fieldAddr fo144_1 rfl) rfl ?_
 refine sto rfl rfl rfl cn3 rfl rfl rfl rfl ?_
 refine sy_seq ?_
 refine sy_seq ?_
 refine sy_draw [0, 1, 3, 7, 0, 16, 48, 112, 240, 511] (.tk 0 (.tk 1 (.tk 2 (.ld 3 (.tk 4 (.tk 5 (.tk 6 (.ld 7 (.tk 8 (.tk 9 .done)))))))))) mixed (by kernel_rfl) ?_
 refine tk rfl (PE.move rfl) rfl ?_
 refine tk rfl (PE.nilCheck rfl) rfl ?_
 refine tk rfl (PE.fieldAddr fo144_1 rfl) rfl ?_
 refine ld rfl rfl (lh sc3 rfl rfl) rfl ?_
 refine tk rfl (PE.move rfl) rfl ?_
 refine tk rfl (PE.nilCheck rfl) rfl ?_
 refine tk rfl (PE.fieldAddr fo144_0 rfl) rfl ?_
 refine ld rfl rfl (lh sc73 rfl rfl) rfl ?_
 refine tk rfl (PE.lenSl isl73 rfl) rfl ?_
 refine tk rfl (PE.gtr rfl rfl) rfl ?_
 refine sy_cond rfl (fun hc1 => ?_) (fun hc1 => ?_)
 try simp only [decide_eq_true_eq, decide_eq_false_iff_not, Bool.and_eq_true, Bool.or_eq_true, Bool.not_eq_true', Int.not_le, Int.not_lt] at hc1
 refine sy_tx' [0, 1, 2, 3, 4, 5, 6, 7, 8, 9] rfl ?_
 refine sp rfl (PE.move rfl) rfl ?_
 refine sp rfl (PE.move rfl) rfl ?_
 refine sp rfl (PE.nilCheck rfl) rfl ?_
 refine sp rfl (PE.fieldAddr fo144_2 rfl) rfl ?_
 refine spL rfl rfl (lh sc142 rfl rfl) rfl ?_
 refine spE rfl (PE.mulU rfl rfl) rfl ?_
 rintro _ ⟨u55, rfl, hu55⟩
 refine spE rfl (PE.addU rfl rfl) rfl ?_
 rintro _ ⟨u56, rfl, hu56⟩
 refine sp rfl (PE.nilCheck rfl) rfl ?_
 refine sp rfl (PE.fieldAddr fo144_2 rfl) rfl ?_
 refine sto rfl rfl rfl cn142 rfl rfl rfl rfl ?_
 refine sy_seq ?_
 refine sy_draw [0, 1, 3, 7, 0, 16, 48, 112, 240, 511, 1023, 2047, 4095, 8191] (.tk 0 (.tk 1 (.tk 2 (.ld 3 (.tk 4 (.tk 5 (.tk 6 (.ld 7 (.tk 8 (.tk 9 (.tk 10 (.tk 11 (.tk 12 (.tk 13 .done)))))))))))))) mixed (by kernel_rfl) ?_
 refine tk rfl (PE.move rfl) rfl ?_
 refine tk rfl (PE.nilCheck rfl) rfl ?_
 refine tk rfl (PE.fieldAddr fo144_2 rfl) rfl ?_
 refine ld rfl rfl (lh sc142 rfl rfl) rfl ?_
 refine tk rfl (PE.move rfl) rfl ?_
 refine tk rfl (PE.nilCheck rfl) rfl ?_
 refine tk rfl (PE.fieldAddr fo144_2 rfl) rfl ?_
 refine ld rfl rfl (lh sc142 rfl rfl) rfl ?_
 refine tkE rfl (PE.shrU rfl rfl (by decide) (by omega) (by omega)) rfl ?_
 rintro _ ⟨u67, rfl, hu67⟩
 refine tkE rfl (PE.xorU rfl rfl) rfl ?_
 rintro _ ⟨u68, rfl, hu68⟩
 refine tkE rfl (PE.shrU rfl rfl (by decide) (by omega) (by omega)) rfl ?_
 rintro _ ⟨u69, rfl, hu69⟩
 refine tkE rfl (PE.andU rfl rfl (by decide) (by decide)) rfl ?_
 rintro _ ⟨u70, rfl, hu70⟩
 refine tk rfl (PE.conv64 us142 ik3 rfl (by omega)) rfl ?_
 refine tk rfl (PE.assign rfl) rfl ?_
 refine sy_ret ?_
 first
   | exact sy_return (vs := [_]) rfl (.cons (RV.tmp rfl) .nil) rfl ⟨u70, _, hu70, rfl, hu56, rfl, rfl⟩ (fun _ h => h)
   | exact sy_return (vs := [_]) rfl (.cons (RV.tmp rfl) .nil) rfl ⟨u70, _, hu70, rfl, hu30, rfl, rfl⟩ (fun _ h => h)
   | exact sy_return (vs := [_]) rfl (.cons (RV.tmp rfl) .nil) rfl ⟨u70, _, hu70, rfl, hmx, rfl, rfl⟩ (fun _ h => h)
 try simp only [decide_eq_true_eq, decide_eq_false_iff_not, Bool.and_eq_true, Bool.or_eq_true, Bool.not_eq_true', Int.not_le, Int.not_lt] at hc1
 refine sy_skip ?_
 refine sy_seq ?_
 refine sy_draw [0, 1, 3, 7, 0, 16, 48, 112, 240, 511, 1023, 2047, 4095, 8191] (.tk 0 (.tk 1 (.tk 2 (.ld 3 (.tk 4 (.tk 5 (.tk 6 (.ld 7 (.tk 8 (.tk 9 (.tk 10 (.tk 11 (.tk 12 (.tk 13 .done)))))))))))))) mixed (by kernel_rfl) ?_
 refine tk rfl (PE.move rfl) rfl ?_
 refine tk rfl (PE.nilCheck rfl) rfl ?_
 refine tk rfl (PE.fieldAddr fo144_2 rfl) rfl ?_
 refine ld rfl rfl (lh sc142 rfl rfl) rfl ?_
 refine tk rfl (PE.move rfl) rfl ?_
 refine tk rfl (PE.nilCheck rfl) rfl ?_
 refine tk rfl (PE.fieldAddr fo144_2 rfl) rfl ?_
 refine ld rfl rfl (lh sc142 rfl rfl) rfl ?_
 refine tkE rfl (PE.shrU rfl rfl (by decide) (by omega) (by omega)) rfl ?_
 rintro _ ⟨u67, rfl, hu67⟩
 refine tkE rfl (PE.xorU rfl rfl) rfl ?_
 rintro _ ⟨u68, rfl, hu68⟩
 refine tkE rfl (PE.shrU rfl rfl (by decide) (by omega) (by omega)) rfl ?_
 rintro _ ⟨u69, rfl, hu69⟩
 refine tkE rfl (PE.andU rfl rfl (by decide) (by decide)) rfl ?_
 rintro _ ⟨u70, rfl, hu70⟩
 refine tk rfl (PE.conv64 us142 ik3 rfl (by omega)) rfl ?_
 refine tk rfl (PE.assign rfl) rfl ?_
 refine sy_ret ?_
 first
   | exact sy_return (vs := [_]) rfl (.cons (RV.tmp rfl) .nil) rfl ⟨u70, _, hu70, rfl, hu56, rfl, rfl⟩ (fun _ h => h)
   | exact sy_return (vs := [_]) rfl (.cons (RV.tmp rfl) .nil) rfl ⟨u70, _, hu70, rfl, hu30, rfl, rfl⟩ (fun _ h => h)
   | exact sy_return (vs := [_]) rfl (.cons (RV.tmp rfl) .nil) rfl ⟨u70, _, hu70, rfl, hmx, rfl, rfl⟩ (fun _ h => h)
 try simp only [decide_eq_true_eq, decide_eq_false_iff_not, Bool.and_eq_true, Bool.or_eq_true, Bool.not_eq_true', Int.not_le, Int.not_lt] at hc0
 refine sy_skip ?_
 refine sy_seq ?_
 refine sy_tx' [0, 1, 2, 3, 4, 5, 6, 7] rfl ?_
 refine sp rfl (PE.move rfl) rfl ?_
 refine sp rfl (PE.nilCheck rfl) rfl ?_
 refine sp rfl (PE.fieldAddr fo144_1 rfl) rfl ?_
 refine spL rfl rfl (lh sc3 rfl rfl) rfl ?_
 refine sp rfl (PE.add rfl rfl (by omega)) rfl ?_
 refine sp rfl (PE.nilCheck rfl) rfl ?_
 refine sp rfl (PE.fieldAddr fo144_1 rfl) rfl ?_
 refine sto rfl rfl rfl cn3 rfl rfl rfl rfl ?_
 refine sy_seq ?_
 refine sy_seq ?_
 refine sy_draw [0, 1, 3, 7, 0, 16, 48, 112, 240, 511] (.tk 0 (.tk 1 (.tk 2 (.ld 3 (.tk 4 (.tk 5 (.tk 6 (.ld 7 (.tk 8 (.tk 9 .done)))))))))) mixed (by kernel_rfl) ?_
 refine tk rfl (PE.move rfl) rfl ?_
 refine tk rfl (PE.nilCheck rfl) rfl ?_
 refine tk rfl (PE.fieldAddr fo144_1 rfl) rfl ?_
 refine ld rfl rfl (lh sc3 rfl rfl) rfl ?_
 refine tk rfl (PE.move rfl) rfl ?_
 refine tk rfl (PE.nilCheck rfl) rfl ?_
 refine tk rfl (PE.fieldAddr fo144_0 rfl) rfl ?_
 refine ld rfl rfl (lh sc73 rfl rfl) rfl ?_
 refine tk rfl (PE.lenSl isl73 rfl) rfl ?_
 refine tk rfl (PE.gtr rfl rfl) rfl ?_
 refine sy_cond rfl (fun hc1 => ?_) (fun hc1 => ?_)
 try simp only [decide_eq_true_eq, decide_eq_false_iff_not, Bool.and_eq_true, Bool.or_eq_true, Bool.not_eq_true', Int.not_le, Int.not_lt] at hc1
 refine sy_tx' [0, 1, 2, 3, 4, 5, 6, 7, 8, 9] rfl ?_
 refine sp rfl (PE.move rfl) rfl ?_
 refine sp rfl (PE.move rfl) rfl ?_
 refine sp rfl (PE.nilCheck rfl) rfl ?_
 refine sp rfl (PE.fieldAddr fo144_2 rfl) rfl ?_
 refine spL rfl rfl (lh sc142 rfl rfl) rfl ?_
 refine spE rfl (PE.mulU rfl rfl) rfl ?_
 rintro _ ⟨u55, rfl, hu55⟩
 refine spE rfl (PE.addU rfl rfl) rfl ?_
 rintro _ ⟨u56, rfl, hu56⟩
 refine sp rfl (PE.nilCheck rfl) rfl ?_
 refine sp rfl (PE.fieldAddr fo144_2 rfl) rfl ?_
 refine sto rfl rfl rfl cn142 rfl rfl rfl rfl ?_
 refine sy_seq ?_
 refine sy_draw [0, 1, 3, 7, 0, 16, 48, 112, 240, 511, 1023, 2047, 4095, 8191] (.tk 0 (.tk 1 (.tk 2 (.ld 3 (.tk 4 (.tk 5 (.tk 6 (.ld 7 (.tk 8 (.tk 9 (.tk 10 (.tk 11 (.tk 12 (.tk 13 .done)))))))))))))) mixed (by kernel_rfl) ?_
 refine tk rfl (PE.move rfl) rfl ?_
 refine tk rfl (PE.nilCheck rfl) rfl ?_
 refine tk rfl (PE.fieldAddr fo144_2 rfl) rfl ?_
 refine ld rfl rfl (lh sc142 rfl rfl) rfl ?_
 refine tk rfl (PE.move rfl) rfl ?_
 refine tk rfl (PE.nilCheck rfl) rfl ?_
 refine tk rfl (PE.fieldAddr fo144_2 rfl) rfl ?_
 refine ld rfl rfl (lh sc142 rfl rfl) rfl ?_
 refine tkE rfl (PE.shrU rfl rfl (by decide) (by omega) (by omega)) rfl ?_
 rintro _ ⟨u67, rfl, hu67⟩
 refine tkE rfl (PE.xorU rfl rfl) rfl ?_
 rintro _ ⟨u68, rfl, hu68⟩
 refine tkE rfl (PE.shrU rfl rfl (by decide) (by omega) (by omega)) rfl ?_
 rintro _ ⟨u69, rfl, hu69⟩
 refine tkE rfl (PE.andU rfl rfl (by decide) (by decide)) rfl ?_
 rintro _ ⟨u70, rfl, hu70⟩
 refine tk rfl (PE.conv64 us142 ik3 rfl (by omega)) rfl ?_
 refine tk rfl (PE.assign rfl) rfl ?_
 refine sy_ret ?_
 first
   | exact sy_return (vs := [_]) rfl (.cons (RV.tmp rfl) .nil) rfl ⟨u70, _, hu70, rfl, hu56, rfl, rfl⟩ (fun _ h => h)
   | exact sy_return (vs := [_]) rfl (.cons (RV.tmp rfl) .nil) rfl ⟨u70, _, hu70, rfl, hu30, rfl, rfl⟩ (fun _ h => h)
   | exact sy_return (vs := [_]) rfl (.cons (RV.tmp rfl) .nil) rfl ⟨u70, _, hu70, rfl, hmx, rfl, rfl⟩ (fun _ h => h)
 try simp only [decide_eq_true_eq, decide_eq_false_iff_not, Bool.and_eq_true, Bool.or_eq_true, Bool.not_eq_true', Int.not_le, Int.not_lt] at hc1
 refine sy_skip ?_
 refine sy_seq ?_
 refine sy_draw [0, 1, 3, 7, 0, 16, 48, 112, 240, 511, 1023, 2047, 4095, 8191] (.tk 0 (.tk 1 (.tk 2 (.ld 3 (.tk 4 (.tk 5 (.tk 6 (.ld 7 (.tk 8 (.tk 9 (.tk 10 (.tk 11 (.tk 12 (.tk 13 .done)))))))))))))) mixed (by kernel_rfl) ?_
 refine tk rfl (PE.move rfl) rfl ?_
 refine tk rfl (PE.nilCheck rfl) rfl ?_
 refine tk rfl (PE.fieldAddr fo144_2 rfl) rfl ?_
 refine ld rfl rfl (lh sc142 rfl rfl) rfl ?_
 refine tk rfl (PE.move rfl) rfl ?_
 refine tk rfl (PE.nilCheck rfl) rfl ?_
 refine tk rfl (PE.fieldAddr fo144_2 rfl) rfl ?_
 refine ld rfl rfl (lh sc142 rfl rfl) rfl ?_
 refine tkE rfl (PE.shrU rfl rfl (by decide) (by omega) (by omega)) rfl ?_
 rintro _ ⟨u67, rfl, hu67⟩
 refine tkE rfl (PE.xorU rfl rfl) rfl ?_
 rintro _ ⟨u68, rfl, hu68⟩
 refine tkE rfl (PE.shrU rfl rfl (by decide) (by omega) (by omega)) rfl ?_
 rintro _ ⟨u69, rfl, hu69⟩
 refine tkE rfl (PE.andU rfl rfl (by decide) (by decide)) rfl ?_
 rintro _ ⟨u70, rfl, hu70⟩
 refine tk rfl (PE.conv64 us142 ik3 rfl (by omega)) rfl ?_
 refine tk rfl (PE.assign rfl) rfl ?_
 refine sy_ret ?_
 first
   | exact sy_return (vs := [_]) rfl (.cons (RV.tmp rfl) .nil) rfl ⟨u70, _, hu70, rfl, hu56, rfl, rfl⟩ (fun _ h => h)
   | exact sy_return (vs := [_]) rfl (.cons (RV.tmp rfl) .nil) rfl ⟨u70, _, hu70, rfl, hu30, rfl, rfl⟩ (fun _ h => h)
   | exact sy_return (vs := [_]) rfl (.cons (RV.tmp rfl) .nil) rfl ⟨u70, _, hu70, rfl, hmx, rfl, rfl⟩ (fun _ h => h)
theorem c_Below (g : List Int) (ag : Option Addr) (cg bk : Nat) (hgl : g.length ≤ 9223372036854775807) (tq mx : Int) (htq : 0 ≤ tq ∧ tq ≤ 1000000000) (hmx : 0 ≤ mx ∧ mx ≤ 4294967295) (n : Int) (H : Heap) (R : Facts) [hG : MemRows ag 1 (urows g) R] :
    Fn Try.prog 63 [.pointer (some ⟨bk, 0, none⟩), .int .i64 n] ((bk, cel 144 [.slice ag g.length cg, .int .i64 (tq), .int .u32 (mx)]) :: H) R (fun v H' R' => ∃ x m' : Int, (0 ≤ x ∧ x < max 1 n) ∧ v = .int .i64 x ∧ (0 ≤ m' ∧ m' ≤ 4294967295) ∧ H' = (bk, cel 144 [.slice ag g.length cg, .int .i64 (tq + 1), .int .u32 (m')]) :: H ∧ R' = R) := by
 refine fn_of Try.func63 rfl Try.ntmps63 rfl ?_
 refine sy_seq ?_
 refine sy_tx' [0] rfl ?_
 refine sp rfl (PE.assign rfl) rfl ?_
 refine sy_seq ?_
 refine sy_tx' [0, 1, 2, 3, 4, 5] rfl ?_
 refine sp rfl (PE.move rfl) rfl ?_
 refine cl rfl cal120 rfl rfl (c_handful g ag cg bk hgl tq mx htq hmx _ _) ?_
 rintro _ _ _ ⟨x, m', hx, rfl, hm', rfl, rfl⟩
 refine sp rfl (PE.move rfl) rfl ?_
 refine sp rfl (PE.max rfl rfl) rfl ?_
 refine sp rfl (PE.rem rfl rfl (by omega)) rfl ?_
 refine sp rfl (PE.assign rfl) rfl ?_
 refine sy_ret ?_
 exact sy_return (vs := [_]) rfl (.cons (RV.tmp rfl) .nil) rfl ⟨_, m', ⟨Int.emod_nonneg _ (by omega), Int.emod_lt_of_pos _ (by omega)⟩, rfl, hm', rfl, rfl⟩ (fun _ h => h)
theorem c_Among (g : List Int) (ag : Option Addr) (cg bk : Nat) (hgl : g.length ≤ 9223372036854775807) (tq mx : Int) (htq : 0 ≤ tq ∧ tq ≤ 1000000000) (hmx : 0 ≤ mx ∧ mx ≤ 4294967295) (lo hi : Int) (hb : -1000000 ≤ lo ∧ lo ≤ 1000000 ∧ -1000000 ≤ hi ∧ hi ≤ 1000000) (H : Heap) (R : Facts) [hG : MemRows ag 1 (urows g) R] :
    Fn Try.prog 65 [.pointer (some ⟨bk, 0, none⟩), .int .i64 lo, .int .i64 hi] ((bk, cel 144 [.slice ag g.length cg, .int .i64 (tq), .int .u32 (mx)]) :: H) R (fun v H' R' => ∃ x m' : Int, (lo ≤ x ∧ x < lo + max 1 (hi - lo + 1)) ∧ v = .int .i64 x ∧ (0 ≤ m' ∧ m' ≤ 4294967295) ∧ H' = (bk, cel 144 [.slice ag g.length cg, .int .i64 (tq + 1), .int .u32 (m')]) :: H ∧ R' = R) := by
 refine fn_of Try.func65 rfl Try.ntmps65 rfl ?_
 refine sy_seq ?_
 refine sy_tx' [0] rfl ?_
 refine sp rfl (PE.assign rfl) rfl ?_
 refine sy_seq ?_
 refine sy_tx' [0, 1, 2, 3, 4, 5, 6, 7, 8] rfl ?_
 refine sp rfl (PE.move rfl) rfl ?_
 refine sp rfl (PE.move rfl) rfl ?_
 refine sp rfl (PE.move rfl) rfl ?_
 refine sp rfl (PE.move rfl) rfl ?_
 refine sp rfl (PE.sub rfl rfl (by omega)) rfl ?_
 refine sp rfl (PE.add rfl rfl (by omega)) rfl ?_
 refine cl rfl cal63 rfl rfl (c_Below g ag cg bk hgl tq mx htq hmx (hi - lo + 1) _ _) ?_
 rintro _ _ _ ⟨x, m', hx, rfl, hm', rfl, rfl⟩
 refine sp rfl (PE.add rfl rfl (by omega)) rfl ?_
 refine sp rfl (PE.assign rfl) rfl ?_
 refine sy_ret ?_
 exact sy_return (vs := [_]) rfl (.cons (RV.tmp rfl) .nil) rfl ⟨lo + x, m', ⟨by omega, by omega⟩, rfl, hm', rfl, rfl⟩ (fun _ h => h)
theorem OSl.freezeC {e sz : Nat} {rows : List (List Value)} (o : OSl e sz rows) : ∃ a c, o.fs = .slice a rows.length c ∧ rows.length ≤ c ∧ ∀ {H : Heap} {R : Facts} {w : World}, St (o.G ++ H) R w → St H (RowsA a sz rows :: R) w := by
  obtain ⟨fs, G, hl, his⟩ := o
  rcases his with ⟨rfl, rfl, rfl⟩ | ⟨b, cap, junk, rfl, rfl, _, hc, _⟩
  · exact ⟨none, 0, rfl, Nat.le_refl _, fun {H R w} h => (St.also (H := H) (R := R) h (f := RowsA none sz []) (fun w' _ => fun i row hi => by simp at hi))⟩
  · exact ⟨_, cap, rfl, hc, fun {H R w} h => St.rows (rest := junk) h hl⟩
structure Ord (p : List Nat) (n : Nat) : Prop where
  len : p.length = n
  nd : p.Nodup
  lt : ∀ i ∈ p, i < n
theorem Ord.nil : Ord [] 0 := ⟨rfl, List.nodup_nil, by simp⟩
theorem Ord.ins {p : List Nat} {n j : Nat} (h : Ord p n) (hj : j ≤ n) : Ord (p.take j ++ n :: p.drop j) (n + 1) := by
  have hp : (p.take j ++ n :: p.drop j).Perm (n :: p) := by
    have h1 := List.perm_middle (a := n) (l₁ := p.take j) (l₂ := p.drop j)
    rwa [List.take_append_drop] at h1
  refine ⟨by rw [hp.length_eq]; simp [h.len], hp.nodup_iff.2 (List.nodup_cons.2 ⟨fun h1 => Nat.lt_irrefl _ (h.lt n h1), h.nd⟩), fun i hi => ?_⟩
  rcases List.mem_cons.1 (hp.mem_iff.1 hi) with rfl | h1
  · omega
  · have := h.lt i h1; omega
theorem spl_ins {xs : List Int} {rest : List Value} {i : Nat} {x : Int} (hi : i < xs.length) (hr : 1 ≤ rest.length) : spl (spl (ints xs ++ rest) (0 + (i + 1) * 1) (ints (xs.drop i))) (0 + i * 1) [.int .i64 x] = ints (xs.take i ++ x :: xs.drop i) ++ rest.drop 1 := by
  rw [show 0 + (i + 1) * 1 = i + 1 from by omega, show 0 + i * 1 = i from by omega]
  obtain ⟨A, y, B, rfl, rfl⟩ := cut_at hi
  obtain ⟨r0, r, rfl⟩ : ∃ r0 r, rest = r0 :: r := by cases rest with
    | nil => simp at hr
    | cons a b => exact ⟨a, b, rfl⟩
  rw [List.drop_left, List.take_left]
  have e1 : ints (A ++ y :: B) ++ r0 :: r = (ints A ++ [.int .i64 y]) ++ ((ints B ++ [r0]) ++ r) := by simp [ints]
  have h1 := spl_at (p := ints A ++ [.int .i64 y]) (q := ints B ++ [r0]) (s := r) (vs := ints (y :: B)) (by simp [ints])
  rw [show (ints A ++ [Value.int .i64 y]).length = A.length + 1 by simp [ints]] at h1
  have h2 := spl_at (p := ints A) (q := [.int .i64 y]) (s := ints (y :: B) ++ r) (vs := [.int .i64 x]) rfl
  rw [show (ints A).length = A.length by simp [ints]] at h2
  rw [e1, h1, List.append_assoc, h2]
  simp [ints]
theorem spl_new {xs : List Int} {z junk : List Value} {i : Nat} {x : Int} (hi : i < xs.length) (hz : z.length = xs.length + 1 - i) : spl (spl ((ints (xs.take i)) ++ (z ++ junk)) (0 + i * 1) [.int .i64 x]) (0 + (i + 1) * 1) (ints (xs.drop i)) = ints (xs.take i ++ x :: xs.drop i) ++ junk := by
  rw [show 0 + (i + 1) * 1 = i + 1 from by omega, show 0 + i * 1 = i from by omega]
  obtain ⟨A, y, B, rfl, rfl⟩ := cut_at hi
  obtain ⟨z0, z1, rfl⟩ : ∃ z0 z1, z = z0 :: z1 := by cases z with
    | nil => simp only [List.length_nil, List.length_append, List.length_cons] at hz; omega
    | cons a b => exact ⟨a, b, rfl⟩
  rw [List.drop_left, List.take_left]
  have h1 := spl_at (p := ints A) (q := [z0]) (s := z1 ++ junk) (vs := [.int .i64 x]) rfl
  rw [show (ints A).length = A.length by simp [ints]] at h1
  have h2 := spl_at (p := ints A ++ [.int .i64 x]) (q := z1) (s := junk) (vs := ints (y :: B)) (by simp [ints] at hz ⊢; omega)
  rw [show (ints A ++ [Value.int .i64 x]).length = A.length + 1 by simp [ints]] at h2
  rw [show ints A ++ (z0 :: z1 ++ junk) = ints A ++ ([z0] ++ (z1 ++ junk)) from rfl, h1, ← List.append_assoc, h2]
  simp [ints]
theorem repl_len1 (n : Nat) (v : Value) : (repl n [v]).length = n := by rw [repl1, List.length_replicate]
theorem spl_len {l vs : List Value} {off : Nat} (h : off + vs.length ≤ l.length) : (spl l off vs).length = l.length := by
  unfold spl
  simp only [List.length_append, List.length_take, List.length_drop]; omega
theorem irows_flat' (l : List Int) : (irows l).flatten = ints l := irows_flat l
theorem ir_len (l : List Int) : ∀ r ∈ irows l, r.length = 1 := fun r hr => by obtain ⟨z, _, rfl⟩ := List.mem_map.1 hr; rfl
theorem c_Insert (xs : List Int) (o : OSl 3 1 (irows xs)) (i : Nat) (hi : i ≤ xs.length) (hl : xs.length ≤ 1000000) (x : Int) (bv : Nat) (H : Heap) (R : Facts) :
    Fn Try.prog 111 [o.fs, .int .i64 i, .slice (some ⟨bv, 0, none⟩) 1 1] ((bv, cel 3 [.int .i64 x]) :: (o.G ++ H)) R (fun v H' R' => ∃ o' : OSl 3 1 (irows (xs.take i ++ x :: xs.drop i)), v = o'.fs ∧ H' = o'.G ++ H ∧ R' = R) := by
 obtain ⟨a, c, he, hcc, _⟩ := o.freezeC
 rw [show (irows xs).length = xs.length from List.length_map _] at he hcc
 refine fn_of Try.func111 rfl Try.ntmps111 rfl ?_
 refine sy_seq ?_
 refine sy_tx' [0] rfl ?_
 refine sp rfl (PE.assign rfl) rfl ?_
 refine sy_seq ?_
 refine sy_tx' [0, 1, 2] rfl ?_
 refine sp rfl (PE.move rfl) rfl ?_
 refine sp rfl (PE.move rfl) rfl ?_
 refine sp rfl (PE.slLoA sl40 (congrArg some he) rfl hi) rfl ?_
 refine sy_seq ?_
 refine sy_tx' [0, 1, 2] rfl ?_
 refine sp rfl (PE.move rfl) rfl ?_
 refine sp rfl (PE.lenSl isl40 rfl) rfl ?_
 refine sp rfl (PE.assign rfl) rfl ?_
 refine sy_seq ?_
 refine sy_seq ?_
 refine sy_tx' [0, 1] rfl ?_
 refine sp rfl (PE.move rfl) rfl ?_
 refine sp rfl (PE.eql rfl rfl) rfl ?_
 refine sy_cond rfl (fun hc0 => ?_) (fun hc0 => ?_)
 exact absurd hc0 (by simp)
 refine sy_skip ?_
 refine sy_seq ?_
 refine sy_tx' [0, 1, 2] rfl ?_
 refine sp rfl (PE.move rfl) rfl ?_
 refine sp rfl (PE.lenSl isl40 (congrArg some he)) rfl ?_
 refine sp rfl (PE.assign rfl) rfl ?_
 refine sy_seq ?_
 refine sy_seq ?_
 refine sy_tx' [0, 1, 2] rfl ?_
 refine sp rfl (PE.move rfl) rfl ?_
 refine sp rfl (PE.move rfl) rfl ?_
 refine sp rfl (PE.eql rfl rfl) rfl ?_
 refine sy_cond rfl (fun hc1 => ?_) (fun hc1 => ?_)
 try simp only [decide_eq_true_eq, decide_eq_false_iff_not, Bool.and_eq_true, Bool.or_eq_true, Bool.not_eq_true', Int.not_le, Int.not_lt] at hc1
 obtain rfl : i = xs.length := by omega
 refine sy_seq ?_
 refine sy_tx' [0, 1, 2, 3] rfl ?_
 refine sp rfl (PE.move rfl) rfl ?_
 refine sp rfl (PE.move rfl) rfl ?_
 refine apO (o) rfl ap40 rfl rfl (rowsH (row := [.int .i64 x]) rfl) rfl rfl ((by simp only [irows, List.length_map, List.length_singleton]; omega)) rfl (fun o25 => ?_)
 refine sp rfl (PE.assign rfl) rfl ?_
 refine sy_ret ?_
 exact sy_return (vs := [_]) rfl (.cons (RV.tmp rfl) .nil) rfl ⟨o25.cast (by simp [irows]), rfl, rfl, rfl⟩ (fun w h => h.del bv)
 try simp only [decide_eq_true_eq, decide_eq_false_iff_not, Bool.and_eq_true, Bool.or_eq_true, Bool.not_eq_true', Int.not_le, Int.not_lt] at hc1
 have hin : i < xs.length := by omega
 have hir : (irows xs).length = xs.length := List.length_map _
 obtain ⟨b, cap, junk, hfs, hG, hj, hcap, hmx⟩ := o.is.resolve_left (fun h => by rw [h.1] at hir; simp at hir; omega)
 rw [hir] at hfs hcap hj
 rw [hfs, hG, irows_flat']
 refine Sy.heap (H' := (bv, cel 3 [.int .i64 x]) :: (b, cel 3 (ints xs ++ junk)) :: H) (fun w h => h) ?_
 clear he
 refine sy_skip ?_
 refine sy_seq ?_
 refine sy_seq ?_
 refine sy_tx' [0, 1, 2, 3, 4, 5] rfl ?_
 refine sp rfl (PE.move rfl) rfl ?_
 refine sp rfl (PE.move rfl) rfl ?_
 refine sp rfl (PE.add rfl rfl (by omega)) rfl ?_
 refine sp rfl (PE.move rfl) rfl ?_
 refine sp rfl (PE.capSl isl40 rfl) rfl ?_
 refine sp rfl (PE.gtr rfl rfl) rfl ?_
 refine sy_cond rfl (fun hc2 => ?_) (fun hc2 => ?_)
 try simp only [decide_eq_true_eq, decide_eq_false_iff_not, Bool.and_eq_true, Bool.or_eq_true, Bool.not_eq_true', Int.not_le, Int.not_lt] at hc2
 refine sy_seq ?_
 refine sy_tx' [0, 1, 2, 3, 4, 5, 6, 7, 8, 9] rfl ?_
 refine sp rfl (PE.move rfl) rfl ?_
 refine sp rfl (PE.move rfl) rfl ?_
 refine sp rfl (PE.slHi sl40 rfl rfl (by omega)) rfl ?_
 refine sp rfl (PE.move rfl) rfl ?_
 refine sp rfl (PE.move rfl) rfl ?_
 refine sp rfl (PE.add rfl rfl (by omega)) rfl ?_
 refine sp rfl (PE.move rfl) rfl ?_
 refine sp rfl (PE.sub rfl rfl (by omega)) rfl ?_
 rw [show (xs.length : Int) + ((1 : Nat) : Int) - i = ((xs.length + 1 - i : Nat) : Int) from by omega]
 refine apZ rfl ap40 ik3 zl3 rfl rfl (by omega) (by omega) (by omega) (by omega) (by rw [List.length_append, ints_length]; omega) rfl (fun b2 cap2 jk2 hc1 hc2 hc3 => ?_)
 refine sp rfl (PE.assign rfl) rfl ?_
 refine sy_seq ?_
 refine sy_tx' [0, 1, 2, 3, 4] rfl ?_
 refine sp rfl (PE.move rfl) rfl ?_
 refine sp rfl (PE.move rfl) rfl ?_
 rw [show i + (xs.length + 1 - i) = xs.length + 1 from by omega] at hc1 hc3 ⊢
 rw [show (ints xs ++ junk).take (i * 1) = ints (xs.take i) from by rw [Nat.mul_one, List.take_append_of_le_length (by rw [ints_length]; omega)]; simp [ints, List.map_take]]
 refine sp rfl (PE.slLo sl40 rfl rfl (by omega) (by omega)) rfl ?_
 refine sp rfl (PE.move rfl) rfl ?_
 refine cpyA [.int .i64 x] rfl sl40 rfl rfl (by show 1 = Nat.min 1 (xs.length + 1 - i) * 1; rw [show Nat.min 1 (xs.length + 1 - i) = 1 from Nat.min_eq_left (by omega)]) (heldAt (l := [.int .i64 x]) (e2 := 3) (fun j v h => by simpa using h)) rfl (by simp only [List.length_append, ints_length, List.length_take, repl_len1, List.length_singleton]; omega) rfl ?_
 refine sy_seq ?_
 refine sy_draw [0, 0, 0, 6, 15, 0, 0, 96, 255] (.tk 0 (.tk 1 (.tk 2 (.tk 3 (.tk 4 (.tk 5 (.tk 6 (.tk 7 (.big 8 .done))))))))) mixed (by kernel_rfl) ?_
 refine tk rfl (PE.move rfl) rfl ?_
 refine tk rfl (PE.move rfl) rfl ?_
 refine tk rfl (PE.move rfl) rfl ?_
 refine tk rfl (PE.add rfl rfl (by omega)) rfl ?_
 rw [show (i : Int) + ((1 : Nat) : Int) = ((i + 1 : Nat) : Int) from by omega]
 refine tk rfl (PE.slLo sl40 rfl rfl (by omega) (by omega)) rfl ?_
 refine tk rfl (PE.move rfl) rfl ?_
 refine tk rfl (PE.move rfl) rfl ?_
 refine tk rfl (PE.slLo sl40 rfl rfl (by omega) (by omega)) rfl ?_
 refine cpyA (ints (xs.drop i)) rfl sl40 rfl rfl (by rw [ints_length, List.length_drop, show xs.length + 1 - (i + 1) = xs.length - i from by omega]; simp) (heldAt (l := ints xs ++ junk) (e2 := 3) (fun j v h => by
   have h1 := (List.getElem?_eq_some_iff.1 h).1
   rw [ints_length, List.length_drop] at h1
   rw [show 0 + i * 1 + j = i + j from by omega, List.getElem?_append_left (by rw [ints_length]; omega)]
   simpa [ints] using h)) (ints_one _) (by rw [spl_len (by simp only [List.length_append, ints_length, List.length_take, repl_len1, List.length_singleton, List.length_drop]; omega)]; simp only [List.length_append, ints_length, List.length_take, repl_len1, List.length_singleton, List.length_drop]; omega) rfl ?_
 refine bg (fun w hs => trivial) ?_
 refine sy_seq ?_
 refine sy_tx' [0, 1] rfl ?_
 rw [spl_new hin (by rw [repl_len1])]
 refine sp rfl (PE.move rfl) rfl ?_
 refine sp rfl (PE.assign rfl) rfl ?_
 refine sy_ret ?_
 obtain ⟨ys, hys⟩ : ∃ ys, ys = xs.take i ++ x :: xs.drop i := ⟨_, rfl⟩
 have hyl : ys.length = xs.length + 1 := by rw [hys]; simp; omega
 rw [← hys]
 have hyi : (irows ys).length = xs.length + 1 := by rw [List.length_map, hyl]
 exact sy_return (vs := [_]) rfl (.cons (RV.tmp rfl) .nil) rfl ⟨(⟨.slice (some ⟨b2, 0, none⟩) (irows ys).length cap2, [(b2, cel 3 ((irows ys).flatten ++ jk2))], ir_len _, .inr ⟨b2, cap2, jk2, rfl, rfl, by rw [hyi]; first | omega | (rw [List.length_drop]; omega), by rw [hyi]; omega, hc2⟩⟩ : OSl 3 1 (irows ys)).cast (by rw [hys]), congrArg (fun q => Value.slice (some ⟨b2, 0, none⟩) q cap2) hyi.symm, rfl, rfl⟩ (fun w h => by
   show St ((b2, cel 3 ((irows ys).flatten ++ jk2)) :: H) R w
   rw [irows_flat']
   exact ((h.del bv).del b))
 try simp only [decide_eq_true_eq, decide_eq_false_iff_not, Bool.and_eq_true, Bool.or_eq_true, Bool.not_eq_true', Int.not_le, Int.not_lt] at hc2
 refine sy_skip ?_
 refine sy_seq ?_
 refine sy_tx' [0, 1, 2, 3, 4, 5] rfl ?_
 refine sp rfl (PE.move rfl) rfl ?_
 refine sp rfl (PE.move rfl) rfl ?_
 refine sp rfl (PE.move rfl) rfl ?_
 refine sp rfl (PE.add rfl rfl (by omega)) rfl ?_
 rw [show (xs.length : Int) + ((1 : Nat) : Int) = ((xs.length + 1 : Nat) : Int) from by omega]
 refine sp rfl (PE.slHi sl40 rfl rfl (by omega)) rfl ?_
 refine sp rfl (PE.assign rfl) rfl ?_
 refine sy_seq ?_
 refine sy_seq ?_
 refine sy_tx' [0, 1, 2, 3, 4, 5, 6, 7] rfl ?_
 refine sp rfl (PE.move rfl) rfl ?_
 refine sp rfl (PE.move rfl) rfl ?_
 refine sp rfl (PE.move rfl) rfl ?_
 refine sp rfl (PE.move rfl) rfl ?_
 refine sp rfl (PE.add rfl rfl (by omega)) rfl ?_
 rw [show (i : Int) + ((1 : Nat) : Int) = ((i + 1 : Nat) : Int) from by omega]
 refine sp rfl (PE.slLo sl40 rfl rfl (by omega) (by omega)) rfl ?_
 refine clX rfl rfl rfl (fun w hs => run_ovl (xa := [.int .i64 x]) (xb := ints xs ++ junk) (eA := 3) (eB := 3) (tS := 40) (tR := 4) Try.func130 (by kernel_rfl) (by kernel_rfl) (by kernel_rfl) (by kernel_rfl) sl40 (fun e9 => ?_) (by simp [ints]; intro e9 _; rw [e9] at hin; simp at hin) (hs.held (bv, _) (by simp)) (hs.held (b, _) (by simp))) ?_
 · subst e9
   have := hs.nd
   simp at this
 refine sp rfl (PE.not rfl) rfl ?_
 refine sy_condT (rfl) ?_
 refine sy_seq ?_
 refine sy_draw [0, 0, 0, 6, 15, 0, 0, 96, 255] (.tk 0 (.tk 1 (.tk 2 (.tk 3 (.tk 4 (.tk 5 (.tk 6 (.tk 7 (.big 8 .done))))))))) mixed (by kernel_rfl) ?_
 refine tk rfl (PE.move rfl) rfl ?_
 refine tk rfl (PE.move rfl) rfl ?_
 refine tk rfl (PE.move rfl) rfl ?_
 refine tk rfl (PE.add rfl rfl (by omega)) rfl ?_
 rw [show (i : Int) + ((1 : Nat) : Int) = ((i + 1 : Nat) : Int) from by omega]
 refine tk rfl (PE.slLo sl40 rfl rfl (by omega) (by omega)) rfl ?_
 refine tk rfl (PE.move rfl) rfl ?_
 refine tk rfl (PE.move rfl) rfl ?_
 refine tk rfl (PE.slLo sl40 rfl rfl (by omega) (by omega)) rfl ?_
 refine cpyA (ints (xs.drop i)) rfl sl40 rfl rfl (by rw [ints_length, List.length_drop, show xs.length + 1 - (i + 1) = xs.length - i from by omega, show Nat.min (xs.length + 1 - i) (xs.length - i) = xs.length - i from Nat.min_eq_right (by omega)]; omega) (heldAt (l := ints xs ++ junk) (e2 := 3) (fun j v h => by
   have h1 := (List.getElem?_eq_some_iff.1 h).1
   rw [ints_length, List.length_drop] at h1
   rw [show 0 + i * 1 + j = i + j from by omega, List.getElem?_append_left (by rw [ints_length]; omega)]
   simpa [ints] using h)) (ints_one _) (by simp only [List.length_append, ints_length, List.length_drop]; omega) rfl ?_
 refine bg (fun w hs => trivial) ?_
 refine sy_seq ?_
 refine sy_tx' [0, 1, 2, 3, 4] rfl ?_
 refine sp rfl (PE.move rfl) rfl ?_
 refine sp rfl (PE.move rfl) rfl ?_
 refine sp rfl (PE.slLo sl40 rfl rfl (by omega) (by omega)) rfl ?_
 refine sp rfl (PE.move rfl) rfl ?_
 refine cpyA [.int .i64 x] rfl sl40 rfl rfl (by show 1 = Nat.min 1 (xs.length + 1 - i) * 1; rw [show Nat.min 1 (xs.length + 1 - i) = 1 from Nat.min_eq_left (by omega)]) (heldAt (l := [.int .i64 x]) (e2 := 3) (fun j v h => by simpa using h)) rfl (by rw [spl_len (by simp only [List.length_append, ints_length, List.length_singleton, List.length_drop]; omega)]; simp only [List.length_append, ints_length, List.length_singleton, List.length_drop]; omega) rfl ?_
 refine sy_seq ?_
 refine sy_tx' [0, 1] rfl ?_
 rw [spl_ins hin (by omega)]
 refine sp rfl (PE.move rfl) rfl ?_
 refine sp rfl (PE.assign rfl) rfl ?_
 refine sy_ret ?_
 obtain ⟨ys, hys⟩ : ∃ ys, ys = xs.take i ++ x :: xs.drop i := ⟨_, rfl⟩
 have hyl : ys.length = xs.length + 1 := by rw [hys]; simp; omega
 rw [← hys]
 have hyi : (irows ys).length = xs.length + 1 := by rw [List.length_map, hyl]
 exact sy_return (vs := [_]) rfl (.cons (RV.tmp rfl) .nil) rfl ⟨(⟨.slice (some ⟨b, 0, none⟩) (irows ys).length cap, [(b, cel 3 ((irows ys).flatten ++ junk.drop 1))], ir_len _, .inr ⟨b, cap, junk.drop 1, rfl, rfl, by rw [hyi]; first | omega | (rw [List.length_drop]; omega), by rw [hyi]; omega, hmx⟩⟩ : OSl 3 1 (irows ys)).cast (by rw [hys]), congrArg (fun q => Value.slice (some ⟨b, 0, none⟩) q cap) hyi.symm, rfl, rfl⟩ (fun w h => by
   show St ((b, cel 3 ((irows ys).flatten ++ junk.drop 1)) :: H) R w
   rw [irows_flat']
   exact h.del bv)
theorem c_Shuffle (l0 : List Int) (a0 : Option Addr) (c0 bk : Nat) (hgl : l0.length ≤ 9223372036854775807) (tq mx : Int) (htq : 0 ≤ tq ∧ tq ≤ 100000) (hmx : 0 ≤ mx ∧ mx ≤ 4294967295) (n : Nat) (hn : n ≤ 1000) (H : Heap) (R : Facts) [hG : MemRows a0 1 (urows l0) R] :
    Fn Try.prog 56 [.pointer (some ⟨bk, 0, none⟩), .int .i64 n] ((bk, cel 144 [.slice a0 l0.length c0, .int .i64 (tq), .int .u32 (mx)]) :: H) R (fun v H' R' => ∃ (p : List Nat) (o : OSl 3 1 (irows (p.map fun (j : Nat) => (j : Int)))) (tq' mx' : Int), Ord p n ∧ v = o.fs ∧ (tq ≤ tq' ∧ tq' ≤ tq + n) ∧ (0 ≤ mx' ∧ mx' ≤ 4294967295) ∧ H' = (bk, cel 144 [.slice a0 l0.length c0, .int .i64 (tq'), .int .u32 (mx')]) :: (o.G ++ H) ∧ R' = R) := by
 refine fn_of Try.func56 rfl Try.ntmps56 rfl ?_
 refine sy_seq ?_
 refine sy_tx' [0] rfl ?_
 refine sp rfl (PE.assign rfl) rfl ?_
 refine sy_seq ?_
 refine sy_tx' [0] rfl ?_
 refine sp rfl (PE.assign rfl) rfl ?_
 refine sy_seq ?_
 refine sy_seq ?_
 refine sy_tx' [0, 1] rfl ?_
 refine sp rfl (PE.move rfl) rfl ?_
 refine sp rfl (PE.move rfl) rfl ?_
 refine sy_block ?_
 refine sy_loop (ι := (x : {x : Nat × List Nat × Int × Int // x.1 ≤ n ∧ Ord x.2.1 x.1 ∧ (tq ≤ x.2.2.1 ∧ x.2.2.1 ≤ tq + x.1) ∧ (0 ≤ x.2.2.2 ∧ x.2.2.2 ≤ 4294967295)}) × OSl 3 1 (irows (x.1.2.1.map fun (j : Nat) => (j : Int)))) (fun x => ⟨[(0, .pointer (some ⟨bk, 0, none⟩)), (5, x.2.fs), (7, .int .i64 n), (8, .int .i64 x.1.1.1)], (bk, cel 144 [.slice a0 l0.length c0, .int .i64 (x.1.1.2.2.1), .int .u32 (x.1.1.2.2.2)]) :: (x.2.G ++ H), R⟩) (fun x => n - x.1.1.1) ⟨⟨(0, [], tq, mx), by omega, Ord.nil, by dsimp only; omega, by assumption⟩, OSl.nil _ _⟩ ?_ (fun x => ?_)
 exact sy_at (by repeat' first | exact Sub.nil | apply Sub.cons | rfl | (simp [lk]; omega)) (fun _ h => h)
 obtain ⟨⟨⟨k, p, tq2, mx2⟩, hk, hp, htq2, hmx2⟩, o⟩ := x
 dsimp only at hk hp htq2 hmx2 o ⊢
 have hpl := hp.len
 refine sy_seq ?_
 refine sy_tx' [0] rfl ?_
 refine sp rfl (PE.lss rfl rfl) rfl ?_
 refine sy_seq ?_
 refine sy_cond rfl (fun hc0 => ?_) (fun hc0 => ?_)
 try simp only [decide_eq_true_eq, decide_eq_false_iff_not, Bool.and_eq_true, Bool.or_eq_true, Bool.not_eq_true', Int.not_le, Int.not_lt] at hc0
 refine sy_skip ?_
 refine sy_seq ?_
 refine sy_block ?_
 refine sy_seq ?_
 refine sy_tx' [0, 1] rfl ?_
 refine sp rfl (PE.move rfl) rfl ?_
 refine sp rfl (PE.assign rfl) rfl ?_
 refine sy_tx' [0, 1, 2, 3, 4, 5, 6, 7, 8] rfl ?_
 refine sp rfl (PE.move rfl) rfl ?_
 refine sp rfl (PE.move rfl) rfl ?_
 refine sp rfl (PE.move rfl) rfl ?_
 refine sp rfl (PE.add rfl rfl (by omega)) rfl ?_
 refine cl rfl cal63 rfl rfl (c_Below l0 a0 c0 bk hgl _ _ (by omega) (by assumption) ((k : Int) + 1) _ _) ?_
 rintro _ _ R1 ⟨x15, m15, hx15, rfl, hm15, rfl, hR1⟩
 obtain rfl := hR1.symm
 obtain ⟨j, hj⟩ : ∃ j : Nat, x15 = j := ⟨x15.toNat, by omega⟩
 rw [hj]
 have hjk : j ≤ k := by omega
 refine sp rfl (PE.move rfl) rfl ?_
 refine bsl (out := [_]) rfl sl40 zl3 rfl rfl rfl rfl rfl rfl (fun b17 => ?_)
 refine Sy.heap (H' := (b17, cel 3 [.int .i64 (k : Int)]) :: (o.G ++ ((bk, cel 144 [.slice a0 l0.length c0, .int .i64 (tq2 + 1), .int .u32 (m15)]) :: H))) (fun w h => h.perm (List.Perm.cons _ List.perm_middle.symm)) ?_
 refine cl rfl cal111 rfl rfl (c_Insert (p.map fun (j : Nat) => (j : Int)) o j (by simp [hpl]; omega) (by simp [hpl]; omega) (k : Int) b17 _ _) ?_
 rintro _ _ R1 ⟨o18, rfl, rfl, hR1⟩
 obtain rfl := hR1.symm
 clear hR1
 refine sp rfl (PE.assign rfl) rfl ?_
 refine sy_tx' [0, 1] rfl ?_
 refine sp rfl (PE.add rfl rfl (by omega)) rfl ?_
 refine sp rfl (PE.move rfl) rfl ?_
 exact sy_next ⟨⟨(k + 1, p.take j ++ k :: p.drop j, tq2 + 1, m15), by omega, hp.ins hjk, by dsimp only; omega, by assumption⟩, o18.cast (by simp [irows, List.map_take, List.map_drop])⟩ (by dsimp only; omega) (by repeat' first | exact Sub.nil | apply Sub.cons | rfl | (simp [lk]; omega)) (fun w h => h.perm List.perm_middle)
 try simp only [decide_eq_true_eq, decide_eq_false_iff_not, Bool.and_eq_true, Bool.or_eq_true, Bool.not_eq_true', Int.not_le, Int.not_lt] at hc0
 obtain rfl : k = n := by omega
 refine sy_exit ?_
 repeat refine sy_tx ?_
 refine sy_bx ?_
 refine sy_seq ?_
 refine sy_tx' [0, 1] rfl ?_
 refine sp rfl (PE.move rfl) rfl ?_
 refine sp rfl (PE.assign rfl) rfl ?_
 refine sy_ret ?_
 exact sy_return (vs := [_]) rfl (.cons (RV.tmp rfl) .nil) rfl ⟨p, o, tq2, mx2, hp, rfl, by omega, by assumption, rfl, rfl⟩ (fun _ h => h)
structure InsI (l xs : List Int) (i j : Nat) : Prop where
  perm : xs.Perm l
  le : j ≤ i
  at_ : ∀ p q, p < q → q ≤ i → q ≠ j → nn xs p ≤ nn xs q
structure SrtI (l xs : List Int) (i : Nat) : Prop where
  perm : xs.Perm l
  at_ : ∀ p q, p < q → q < i → nn xs p ≤ nn xs q
theorem SrtI.start (l : List Int) : SrtI l l 1 := ⟨.refl _, fun p q h1 h2 => by omega⟩
theorem SrtI.ins {l xs : List Int} {i : Nat} (h : SrtI l xs i) : InsI l xs i i := ⟨h.perm, Nat.le_refl _, fun p q h1 h2 h3 => h.at_ p q h1 (by omega)⟩
theorem InsI.done {l xs : List Int} {i j : Nat} (h : InsI l xs i j) (hj : j = 0 ∨ nn xs (j - 1) ≤ nn xs j) : SrtI l xs (i + 1) := ⟨h.perm, fun p q h1 h2 => by
  by_cases hq : q = j
  · subst hq
    have h3 : nn xs (q - 1) ≤ nn xs q := hj.resolve_left (by omega)
    by_cases hp : p = q - 1
    · subst hp; exact h3
    · have := h.at_ p (q - 1) (by omega) (by omega) (by omega); omega
  · exact h.at_ p q h1 (by omega) hq⟩
theorem nn_at {xs : List Int} {k : Nat} (h : k < xs.length) : nn xs k = xs[k] := by unfold nn; rw [List.getD_eq_getElem?_getD, List.getElem?_eq_getElem h]; rfl
theorem InsI.swap {l xs : List Int} {i j : Nat} (h : InsI l xs i j) (hj : 0 < j) (hi : i < xs.length) (hlt : nn xs j < nn xs (j - 1)) : InsI l ((xs.set j (nn xs (j - 1))).set (j - 1) (nn xs j)) i (j - 1) := by
  have hle := h.le
  have hv : ∀ q, nn ((xs.set j (nn xs (j - 1))).set (j - 1) (nn xs j)) q = if q = j - 1 then nn xs j else if q = j then nn xs (j - 1) else nn xs q := fun q => by
    rw [nn_set (by rw [List.length_set]; omega), nn_set (by omega)]
    by_cases h1 : q = j - 1
    · subst h1; simp
    · have e1 : (j - 1 == q) = false := by simp; omega
      rw [e1, if_neg h1]
      by_cases h2 : q = j
      · subst h2; simp
      · have e2 : (j == q) = false := by simp; omega
        rw [e2, if_neg h2]; rfl
  refine ⟨?_, by omega, fun p q h1 h2 h3 => ?_⟩
  · have e := @List.set_set_perm Int xs j (j - 1) (by omega) (by omega)
    rw [nn_at (k := j - 1) (by omega), nn_at (k := j) (by omega)]
    exact e.trans h.perm
  · rw [hv p, hv q]
    have A := h.at_ p q h1 h2
    have B := h.at_ p (j - 1)
    have C := h.at_ j q
    have E := h.at_ (j - 1) q
    rw [if_neg h3]
    by_cases hq : q = j
    · rw [if_pos hq]
      split
      · omega
      · rw [if_neg (by omega)]; exact B (by omega) (by omega) (by omega)
    · rw [if_neg hq]
      split
      · exact C (by omega) h2 hq
      · split
        · exact E (by omega) h2 hq
        · exact A hq
structure RiseI (n c : Nat) (rs : List Int) : Prop where
  len : rs.length = 6
  le : n ≤ c ∧ c ≤ 6 ∧ n ≤ 2
  zero : ∀ j, j < 6 → j < n ∨ c ≤ j → na rs j = 0
  rise : ∀ j, n ≤ j → j < c → 6 ≤ na rs j ∧ na rs j ≤ 20
  up : ∀ j, n ≤ j → j + 1 < c → na rs j ≤ na rs (j + 1)
theorem RiseI.start {n : Nat} (h : n ≤ 2) : RiseI n n [0, 0, 0, 0, 0, 0] := ⟨rfl, ⟨by omega, by omega, h⟩, fun j hj _ => by
  match j, hj with
  | 0, _ | 1, _ | 2, _ | 3, _ | 4, _ | 5, _ => rfl, fun j h1 h2 => by omega, fun j h1 h2 => by omega⟩
theorem RiseI.more {n c : Nat} {rs : List Int} {v : Int} (h : RiseI n c rs) (hc : c < 6) (hv : 6 ≤ v ∧ v ≤ 20) (hu : n < c → na rs (c - 1) ≤ v) : RiseI n (c + 1) (rs.set c v) := by
  have hle := h.le
  have hat : ∀ j, na (rs.set c v) j = if c = j then v else na rs j := fun j => na_set (by rw [h.len]; omega)
  refine ⟨by rw [List.length_set]; exact h.len, ⟨by omega, by omega, hle.2.2⟩, fun j hj h1 => ?_, fun j h1 h2 => ?_, fun j h1 h2 => ?_⟩
  · rw [hat, if_neg (by omega)]; exact h.zero j hj (by omega)
  · rw [hat]
    split
    · exact hv
    · exact h.rise j h1 (by omega)
  · rw [hat, hat, if_neg (show ¬ c = j by omega)]
    split
    · rename_i e
      have := hu (by omega)
      rw [show c - 1 = j by omega] at this
      exact this
    · exact h.up j h1 (by omega)
structure BinH (x : HBin) : Prop where
  mark : 18 ≤ x.mark ∧ x.mark ≤ 60
  warm : 0 ≤ x.warm ∧ x.warm ≤ x.mark
  lo : 0 ≤ x.lo ∧ x.lo ≤ 5
  hi : x.lo ≤ x.hi ∧ x.hi ≤ 5
structure MadeH (b : Barn) (nb ng : Int) : Prop where
  ok : b.ok
  check : b.check = 0
  nb : (b.bins.length : Int) ≤ nb
  ng : b.gangs ≤ ng
  bins : ∀ x ∈ b.bins, BinH x
theorem list6e {l : List Int} (h : l.length = 6) : ∃ a b c d e f, l = [a, b, c, d, e, f] := by
  match l, h with
  | [a, b, c, d, e, f], _ => exact ⟨a, b, c, d, e, f, rfl⟩
theorem made_ok {n : Nat} {rs : List Int} {bl : List HBin} {cool gangs nb ng : Int} (hr : RiseI n 6 rs) (hb : ∀ x ∈ bl, BinH x) (hl : 1 ≤ bl.length ∧ bl.length ≤ 4) (hnb : (bl.length : Int) ≤ nb) (hc : 0 ≤ cool ∧ cool ≤ 60) (hg : 0 ≤ gangs ∧ gangs ≤ 3) (hng : gangs ≤ ng) : MadeH ⟨cool, gangs, rs, bl⟩ nb ng := by
  have hok : Barn.ok ⟨cool, gangs, rs, bl⟩ := by
    refine ⟨hr.len, hl, hc, ⟨hg.1, by show gangs ≤ 4; omega⟩, fun v hv => ?_, fun x hx => ?_, ?_, fun x hx => (hb x hx).hi.1⟩
    · obtain ⟨j, hj⟩ := List.getElem?_of_mem hv
      have hj6 := (List.getElem?_eq_some_iff.1 hj).1
      have hv2 : na rs j = v := by unfold na; rw [List.getD_eq_getElem?_getD, hj]; rfl
      have hlen := hr.len
      have hj6 : j < 6 := by have : (Barn.mk cool gangs rs bl).rise.length = 6 := hlen; omega
      rcases Nat.lt_or_ge j n with h1 | h1
      · left; rw [← hv2]; exact hr.zero j hj6 (.inl h1)
      · right; rw [← hv2]; exact hr.rise j h1 hj6
    · have h1 := hb x hx
      exact ⟨⟨by have := h1.mark; omega, h1.mark.2⟩, h1.warm, h1.lo, by have := h1.lo; have := h1.hi; omega⟩
    · have key : ∀ j, j + 1 < 6 → na rs j ≤ na rs (j + 1) := fun j hj => by
        rcases Nat.lt_or_ge j n with h1 | h1
        · rw [hr.zero j (by omega) (.inl h1)]
          rcases Nat.lt_or_ge (j + 1) n with h2 | h2
          · rw [hr.zero (j + 1) hj (.inl h2)]; exact Int.le_refl _
          · have := hr.rise (j + 1) h2 hj; omega
        · exact hr.up j h1 hj
      show srt rs = true
      have k0 := key 0 (by omega); have k1 := key 1 (by omega); have k2 := key 2 (by omega); have k3 := key 3 (by omega); have k4 := key 4 (by omega)
      obtain ⟨a, b, c, d, e, f, rfl⟩ := list6e hr.len
      simp only [na, List.getD_cons_zero, List.getD_cons_succ] at k0 k1 k2 k3 k4
      simp [srt, k0, k1, k2, k3, k4]
  exact ⟨hok, check_of hok hg.2, hnb, hng, hb⟩
theorem btl_get {c g : Int} {rs : List Int} {bl : List HBin} {sl : Value} {k : Nat} (hk : k < 6) : (btl ⟨c, g, rs, bl⟩ sl)[0 + 2 + ((k : Nat) : Int).toNat * 1]? = some (.int .i64 (na rs k)) := by
  match k, hk with
  | 0, _ | 1, _ | 2, _ | 3, _ | 4, _ | 5, _ => rfl
theorem btl_put {c g : Int} {rs : List Int} {bl : List HBin} {sl : Value} {k : Nat} (hk : k < 6) (hr : rs.length = 6) (v : Int) : spl (btl ⟨c, g, rs, bl⟩ sl) (0 + 2 + ((k : Nat) : Int).toNat * 1) [.int .i64 v] = btl ⟨c, g, rs.set k v, bl⟩ sl := by
  obtain ⟨a, b, c, d, e, f, rfl⟩ := list6e hr
  match k, hk with
  | 0, _ | 1, _ | 2, _ | 3, _ | 4, _ | 5, _ => rfl
theorem c_Made (g : List Int) (ag : Option Addr) (cg bk : Nat) (hgl : g.length ≤ 9223372036854775807) (tq mx : Int) (htq : 0 ≤ tq ∧ tq ≤ 1000000) (hmx : 0 ≤ mx ∧ mx ≤ 4294967295) (nb ng : Int) (hnb : 1 ≤ nb ∧ nb ≤ 4) (hng : 0 ≤ ng ∧ ng ≤ 3) (H : Heap) (R : Facts) [hG : MemRows ag 1 (urows g) R] :
    Fn Try.prog 44 [.pointer (some ⟨bk, 0, none⟩), .int .i64 nb, .int .i64 ng] ((bk, cel 144 [.slice ag g.length cg, .int .i64 (tq), .int .u32 (mx)]) :: H) R (fun v H' R' => ∃ (b : Barn) (ab : Option Addr) (cb : Nat) (tq' mx' : Int), MadeH b nb ng ∧ v = b.v (b.sl ab cb) ∧ (tq ≤ tq' ∧ tq' ≤ tq + 40) ∧ (0 ≤ mx' ∧ mx' ≤ 4294967295) ∧
      H' = (bk, cel 144 [.slice ag g.length cg, .int .i64 (tq'), .int .u32 (mx')]) :: H ∧ R' = RowsA ab 4 (brows b.bins) :: R) := by
 refine fn_of Try.func44 rfl Try.ntmps44 rfl ?_
 refine sy_seq ?_
 refine sy_tx' [0] rfl ?_
 refine alc rfl zl25 rfl (fun b6 => ?_)
 refine sy_seq ?_
 refine sy_tx' [0, 1, 2, 3, 4, 5, 6, 7] rfl ?_
 refine sp rfl (PE.move rfl) rfl ?_
 refine sy_pull bk ?_
 refine cl rfl cal63 rfl rfl (c_Below g ag cg bk hgl _ _ (by omega) (by assumption) (30) _ _) ?_
 rintro _ _ R1 ⟨x13, m13, hx13, rfl, hm13, rfl, hR1⟩
 obtain rfl := hR1.symm
 refine sp rfl (PE.move rfl) rfl ?_
 refine sp rfl (PE.move rfl) rfl ?_
 refine cl rfl cal65 rfl rfl (c_Among g ag cg bk hgl _ _ (by omega) (by assumption) (0) (ng) (by first | omega | (dsimp only; omega)) _ _) ?_
 rintro _ _ R1 ⟨x16, m16, hx16, rfl, hm16, rfl, hR1⟩
 obtain rfl := hR1.symm
 refine sp rfl (PE.build (out := btl ⟨x13, x16, [0, 0, 0, 0, 0, 0], []⟩ (.slice none 0 0)) pl25 zl25 rfl rfl) rfl ?_
 refine alc rfl zl25 rfl (fun b7 => ?_)
 refine sto rfl rfl rfl cn25 rfl rfl rfl rfl ?_
 refine sy_seq ?_
 refine sy_tx' [0, 1, 2] rfl ?_
 refine sp rfl (PE.move rfl) rfl ?_
 refine sy_pull bk ?_
 refine cl rfl cal65 rfl rfl (c_Among g ag cg bk hgl _ _ (by omega) (by assumption) (0) (2) (by first | omega | (dsimp only; omega)) _ _) ?_
 rintro _ _ R1 ⟨x19, m19, hx19, rfl, hm19, rfl, hR1⟩
 obtain rfl := hR1.symm
 refine sp rfl (PE.assign rfl) rfl ?_
 refine sy_seq ?_
 refine sy_seq ?_
 refine sy_tx' [0, 1] rfl ?_
 refine sp rfl (PE.move rfl) rfl ?_
 refine sp rfl (PE.assign rfl) rfl ?_
 refine sy_block ?_
 obtain ⟨n, rfl⟩ : ∃ n : Nat, x19 = n := ⟨x19.toNat, by omega⟩
 refine sy_loop (ι := {x : Nat × List Int × Int × Int // RiseI n x.1 x.2.1 ∧ (tq + 3 ≤ x.2.2.1 ∧ x.2.2.1 ≤ tq + 3 + x.1) ∧ (0 ≤ x.2.2.2 ∧ x.2.2.2 ≤ 4294967295)}) (fun x => ⟨[(0, .pointer (some ⟨bk, 0, none⟩)), (1, .int .i64 nb), (6, .pointer (some ⟨b6, 0, none⟩)), (7, .pointer (some ⟨b7, 0, none⟩)), (8, .int .i64 n), (9, .int .i64 x.1.1)], (bk, cel 144 [.slice ag g.length cg, .int .i64 (x.1.2.2.1), .int .u32 (x.1.2.2.2)]) :: (b7, cel 25 (btl ⟨x13, x16, x.1.2.1, []⟩ (.slice none 0 0))) :: (b6, cel 25 (btl zbarn (.slice none 0 0))) :: H, R⟩) (fun x => 6 - x.1.1) ⟨(n, [0, 0, 0, 0, 0, 0], tq + 1 + 1 + 1, m19), RiseI.start (by omega), by dsimp only; omega, by assumption⟩ ?_ (fun x => ?_)
 exact sy_at (by repeat' first | exact Sub.nil | apply Sub.cons | rfl | (simp [lk]; omega)) (fun _ h => h)
 obtain ⟨⟨c, rs, tq2, mx2⟩, hri, htq2, hmx2⟩ := x
 dsimp only at hri htq2 hmx2 ⊢
 have hle := hri.le
 have hrl := hri.len
 refine sy_seq ?_
 refine sy_seq ?_
 refine sy_tx' [0, 1] rfl ?_
 refine sp rfl (PE.move rfl) rfl ?_
 refine sp rfl (PE.lss rfl rfl) rfl ?_
 refine sy_cond rfl (fun hc0 => ?_) (fun hc0 => ?_)
 try simp only [decide_eq_true_eq, decide_eq_false_iff_not, Bool.and_eq_true, Bool.or_eq_true, Bool.not_eq_true', Int.not_le, Int.not_lt] at hc0
 refine sy_skip ?_
 refine sy_seq ?_
 refine sy_block ?_
 refine sy_seq ?_
 refine sy_tx' [0] rfl ?_
 refine sp rfl (PE.assign rfl) rfl ?_
 refine sy_seq ?_
 refine sy_seq ?_
 refine sy_tx' [0, 1, 2] rfl ?_
 refine sp rfl (PE.move rfl) rfl ?_
 refine sp rfl (PE.move rfl) rfl ?_
 refine sp rfl (PE.gtr rfl rfl) rfl ?_
 refine sy_cond rfl (fun hc1 => ?_) (fun hc1 => ?_)
 try simp only [decide_eq_true_eq, decide_eq_false_iff_not, Bool.and_eq_true, Bool.or_eq_true, Bool.not_eq_true', Int.not_le, Int.not_lt] at hc1
 have hrp := hri.rise (c - 1) (by omega) (by omega)
 refine sy_tx' [0, 1, 2, 3, 4, 5] rfl ?_
 refine sp rfl (PE.move rfl) rfl ?_
 refine sp rfl (PE.sub rfl rfl (by omega)) rfl ?_
 rw [show (c : Int) - 1 = ((c - 1 : Nat) : Int) by omega]
 refine sp rfl (PE.fieldAddr fo25_2 rfl) rfl ?_
 refine sp rfl (PE.indexArr ar22 rfl rfl (by omega) (by omega)) rfl ?_
 refine spL rfl rfl (lh sc3 rfl (btl_get (by omega))) rfl ?_
 refine sp rfl (PE.assign rfl) rfl ?_
 refine sy_tx' [0, 1, 2, 3, 4, 5, 6, 7, 8] rfl ?_
 refine sp rfl (PE.move rfl) rfl ?_
 refine sp rfl (PE.move rfl) rfl ?_
 refine sp rfl (PE.move rfl) rfl ?_
 refine sy_pull bk ?_
 refine cl rfl cal63 rfl rfl (c_Below g ag cg bk hgl _ _ (by omega) (by assumption) (4) _ _) ?_
 rintro _ _ R1 ⟨x36, m36, hx36, rfl, hm36, rfl, hR1⟩
 obtain rfl := hR1.symm
 refine sp rfl (PE.add rfl rfl (by omega)) rfl ?_
 refine sp rfl (PE.min rfl rfl) rfl ?_
 refine sp rfl (PE.fieldAddr fo25_2 rfl) rfl ?_
 refine sp rfl (PE.indexArr ar22 rfl rfl (by omega) (by omega)) rfl ?_
 first | refine stoE (l' := btl ⟨x13, x16, rs.set c (min 20 (na rs (c - 1) + x36)), []⟩ (.slice none 0 0)) rfl rfl rfl cn3 rfl rfl rfl (btl_put (by omega) hrl _) (by show 0 + 2 + ((c : Nat) : Int).toNat * 1 + 1 ≤ 9; omega) ?_ | refine stoE (l' := btl ⟨x13, x16, rs.set c (min 20 (6 + x36)), []⟩ (.slice none 0 0)) rfl rfl rfl cn3 rfl rfl rfl (btl_put (by omega) hrl _) (by show 0 + 2 + ((c : Nat) : Int).toNat * 1 + 1 ≤ 9; omega) ?_
 refine sy_tx' [0, 1, 2] rfl ?_
 refine sp rfl (PE.move rfl) rfl ?_
 refine sp rfl (PE.add rfl rfl (by omega)) rfl ?_
 refine sp rfl (PE.assign rfl) rfl ?_
 first | exact sy_next ⟨(c + 1, rs.set c (min 20 (na rs (c - 1) + x36)), tq2 + 1, m36), hri.more (by omega) (by omega) (fun _ => by omega), by dsimp only; omega, by assumption⟩ (by dsimp only; omega) (by repeat' first | exact Sub.nil | apply Sub.cons | rfl | (simp [lk]; omega)) (fun _ h => h) | exact sy_next ⟨(c + 1, rs.set c (min 20 (6 + x36)), tq2 + 1, m36), hri.more (by omega) (by omega) (fun h => by omega), by dsimp only; omega, by assumption⟩ (by dsimp only; omega) (by repeat' first | exact Sub.nil | apply Sub.cons | rfl | (simp [lk]; omega)) (fun _ h => h)
 try simp only [decide_eq_true_eq, decide_eq_false_iff_not, Bool.and_eq_true, Bool.or_eq_true, Bool.not_eq_true', Int.not_le, Int.not_lt] at hc1
 refine sy_skip ?_
 refine sy_tx' [0, 1, 2, 3, 4, 5, 6, 7, 8] rfl ?_
 refine sp rfl (PE.move rfl) rfl ?_
 refine sp rfl (PE.move rfl) rfl ?_
 refine sp rfl (PE.move rfl) rfl ?_
 refine sy_pull bk ?_
 refine cl rfl cal63 rfl rfl (c_Below g ag cg bk hgl _ _ (by omega) (by assumption) (4) _ _) ?_
 rintro _ _ R1 ⟨x36, m36, hx36, rfl, hm36, rfl, hR1⟩
 obtain rfl := hR1.symm
 refine sp rfl (PE.add rfl rfl (by omega)) rfl ?_
 refine sp rfl (PE.min rfl rfl) rfl ?_
 refine sp rfl (PE.fieldAddr fo25_2 rfl) rfl ?_
 refine sp rfl (PE.indexArr ar22 rfl rfl (by omega) (by omega)) rfl ?_
 first | refine stoE (l' := btl ⟨x13, x16, rs.set c (min 20 (na rs (c - 1) + x36)), []⟩ (.slice none 0 0)) rfl rfl rfl cn3 rfl rfl rfl (btl_put (by omega) hrl _) (by show 0 + 2 + ((c : Nat) : Int).toNat * 1 + 1 ≤ 9; omega) ?_ | refine stoE (l' := btl ⟨x13, x16, rs.set c (min 20 (6 + x36)), []⟩ (.slice none 0 0)) rfl rfl rfl cn3 rfl rfl rfl (btl_put (by omega) hrl _) (by show 0 + 2 + ((c : Nat) : Int).toNat * 1 + 1 ≤ 9; omega) ?_
 refine sy_tx' [0, 1, 2] rfl ?_
 refine sp rfl (PE.move rfl) rfl ?_
 refine sp rfl (PE.add rfl rfl (by omega)) rfl ?_
 refine sp rfl (PE.assign rfl) rfl ?_
 first | exact sy_next ⟨(c + 1, rs.set c (min 20 (na rs (c - 1) + x36)), tq2 + 1, m36), hri.more (by omega) (by omega) (fun _ => by omega), by dsimp only; omega, by assumption⟩ (by dsimp only; omega) (by repeat' first | exact Sub.nil | apply Sub.cons | rfl | (simp [lk]; omega)) (fun _ h => h) | exact sy_next ⟨(c + 1, rs.set c (min 20 (6 + x36)), tq2 + 1, m36), hri.more (by omega) (by omega) (fun h => by omega), by dsimp only; omega, by assumption⟩ (by dsimp only; omega) (by repeat' first | exact Sub.nil | apply Sub.cons | rfl | (simp [lk]; omega)) (fun _ h => h)
 try simp only [decide_eq_true_eq, decide_eq_false_iff_not, Bool.and_eq_true, Bool.or_eq_true, Bool.not_eq_true', Int.not_le, Int.not_lt] at hc0
 obtain rfl : c = 6 := by omega
 refine sy_exit ?_
 repeat refine sy_tx ?_
 refine sy_bx ?_
 refine sy_seq ?_
 refine sy_seq ?_
 refine sy_tx' [0, 1, 2, 3] rfl ?_
 refine sp rfl (PE.move rfl) rfl ?_
 refine sp rfl (PE.move rfl) rfl ?_
 refine cl rfl cal65 rfl rfl (c_Among g ag cg bk hgl _ _ (by omega) (by assumption) (1) (nb) (by first | omega | (dsimp only; omega)) _ _) ?_
 rintro _ _ R1 ⟨x43, m43, hx43, rfl, hm43, rfl, hR1⟩
 obtain rfl := hR1.symm
 refine sp rfl (PE.move rfl) rfl ?_
 refine sy_block ?_
 obtain ⟨n43, rfl⟩ : ∃ n : Nat, x43 = n := ⟨x43.toNat, by omega⟩
 refine sy_loop (ι := (x : {x : Nat × List HBin × Int × Int // x.1 ≤ n43 ∧ x.2.1.length = x.1 ∧ (∀ y ∈ x.2.1, BinH y) ∧ (tq ≤ x.2.2.1 ∧ x.2.2.1 ≤ tq + 10 + 4 * x.1) ∧ (0 ≤ x.2.2.2 ∧ x.2.2.2 ≤ 4294967295)}) × OSl 45 4 (brows x.1.2.1)) (fun x => ⟨[(0, .pointer (some ⟨bk, 0, none⟩)), (1, .int .i64 nb), (6, .pointer (some ⟨b6, 0, none⟩)), (7, .pointer (some ⟨b7, 0, none⟩)), (8, .int .i64 n), (43, .int .i64 n43), (44, .int .i64 x.1.1.1)], (bk, cel 144 [.slice ag g.length cg, .int .i64 (x.1.1.2.2.1), .int .u32 (x.1.1.2.2.2)]) :: (x.2.G ++ (b7, cel 25 (btl ⟨x13, x16, rs, x.1.1.2.1⟩ x.2.fs)) :: (b6, cel 25 (btl zbarn (.slice none 0 0))) :: H), R⟩) (fun x => n43 - x.1.1.1) ⟨⟨(0, [], tq2 + 1, m43), Nat.zero_le _, rfl, by simp, by dsimp only; omega, by assumption⟩, OSl.nil _ _⟩ ?_ (fun x => ?_)
 exact sy_at (by repeat' first | exact Sub.nil | apply Sub.cons | rfl | (simp [lk]; omega)) (fun _ h => h)
 obtain ⟨⟨⟨i, bl, tq3, mx3⟩, hi, hbl, hbh, htq3, hmx3⟩, o⟩ := x
 dsimp only at hi hbl hbh htq3 hmx3 o ⊢
 refine sy_seq ?_
 refine sy_tx' [0] rfl ?_
 refine sp rfl (PE.lss rfl rfl) rfl ?_
 refine sy_seq ?_
 refine sy_cond rfl (fun hc2 => ?_) (fun hc2 => ?_)
 try simp only [decide_eq_true_eq, decide_eq_false_iff_not, Bool.and_eq_true, Bool.or_eq_true, Bool.not_eq_true', Int.not_le, Int.not_lt] at hc2
 refine sy_skip ?_
 refine sy_seq ?_
 refine sy_block ?_
 refine sy_seq ?_
 refine sy_tx' [0, 1, 2, 3, 4, 5, 6, 7] rfl ?_
 refine sp rfl (PE.move rfl) rfl ?_
 refine cl rfl cal65 rfl rfl (c_Among g ag cg bk hgl _ _ (by omega) (by assumption) (18) (60) (by first | omega | (dsimp only; omega)) _ _) ?_
 rintro _ _ R1 ⟨x47, m47, hx47, rfl, hm47, rfl, hR1⟩
 obtain rfl := hR1.symm
 refine sp rfl (PE.move rfl) rfl ?_
 refine cl rfl cal63 rfl rfl (c_Below g ag cg bk hgl _ _ (by omega) (by assumption) (6) _ _) ?_
 rintro _ _ R1 ⟨x49, m49, hx49, rfl, hm49, rfl, hR1⟩
 obtain rfl := hR1.symm
 refine sp rfl (PE.build (out := [_, _]) pl43 zl43 rfl rfl) rfl ?_
 refine sp rfl (PE.build (out := [_, _, _, _]) pl45 zl45 rfl rfl) rfl ?_
 refine alc rfl zl45 rfl (fun b11 => ?_)
 refine sto rfl rfl rfl cn45 rfl rfl rfl rfl ?_
 refine sy_seq ?_
 refine sy_draw [0, 0, 2, 6, 14, 31, 0, 0, 128, 384, 0, 1024, 3072, 7168, 15360, 32767, 8127, 131071, 262143, 524287, 1048575] (.tk 0 (.tk 1 (.ld 2 (.tk 3 (.tk 4 (.tk 6 (.tk 7 (.tk 8 (.ld 9 (.tk 10 (.tk 11 (.ld 12 (.tk 13 (.tk 14 (.big 5 (.tk 16 (.big 15 (.big 17 (.tk 18 (.tk 19 (.big 20 .done))))))))))))))))))))) mixed (by kernel_rfl) ?_
 refine tk rfl (PE.move rfl) rfl ?_
 refine tk rfl (PE.fieldAddr fo45_1 rfl) rfl ?_
 refine ld rfl rfl (lh sc3 rfl rfl) rfl ?_
 refine tk rfl (PE.min rfl rfl) rfl ?_
 refine tk rfl (PE.add rfl rfl (by omega)) rfl ?_
 refine tk rfl (PE.move rfl) rfl ?_
 refine tk rfl (PE.fieldAddr fo45_2 rfl) rfl ?_
 refine tk rfl (PE.fieldAddr fo43_0 rfl) rfl ?_
 refine ld rfl rfl (lh sc3 rfl rfl) rfl ?_
 refine tk rfl (PE.fieldAddr fo45_2 rfl) rfl ?_
 refine tk rfl (PE.fieldAddr fo43_0 rfl) rfl ?_
 refine ld rfl rfl (lh sc3 rfl rfl) rfl ?_
 refine tk rfl (PE.add rfl rfl (by omega)) rfl ?_
 refine tk rfl (PE.min rfl rfl) rfl ?_
 refine sy_pull bk ?_
 refine cl rfl cal63 rfl rfl (c_Below g ag cg bk hgl _ _ (by omega) (by assumption) (min x47 30 + 1) _ _) ?_
 rintro _ _ R1 ⟨x57, m57, hx57, rfl, hm57, rfl, hR1⟩
 obtain rfl := hR1.symm
 refine bg (fun w hs => ⟨(lh sc3 rfl rfl) w hs, (lh sc3 rfl rfl) w hs, trivial, trivial⟩) ?_
 refine tk rfl (PE.fieldAddr fo45_0 rfl) rfl ?_
 refine sy_pull bk ?_
 refine cl rfl cal65 rfl rfl (c_Among g ag cg bk hgl _ _ (by omega) (by assumption) (x49) (min 5 (x49 + 2)) (by first | omega | (dsimp only; omega)) _ _) ?_
 rintro _ _ R1 ⟨x67, m67, hx67, rfl, hm67, rfl, hR1⟩
 obtain rfl := hR1.symm
 refine bg (fun w hs => ⟨trivial, trivial, trivial⟩) ?_
 refine sto rfl rfl rfl cn3 rfl rfl rfl rfl ?_
 refine bg (fun w hs => trivial) ?_
 refine tk rfl (PE.fieldAddr fo45_2 rfl) rfl ?_
 refine tk rfl (PE.fieldAddr fo43_1 rfl) rfl ?_
 refine sto rfl rfl rfl cn3 rfl rfl rfl rfl ?_
 refine bg (fun w hs => trivial) ?_
 refine sy_tx' [0, 1, 2, 3, 4, 5, 6] rfl ?_
 refine sp rfl (PE.fieldAddr fo25_3 rfl) rfl ?_
 refine spL rfl rfl (lh sc23 rfl rfl) rfl ?_
 refine spL rfl rfl (lhA [.int .i64 x57, .int .i64 x47, .int .i64 x49, .int .i64 x67] ag45 rfl rfl rfl) rfl ?_
 refine bsl (out := [_, _, _, _]) rfl sl23 zl45 rfl rfl rfl rfl rfl rfl (fun b74 => ?_)
 refine apO (o) rfl ap23 rfl rfl (rowsH (row := brow ⟨x57, x47, x49, x67⟩) rfl) rfl rfl ((by rw [brows_len]; simp only [List.length_singleton]; omega)) rfl (fun o75 => ?_)
 refine sp rfl (PE.fieldAddr fo25_3 rfl) rfl ?_
 refine stoE (l' := btl ⟨x13, x16, rs, bl ++ [⟨x57, x47, x49, x67⟩]⟩ o75.fs) rfl rfl rfl cn23 rfl (by rw [o75.cells.1]; first | done | rfl) (by rw [o75.cells.1]; simp [o75.cells.2]) (by rw [o75.cells.1]; first | done | rfl) (by rw [o75.cells.1]; first | done | exact Nat.le_of_ble_eq_true rfl) ?_
 refine sy_tx' [0, 1] rfl ?_
 refine sp rfl (PE.add rfl rfl (by omega)) rfl ?_
 refine sp rfl (PE.move rfl) rfl ?_
 exact sy_next ⟨⟨(i + 1, bl ++ [⟨x57, x47, x49, x67⟩], tq3 + 1 + 1 + 1 + 1, m67), by dsimp only; omega, by rw [List.length_append, hbl]; rfl, fun y hy => by
   rcases List.mem_append.1 hy with hy | hy
   · exact hbh y hy
   · rw [List.mem_singleton.1 hy]; exact ⟨by dsimp only; omega, by dsimp only; omega, by dsimp only; omega, by dsimp only; omega⟩, by dsimp only; omega, by assumption⟩, o75.cast (by rw [brows_app]; rfl)⟩ (by dsimp only; omega) (by repeat' first | exact Sub.nil | apply Sub.cons | rfl | (simp [lk]; omega)) (fun w h => (h.del b74).del b11)
 try simp only [decide_eq_true_eq, decide_eq_false_iff_not, Bool.and_eq_true, Bool.or_eq_true, Bool.not_eq_true', Int.not_le, Int.not_lt] at hc2
 obtain rfl : i = n43 := by omega
 obtain ⟨ab, cb, he, hf⟩ := o.freeze
 rw [he, brows_len]
 refine Sy.heap (H' := _) (fun w h => hf (h.perm (List.perm_middle (l₁ := o.G) (a := _)).symm)) ?_
 clear he hf
 have hmade := made_ok (nb := nb) (ng := ng) hri hbh (by omega) (by omega) (show 0 ≤ x13 ∧ x13 ≤ 60 by omega) (show 0 ≤ x16 ∧ x16 ≤ 3 by omega) (by omega)
 refine sy_exit ?_
 repeat refine sy_tx ?_
 refine sy_bx ?_
 refine sy_seq ?_
 refine sy_tx' [0, 1] rfl ?_
 refine spL rfl rfl (lhA (btl ⟨x13, x16, rs, bl⟩ (.slice ab bl.length cb)) ag25 rfl rfl rfl) rfl ?_
 refine sto rfl rfl rfl cn25 rfl rfl rfl rfl ?_
 refine sy_ret ?_
 exact sy_return (vs := [_]) rfl (.cons (RV.cell rfl (lhA (btl ⟨x13, x16, rs, bl⟩ (.slice ab bl.length cb)) ag25 rfl rfl rfl)) .nil) rfl ⟨⟨x13, x16, rs, bl⟩, ab, cb, _, _, hmade, rfl, ⟨by omega, by omega⟩, by assumption, rfl, rfl⟩ (fun w h => ((h.del b7).del b6))
end Go.Proofs.Ytelegnmfhjfbaaa
namespace Go.Proofs.Ytelegnmfhjfbaaa
set_option linter.unusedSimpArgs false
set_option linter.unusedVariables false
open Go
theorem cal56 : cal Try.prog 56 = true := by kernel_rfl
structure DayI (sp : List Nat) (k : Nat) (l : List Int) : Prop where
  nd : l.Nodup
  mem : ∀ y ∈ l, ∃ i j : Nat, i < k ∧ sp[i]? = some j ∧ y = (j : Int)
theorem DayI.skip {sp : List Nat} {k : Nat} {l : List Int} (h : DayI sp k l) : DayI sp (k + 1) l := ⟨h.nd, fun y hy => by obtain ⟨i, j, h1, h2⟩ := h.mem y hy; exact ⟨i, j, by omega, h2⟩⟩
theorem DayI.more {sp : List Nat} {k j : Nat} {l : List Int} (h : DayI sp k l) (hn : sp.Nodup) (hj : sp[k]? = some j) : DayI sp (k + 1) (l ++ [(j : Int)]) := by
  refine ⟨List.nodup_append.2 ⟨h.nd, by simp, fun x hx y hy e => ?_⟩, fun y hy => ?_⟩
  · rw [List.mem_singleton] at hy
    obtain ⟨i, j', h1, h2, h3⟩ := h.mem x hx
    have e2 : j' = j := by omega
    subst e2
    have hi := (List.getElem?_eq_some_iff.1 h2).1
    have := (List.getElem?_inj hi hn).1 (h2.trans hj.symm)
    omega
  · rcases List.mem_append.1 hy with hy | hy
    · obtain ⟨i, j', h1, h2⟩ := h.mem y hy; exact ⟨i, j', by omega, h2⟩
    · rw [List.mem_singleton.1 hy]; exact ⟨k, j, by omega, hj, rfl⟩
structure Cls (b : Barn) (cl : List Int) : Prop where
  len : cl.length = b.bins.length
  at_ : ∀ k x, b.bins[k]? = some x → x.lo ≤ na cl k ∧ na cl k ≤ x.hi
theorem Cls.rise {b : Barn} (hok : b.ok) {cl : List Int} (h : Cls b cl) : ∀ k < b.bins.length, na b.rise (na cl k).toNat ≤ b.worst (b.bins.getD k hb0) := fun k hk => by
  obtain ⟨x, hx⟩ : ∃ x, b.bins[k]? = some x := ⟨_, List.getElem?_eq_getElem hk⟩
  rw [bin_getD hx]
  have h1 := h.at_ k x hx
  have h2 := hok.bins x (List.mem_of_getElem? hx)
  exact srt_le hok.srt (by omega) (by rw [hok.len]; omega)
end Go.Proofs.Ytelegnmfhjfbaaa
namespace Go.Proofs.Ytelegnmfhjfbaaa
set_option linter.unusedSimpArgs false
set_option linter.unusedVariables false
open Go
theorem cal44 : cal Try.prog 44 = true := by kernel_rfl
theorem cal45 : cal Try.prog 45 = true := by kernel_rfl
end Go.Proofs.Ytelegnmfhjfbaaa
namespace Go.Proofs.Ytelegnmfhjfbaaa
set_option linter.unusedSimpArgs false
set_option linter.unusedVariables false
open Go
theorem c_LongestX (b : Barn) (ab : Option Addr) (cb : Nat) (hl : b.bins.length ≤ 9223372036854775807) (hr : b.rise.length = 6) (hck : b.check = 0) (H : Heap) (R : Facts) [hB : MemRows ab 4 (brows b.bins) R] : Fn Try.prog 35 [b.v (b.sl ab cb)] H R (fun v H' R' => (∃ m, Kpt b.dsk b.state m ∧ v = .tuple #[.int .i64 m, .int .i64 0]) ∧ H' = H ∧ R' = R) := fun w hw => by
  refine CallsIn.mono (c_Longest b ab cb hl hr H R w hw) ?_
  rintro e' w' ⟨u, H', R', ⟨h1, h2, h3⟩, he, hs'⟩
  refine ⟨u, H', R', ⟨?_, h2, h3⟩, he, hs'⟩
  rcases h1 with ⟨h, _⟩ | ⟨_, m, hm, rfl⟩
  · exact absurd hck h
  · exact ⟨m, hm, rfl⟩
end Go.Proofs.Ytelegnmfhjfbaaa
namespace Go.Proofs.Ytelegnmfhjfbaaa
set_option linter.unusedSimpArgs false
set_option linter.unusedVariables false
open Go
structure NoW (b b' : Barn) : Prop where
  ok : b'.ok
  check : b'.check = 0
  les : Les b.dsk b'.dsk
  st : ∀ k < b.dsk.n, na b.state k ≤ na b'.state k
theorem NoW.kpt {b b' : Barn} (h : NoW b b') (hok : b.ok) {v v' : Int} (hv : Kpt b.dsk b.state v) (hv' : Kpt b'.dsk b'.state v') : v ≤ v' :=
  (h.les.kpt (b.dsk_ok hok) (b'.dsk_ok h.ok) (b.state_inS hok) (b'.state_inS h.ok) h.st hv hv').1
theorem spl_app {l junk vs : List Value} {i : Nat} (h : i + vs.length ≤ l.length) : spl (l ++ junk) i vs = spl l i vs ++ junk := by
  unfold spl
  rw [List.take_append_of_le_length (by omega), List.drop_append_of_le_length h]
  simp only [List.append_assoc]
end Go.Proofs.Ytelegnmfhjfbaaa
namespace Go.Proofs.Ytelegnmfhjfbaaa
set_option linter.unusedSimpArgs false
set_option linter.unusedVariables false
open Go
structure Prm (d d' : Dsk) (f g : Nat → Nat) : Prop where
  n : d.n = d'.n
  gg : d.gangs = d'.gangs
  st : ∀ i < d.n, f i < d.n ∧ g (f i) = i
  ts : ∀ i < d.n, g i < d.n ∧ f (g i) = i
  lasts : ∀ i < d.n, na d'.lasts (f i) = na d.lasts i
theorem Prm.symm {d d' : Dsk} {f g : Nat → Nat} (h : Prm d d' f g) : Prm d' d g f where
  n := h.n.symm
  gg := h.gg.symm
  st i hi := by have hn := h.n; have := h.ts i (by omega); exact ⟨by omega, this.2⟩
  ts i hi := by have hn := h.n; have := h.st i (by omega); exact ⟨by omega, this.2⟩
  lasts i hi := by
    have hn := h.n
    obtain ⟨h1, h2⟩ := h.ts i (by omega)
    have := h.lasts (g i) h1
    rw [h2] at this
    exact this.symm
def Prs (n : Nat) (f : Nat → Nat) (s s' : HSt) : Prop := ∀ i < n, na s' (f i) = na s i
def prl (n : Nat) (f : Nat → Nat) (l : List Nat) : List Nat := bitl n (setN (l.map f))
theorem Prm.mem {d d' : Dsk} {f g : Nat → Nat} (h : Prm d d' f g) {l : List Nat} (hl : ∀ k ∈ l, k < d.n) {i : Nat} (hi : i < d.n) : f i ∈ prl d.n f l ↔ i ∈ l := by
  unfold prl
  rw [mem_bitl, setN_mem, decide_eq_true_eq, List.mem_map]
  constructor
  · rintro ⟨_, j, hj, e⟩
    have h1 := (h.st j (hl j hj)).2
    have h2 := (h.st i hi).2
    rw [e, h2] at h1
    rw [h1]; exact hj
  · intro hm; exact ⟨(h.st i hi).1, i, hm, rfl⟩
theorem bitl_nodup (n u : Nat) : (bitl n u).Nodup := by unfold bitl; exact List.nodup_range.filter _
theorem Prm.len {d d' : Dsk} {f g : Nat → Nat} (h : Prm d d' f g) {l : List Nat} (hl : ∀ k ∈ l, k < d.n) (hn : l.Nodup) : (prl d.n f l).length = l.length := by
  have h1 : (prl d.n f l).length ≤ (l.map f).length := nodup_len (bitl_nodup _ _) fun x hx => by
    unfold prl at hx
    rw [mem_bitl, setN_mem, decide_eq_true_eq] at hx
    exact hx.2
  have h2 : (l.map f).length ≤ (prl d.n f l).length := nodup_len (nodup_map (fun x hx y hy e => by
    have e1 := (h.st x (hl x hx)).2
    have e2 := (h.st y (hl y hy)).2
    rw [e, e2] at e1; exact e1.symm) hn) fun x hx => by
      obtain ⟨j, hj, rfl⟩ := List.mem_map.1 hx
      exact (h.mem hl (hl j hj)).2 hj
  rw [List.length_map] at h1 h2
  omega
theorem Prm.trs {d d' : Dsk} {f g : Nat → Nat} (h : Prm d d' f g) {l : List Nat} (hl : l ∈ d.trs false) : prl d.n f l ∈ d'.trs false ∧ (prl d.n f l).length = l.length := by
  have hlt := d.trs_lt hl
  obtain ⟨u, hu, rfl, h1, _⟩ := d.mem_trs.1 hl
  have e := h.len hlt (bitl_nodup _ _)
  have hn := h.n; have hg := h.gg
  refine ⟨d'.mem_trs.2 ⟨setN ((bitl d.n u).map f), ?_, by rw [← hn]; rfl, ?_, fun h => by cases h⟩, e⟩
  · rw [← hn]
    exact setN_lt fun k hk => by
      obtain ⟨j, hj, rfl⟩ := List.mem_map.1 hk
      exact (h.st j (hlt j hj)).1
  · rw [e]
    unfold Dsk.g at h1 ⊢
    omega
theorem Prm.mid {d d' : Dsk} {f g : Nat → Nat} (h : Prm d d' f g) {s s' : HSt} (hs : Prs d.n f s s') {l : List Nat} (hl : ∀ k ∈ l, k < d.n) {i : Nat} (hi : i < d.n) : d'.mid s' (prl d.n f l) (f i) = d.mid s l i := by
  unfold Dsk.mid
  rw [hs i hi, h.lasts i hi]
  by_cases hm : i ∈ l
  · rw [if_pos hm, if_pos ((h.mem hl hi).2 hm)]
  · rw [if_neg hm, if_neg (fun h2 => hm ((h.mem hl hi).1 h2))]
theorem Prm.next {d d' : Dsk} {f g : Nat → Nat} (h : Prm d d' f g) (hd : d.ok) {s s' t : HSt} (hsl : s.length = 4) (hsl' : s'.length = 4) (hs : Prs d.n f s s') {l : List Nat} (hl : ∀ k ∈ l, k < d.n) (e : d.next s l = some t) :
    ∃ t', d'.next s' (prl d.n f l) = some t' ∧ Prs d.n f t t' ∧ t.length = 4 ∧ t'.length = 4 := by
  have hn := h.n; have hn4 := hd.n
  obtain ⟨h1, h2⟩ := d.next_at hd.n.2 hsl hl e
  have hl' : ∀ k ∈ prl d.n f l, k < d'.n := fun k hk => by rw [← hn]; exact bitl_lt hk
  obtain ⟨t', ht'⟩ := d'.next_some (by omega) hsl' hl' (fun k hk => by
    have hk0 : k < d.n := by omega
    obtain ⟨g1, g2⟩ := h.ts k hk0
    have := h.mid hs hl g1
    rw [g2] at this
    rw [this]
    exact (h2 (g k)).1 g1)
  obtain ⟨h3, h4⟩ := d'.next_at (by omega) hsl' hl' ht'
  refine ⟨t', ht', fun i hi => ?_, h1, h3⟩
  obtain ⟨f1, _⟩ := h.st i hi
  rw [(h4 (f i)).2, (h2 i).2, h.mid hs hl hi]
  by_cases hc : d.mid s l i ≠ 1000000
  · rw [if_pos ⟨by omega, hc⟩, if_pos ⟨hi, hc⟩]
  · rw [if_neg (fun h => hc h.2), if_neg (fun h => hc h.2)]
theorem Prm.pth {d d' : Dsk} {f g : Nat → Nat} (h : Prm d d' f g) (hd : d.ok) {s s' : HSt} (hsl : s.length = 4) (hsl' : s'.length = 4) (hs : Prs d.n f s s') : ∀ {m : Nat} {t : HSt} {c : Nat}, d.pth m s t c → ∃ t', d'.pth m s' t' c ∧ Prs d.n f t t' ∧ t.length = 4 ∧ t'.length = 4
  | 0, t, c, hp => by obtain ⟨rfl, rfl⟩ := hp; exact ⟨s', ⟨rfl, rfl⟩, hs, hsl, hsl'⟩
  | m + 1, t, c, hp => by
    obtain ⟨u, a, l, h1, h2, h3, rfl⟩ := hp
    obtain ⟨u', i1, i2, i3, i4⟩ := Prm.pth h hd hsl hsl' hs h1
    obtain ⟨t', j1, j2, j3, j4⟩ := h.next hd i3 i4 i2 (d.trs_lt h2) h3
    obtain ⟨k1, k2⟩ := h.trs h2
    exact ⟨t', ⟨u', a, _, i1, k1, j1, by rw [k2]⟩, j2, j3, j4⟩
theorem Prs.symm {d d' : Dsk} {f g : Nat → Nat} (h : Prm d d' f g) {s s' : HSt} (hs : Prs d.n f s s') : Prs d'.n g s' s := fun i hi => by
  have hn := h.n
  obtain ⟨h1, h2⟩ := h.ts i (by omega)
  have := hs (g i) h1
  rw [h2] at this
  exact this.symm
theorem Prm.kpt {d d' : Dsk} {f g : Nat → Nat} (h : Prm d d' f g) (hd : d.ok) (hd' : d'.ok) {s s' : HSt} (hs : d.inS s) (hs' : d'.inS s') (hp : Prs d.n f s s') {v v' : Int} (hv : Kpt d s v) (hv' : Kpt d' s' v') : v = v' := by
  have a := (kpt_le hd hd' hs hs' (fun n ⟨t, c, q⟩ => by obtain ⟨t', i, _⟩ := h.pth hd hs.len hs'.len hp q; exact ⟨t', c, i⟩) hv hv').1
  have b := (kpt_le hd' hd hs' hs (fun n ⟨t, c, q⟩ => by obtain ⟨t', i, _⟩ := h.symm.pth hd' hs'.len hs.len (hp.symm h) q; exact ⟨t', c, i⟩) hv' hv).1
  omega
theorem Prm.few {d d' : Dsk} {f g : Nat → Nat} (h : Prm d d' f g) (hd : d.ok) (hd' : d'.ok) {s s' : HSt} (hsl : s.length = 4) (hsl' : s'.length = 4) (hp : Prs d.n f s s') (n : Nat) :
    ((∃ t c, d.pth n s t c) ↔ ∃ t c, d'.pth n s' t c) ∧ ∀ c c', FewC d s n c → FewC d' s' n c' → c = c' := by
  refine ⟨⟨fun ⟨t, c, q⟩ => ?_, fun ⟨t, c, q⟩ => ?_⟩, fun c c' h1 h2 => ?_⟩
  · obtain ⟨t', i, _⟩ := h.pth hd hsl hsl' hp q; exact ⟨t', c, i⟩
  · obtain ⟨t', i, _⟩ := h.symm.pth hd' hsl' hsl (hp.symm h) q; exact ⟨t', c, i⟩
  · obtain ⟨t, ht⟩ := h1.is
    obtain ⟨t', i, _⟩ := h.pth hd hsl hsl' hp ht
    have := h2.le _ _ i
    obtain ⟨u, hu⟩ := h2.is
    obtain ⟨u', j, _⟩ := h.symm.pth hd' hsl' hsl (hp.symm h) hu
    have := h1.le _ _ j
    omega
noncomputable def invP (p : List Nat) (i : Nat) : Nat := Classical.epsilon (fun j : Nat => p[j]? = some i)
theorem Ord.get {p : List Nat} {n i : Nat} (h : Ord p n) (hi : i < n) : ∃ j, p[i]? = some j ∧ j < n := by
  have hl := h.len
  refine ⟨_, List.getElem?_eq_getElem (by omega), h.lt _ (List.getElem_mem (by omega))⟩
theorem Ord.onto {p : List Nat} {n i : Nat} (h : Ord p n) (hi : i < n) : ∃ j : Nat, p[j]? = some i := by
  apply Classical.byContradiction
  intro hno
  have hm : i ∉ p := fun hm => hno (List.getElem?_of_mem hm)
  have h1 := nodup_len (l := i :: p) (m := List.range n) (List.nodup_cons.2 ⟨hm, h.nd⟩) (fun x hx => by
    rcases List.mem_cons.1 hx with rfl | hx
    · exact List.mem_range.2 hi
    · exact List.mem_range.2 (h.lt x hx))
  have hl := h.len
  rw [List.length_cons, List.length_range] at h1
  omega
theorem Ord.inv {p : List Nat} {n i : Nat} (h : Ord p n) (hi : i < n) : p[invP p i]? = some i := Classical.epsilon_spec (h.onto hi)
theorem getD_at {α : Type} {l : List α} {i : Nat} {x z : α} (h : l[i]? = some x) : l.getD i z = x := by rw [List.getD_eq_getElem?_getD, h]; rfl
structure Put (b : Barn) (p : List Nat) (L : List HBin) : Prop where
  ord : Ord p b.bins.length
  len : L.length = b.bins.length
  at_ : ∀ (j q : Nat), p[j]? = some q → L[q]? = b.bins[j]?
theorem Put.ok {b : Barn} {p : List Nat} {L : List HBin} (h : Put b p L) (hb : b.ok) : (b.withB L).ok := by
  have key : ∀ x ∈ L, x ∈ b.bins := fun x hx => by
    obtain ⟨q, hq⟩ := List.getElem?_of_mem hx
    have hql := (List.getElem?_eq_some_iff.1 hq).1
    have hl := h.len
    obtain ⟨j, hj⟩ := h.ord.onto (i := q) (by omega)
    rw [h.at_ j q hj] at hq
    exact List.mem_of_getElem? hq
  exact ⟨hb.len, by show 1 ≤ L.length ∧ L.length ≤ 4; rw [h.len]; exact hb.many, hb.cool, hb.gangs, hb.rise, fun x hx => hb.bins x (key x hx), hb.srt, fun x hx => hb.ord x (key x hx)⟩
theorem Put.prm {b : Barn} {p : List Nat} {L : List HBin} (h : Put b p L) (hb : b.ok) : Prm b.dsk (b.withB L).dsk (fun i => p.getD i 0) (invP p) ∧ Prs b.dsk.n (fun i => p.getD i 0) b.state (b.withB L).state := by
  have hb' := h.ok hb
  have hn : b.dsk.n = b.bins.length := rfl
  have hat : ∀ i, i < b.bins.length → p.getD i 0 < b.bins.length ∧ L.getD (p.getD i 0) hb0 = b.bins.getD i hb0 := fun i hi => by
    obtain ⟨q, h1, h2⟩ := h.ord.get hi
    rw [getD_at h1, List.getD_eq_getElem?_getD, List.getD_eq_getElem?_getD, h.at_ i q h1]
    exact ⟨h2, rfl⟩
  refine ⟨⟨h.len.symm, rfl, fun i hi => ?_, fun i hi => ?_, fun i hi => ?_⟩, fun i hi => ?_⟩
  · obtain ⟨q, h1, h2⟩ := h.ord.get (hn ▸ hi)
    rw [getD_at h1]
    refine ⟨h2, ?_⟩
    have h3 := h.ord.inv h2
    have hl := h.ord.len
    have h4 := (List.getElem?_eq_some_iff.1 h3).1
    exact (List.getElem?_inj h4 h.ord.nd).1 (h3.trans h1.symm)
  · have h3 := h.ord.inv (hn ▸ hi)
    have h4 := (List.getElem?_eq_some_iff.1 h3).1
    have hl := h.ord.len
    exact ⟨by omega, getD_at h3⟩
  · obtain ⟨h1, h2⟩ := hat i (hn ▸ hi)
    have a1 := Barn.lasts_at hb (k := i) (hn ▸ hi)
    have a2 := Barn.lasts_at hb' (k := p.getD i 0) (by show _ < L.length; rw [h.len]; exact h1)
    show na (b.withB L).lasts (p.getD i 0) = na b.lasts i
    rw [a1, a2, show (b.withB L).bins.getD (p.getD i 0) hb0 = b.bins.getD i hb0 from h2]; rfl
  · obtain ⟨h1, h2⟩ := hat i (hn ▸ hi)
    have a1 := Barn.state_at hb (k := i) (hn ▸ hi)
    have a2 := Barn.state_at hb' (k := p.getD i 0) (by show _ < L.length; rw [h.len]; exact h1)
    show na (b.withB L).state (p.getD i 0) = na b.state i
    rw [a1, a2, show (b.withB L).bins.getD (p.getD i 0) hb0 = b.bins.getD i hb0 from h2]; rfl
theorem Prm.kptT {d d' : Dsk} {f g : Nat → Nat} (h : Prm d d' f g) (hd : d.ok) (hd' : d'.ok) {s s' : HSt} (hs : d.inS s) (hs' : d'.inS s') (hp : Prs d.n f s s') (v : Int) : Kpt d s v ↔ Kpt d' s' v := by
  have key : ∀ n, s ∈ d.alive n ↔ s' ∈ d'.alive n := fun n => by rw [d.alive_iff hd hs, d'.alive_iff hd' hs']; exact (h.few hd hd' hs.len hs'.len hp n).1
  unfold Kpt
  simp only [key]
structure SamB (b b' : Barn) : Prop where
  ok : b'.ok
  check : b'.check = 0
  n : b'.bins.length = b.bins.length
  kpt : ∀ v, Kpt b.dsk b.state v ↔ Kpt b'.dsk b'.state v
  kptG : ∀ g : Nat, g ≤ 4 → ∀ v, Kpt (b.withG g).dsk b.state v ↔ Kpt (b'.withG g).dsk b'.state v
  few : ∀ n : Nat, n ≤ 20 → planE b' n = planE b n ∧ turnsV b' n = turnsV b n
theorem Put.sam {b : Barn} {p : List Nat} {L : List HBin} (h : Put b p L) (hb : b.ok) (hck : b.check = 0) : SamB b (b.withB L) := by
  have hb' := h.ok hb
  have hck' : (b.withB L).check = 0 := check_of hb' (show b.gangs ≤ 3 from check_gangs hck)
  obtain ⟨p1, p2⟩ := h.prm hb
  refine ⟨hb', hck', h.len, p1.kptT (b.dsk_ok hb) ((b.withB L).dsk_ok hb') (b.state_inS hb) ((b.withB L).state_inS hb') p2, fun g hg v => ?_, fun n hn => ?_⟩
  · have hbg := b.withG_ok hb (g := (g : Int)) (by omega)
    have hg' : Put (b.withG g) p L := ⟨h.ord, h.len, h.at_⟩
    have hbg' := hg'.ok hbg
    obtain ⟨q1, q2⟩ := hg'.prm hbg
    exact q1.kptT ((b.withG g).dsk_ok hbg) (((b.withG g).withB L).dsk_ok hbg') ((b.withG g).state_inS hbg) (((b.withG g).withB L).state_inS hbg') q2 v
  · obtain ⟨f1, f2⟩ := p1.few (b.dsk_ok hb) ((b.withB L).dsk_ok hb') (b.state_inS hb).len ((b.withB L).state_inS hb').len p2 n
    rcases plan_facts hb hck hn with ⟨h1, h2, h3⟩ | ⟨c, q, h1, h2, _, h3⟩ <;> rcases plan_facts hb' hck' hn with ⟨k1, k2, k3⟩ | ⟨c', q', k1, k2, _, k3⟩
    · exact ⟨by rw [h1, k1], by rw [h2, k2]⟩
    · obtain ⟨t, ht⟩ := k3.few.is
      exact absurd (f1.2 ⟨t, _, ht⟩) h3
    · obtain ⟨t, ht⟩ := h3.few.is
      exact absurd (f1.1 ⟨t, _, ht⟩) k3
    · exact ⟨by rw [h1, k1], by rw [h2, k2, f2 _ _ h3.few k3.few]⟩
theorem SamB.spare {b b' : Barn} (h : SamB b b') (hb : b.ok) (hck : b.check = 0) {v v' : Value} (hv : SpareQ b v) (hv' : SpareQ b' v') : v' = v := by
  have hmn := hb.many
  have hn := h.n
  have he : ∀ g : Nat, g ≤ 4 → (b.ends g ↔ b'.ends g) := fun g hg => exists_congr fun w => and_congr_right fun _ => h.kptG g hg w
  have no : ∀ g : Nat, b.ends g → Kpt (b.withG g).dsk b.state 1000000 → False := fun g ⟨w, h1, h2⟩ h3 => h1 (kpt_unique h2 h3)
  rcases hv with ⟨h0, _⟩ | ⟨_, ⟨g, g1, g2, g3, rfl⟩ | ⟨g1, rfl⟩⟩
  · exact absurd hck h0
  · rcases hv' with ⟨h0, _⟩ | ⟨_, ⟨k, k1, k2, k3, rfl⟩ | ⟨k1, rfl⟩⟩
    · exact absurd h.check h0
    · rw [← h.kptG k (by omega)] at k3
      rcases Nat.lt_trichotomy g k with e | rfl | e
      · exact (no g ((he g (by omega)).2 (k2 g e)) g3).elim
      · rfl
      · exact (no k (g2 k e) k3).elim
    · exact (no g ((he g (by omega)).2 (k1 g (by omega))) g3).elim
  · rcases hv' with ⟨h0, _⟩ | ⟨_, ⟨k, k1, k2, k3, rfl⟩ | ⟨k1, rfl⟩⟩
    · exact absurd h.check h0
    · rw [← h.kptG k (by omega)] at k3
      exact (no k (g1 k (by omega)) k3).elim
    · rfl
structure PutI (b : Barn) (p : List Nat) (i : Nat) (L : List HBin) : Prop where
  ord : Ord p b.bins.length
  len : L.length = b.bins.length
  at_ : ∀ j, j < i → ∀ q, p[j]? = some q → L[q]? = b.bins[j]?
theorem PutI.more {b : Barn} {p : List Nat} {i q : Nat} {L : List HBin} {x : HBin} (h : PutI b p i L) (hq : p[i]? = some q) (hx : b.bins[i]? = some x) : PutI b p (i + 1) (L.set q x) := by
  have hql := h.ord.lt q (List.mem_of_getElem? hq)
  have hl := h.len
  refine ⟨h.ord, by rw [List.length_set]; exact h.len, fun j hj r hr => ?_⟩
  rw [List.getElem?_set]
  by_cases e : q = r
  · subst e
    have h1 := (List.getElem?_eq_some_iff.1 hr).1
    obtain rfl := (List.getElem?_inj h1 h.ord.nd).1 (hr.trans hq.symm)
    rw [if_pos rfl, if_pos (by omega), hx]
  · rw [if_neg e]
    refine h.at_ j ?_ r hr
    rcases Nat.lt_or_ge j i with h1 | h1
    · exact h1
    · obtain rfl : j = i := by omega
      rw [hq] at hr; cases hr
      exact absurd rfl e
theorem PutI.done {b : Barn} {p : List Nat} {L : List HBin} (h : PutI b p b.bins.length L) : Put b p L := ⟨h.ord, h.len, fun j q hq => h.at_ j (by have := (List.getElem?_eq_some_iff.1 hq).1; have := h.ord.len; omega) q hq⟩
theorem br_setJ {l : List HBin} {junk : List Value} {k i : Nat} (x : HBin) (hk : k < l.length) (e : i = k * 4) : spl ((brows l).flatten ++ junk) i (brow x) = (brows (l.set k x)).flatten ++ junk := by
  subst e
  rw [spl_app (by rw [br_flat]; show k * 4 + 4 ≤ _; omega)]
  congr 1
  obtain ⟨A, y, B, rfl, rfl⟩ := cut_at hk
  rw [List.set_append_right _ _ (Nat.le_refl _), Nat.sub_self, List.set_cons_zero]
  rw [brows_app, brows_app, List.flatten_append, List.flatten_append, ← br_flat A]
  exact spl_at (p := (brows A).flatten) (q := brow y) (s := (brows B).flatten) (vs := brow x) rfl
theorem c_TurnE (b : Barn) (ab : Option Addr) (cb : Nat) (hl : b.bins.length ≤ 9223372036854775807) (hr : b.rise.length = 6) {days t e : Int} (h1 : planE b days = e) (h2 : turnsV b days = t) (H : Heap) (R : Facts) [hB : MemRows ab 4 (brows b.bins) R] : FnV Try.prog 40 [b.v (b.sl ab cb), .int .i64 days] H R (.tuple #[.int .i64 t, .int .i64 e]) := by
  rw [← h1, ← h2]; exact c_Turnings b ab cb hl hr days H R
theorem c_SpareX (b : Barn) (ab : Option Addr) (cb : Nat) (hl : b.bins.length ≤ 9223372036854775807) (hr : b.rise.length = 6) (hck : b.check = 0) (H : Heap) (R : Facts) [hB : MemRows ab 4 (brows b.bins) R] : Fn Try.prog 37 [b.v (b.sl ab cb)] H R (fun v H' R' => (∃ s e : Int, SpareQ b (.tuple #[.int .i64 s, .int .i64 e]) ∧ v = .tuple #[.int .i64 s, .int .i64 e]) ∧ H' = H ∧ R' = R) := fun w hw => by
  refine CallsIn.mono (c_Spare b ab cb hl hr H R w hw) ?_
  rintro e' w' ⟨u, H', R', ⟨h1, h2, h3⟩, he, hs'⟩
  refine ⟨u, H', R', ⟨?_, h2, h3⟩, he, hs'⟩
  have h0 := h1
  rcases h1 with ⟨h, _⟩ | ⟨_, ⟨g, _, _, _, rfl⟩ | ⟨_, rfl⟩⟩
  · exact absurd hck h
  · exact ⟨_, _, h0, rfl⟩
  · exact ⟨_, _, h0, rfl⟩
theorem c_HeatNamed (l1 : List Int) (a1 : Option Addr) (c1 : Nat) (hl1 : l1.length ≤ 9223372036854775807) (l2 : List Int) (a2 : Option Addr) (c2 : Nat) (hl2 : l2.length ≤ 9223372036854775807) (n3 : Int) (hn3 : 0 ≤ n3 ∧ n3 ≤ 255) (H : Heap) (R : Facts) [hG1 : MemRows a1 1 (urows l1) R] [hG2 : MemRows a2 1 (urows l2) R] :
    Fn Try.prog 10 [.slice a1 l1.length c1, .slice a2 l2.length c2, .int .u8 n3] H R (fun v H' R' => v = .bool true ∧ H' = H ∧ R' = R) := by
 refine fn_of Try.func10 rfl Try.ntmps10 rfl ?_
 refine sy_seq ?_
 refine sy_tx' [0] rfl ?_
 refine sp rfl (PE.assign rfl) rfl ?_
 refine sy_seq ?_
 refine sy_tx' [0, 1, 2, 3, 4] rfl ?_
 refine sp rfl (PE.move rfl) rfl ?_
 refine cl rfl cal45 rfl rfl (c_Fill l1 a1 c1 hl1 _ _) ?_
 rintro _ _ R1 ⟨bs, ms, hms, rfl, rfl, hR1⟩
 obtain rfl := hR1.symm
 clear hR1
 refine cl rfl cal44 rfl rfl (c_Made l1 a1 c1 bs hl1 0 ms (by omega) hms 4 2 (by omega) (by omega) _ _) ?_
 rintro _ _ R1 ⟨b, ab, cb, tqb, mxb, hmd, rfl, htqb, hmxb, rfl, hR1⟩
 obtain rfl := hR1.symm
 clear hR1
 have hok := hmd.ok
 have hck := hmd.check
 have hr := hok.len
 have hmn := hok.many
 have hnb := hmd.nb
 have hgn := hok.gangs
 have hng := hmd.ng
 have hl : b.bins.length ≤ 9223372036854775807 := by omega
 refine alc rfl zl25 rfl (fun b7 => ?_)
 refine stoE (l' := btl b (b.sl ab cb)) rfl rfl rfl cn25 rfl rfl rfl rfl (Nat.le_of_ble_eq_true rfl) ?_
 refine sy_seq ?_
 refine sy_tx' [0, 1, 2, 3] rfl ?_
 obtain ⟨x0, hx⟩ : ∃ x, b.bins[0]? = some x := ⟨_, List.getElem?_eq_getElem (by omega)⟩
 refine sy_addr (a := ab) (sz := 4) (rows := brows b.bins) (by intro h0; simp [brows] at h0; simp [h0] at hx) (fun ba oa he => ?_)
 subst he
 clear hx
 refine spL rfl rfl (lhA (btl b (b.sl (some ⟨ba, oa, none⟩) cb)) ag25 rfl rfl rfl) rfl ?_
 refine cl rfl cal19 rfl rfl (c_Own b (some ⟨ba, oa, none⟩) cb (by omega) _ _) ?_
 rintro _ _ R1 ⟨bo, cap, junk, rfl, rfl, hR1⟩
 obtain rfl := hR1.symm
 clear hR1
 refine alc rfl zl25 rfl (fun b8 => ?_)
 refine stoE (l' := btl b (b.sl (some ⟨bo, 0, none⟩) cap)) rfl rfl rfl cn25 rfl rfl rfl rfl (Nat.le_of_ble_eq_true rfl) ?_
 refine sy_seq ?_
 refine sy_seq ?_
 refine sy_draw [0, 1, 0, 4, 12, 31, 63, 0] (.tk 0 (.tk 2 (.ld 3 (.tk 4 (.tk 7 (.big 1 (.big 5 (.tk 6 .done)))))))) mixed (by kernel_rfl) ?_
 refine tk rfl (PE.move rfl) rfl ?_
 refine tk rfl (PE.fieldAddr fo25_3 rfl) rfl ?_
 refine ld rfl rfl (lh sc23 rfl rfl) rfl ?_
 refine tk rfl (PE.lenSl isl23 rfl) rfl ?_
 refine tk rfl (PE.move rfl) rfl ?_
 refine cl rfl cal45 rfl rfl (c_Fill l2 a2 c2 hl2 _ _) ?_
 rintro _ _ R1 ⟨bt, mt, hmt, rfl, rfl, hR1⟩
 obtain rfl := hR1.symm
 clear hR1
 refine bg (fun w hs => ⟨(lh sc23 rfl rfl) w hs, trivial⟩) ?_
 refine cl rfl cal56 rfl rfl (c_Shuffle l2 a2 c2 bt hl2 _ _ (by omega) (by assumption) b.bins.length (by omega) _ _) ?_
 rintro _ _ R1 ⟨sho, so, tq3, mx3, hsp, rfl, htq3, hmx3, rfl, hR1⟩
 obtain rfl := hR1.symm
 clear hR1
 obtain ⟨as', cs, he, hf⟩ := so.freeze
 rw [he, show (irows (sho.map fun (j : Nat) => (j : Int))).length = b.bins.length by rw [irows_len, List.length_map, hsp.len]]
 refine Sy.heap (H' := _) (fun w h => hf (h.perm (List.perm_middle (l₁ := so.G) (a := _)).symm)) ?_
 clear he hf
 have hspl := hsp.len
 refine bg (fun w hs => ⟨trivial, trivial⟩) ?_
 refine tk rfl (PE.lenSl isl40 rfl) rfl ?_
 refine sy_block ?_
 refine sy_loop (ι := {x : Nat × List HBin // x.1 ≤ b.bins.length ∧ PutI b sho x.1 x.2}) (fun x => ⟨[(2, .int .u8 n3), (7, .pointer (some ⟨b7, 0, none⟩)), (8, .pointer (some ⟨b8, 0, none⟩)), (33, .slice as' b.bins.length cs), (34, .int .i64 b.bins.length), (35, .int .i64 x.1.1)], (bt, cel 144 [.slice a2 l2.length c2, .int .i64 (tq3), .int .u32 (mx3)]) :: (b8, cel 25 (btl b (b.sl (some ⟨bo, 0, none⟩) cap))) :: (bo, cel 45 ((brows x.1.2).flatten ++ junk)) :: (b7, cel 25 (btl b (b.sl (some ⟨ba, oa, none⟩) cb))) :: (bs, cel 144 [.slice a1 l1.length c1, .int .i64 (tqb), .int .u32 (mxb)]) :: H, RowsA as' 1 (irows (sho.map fun (j : Nat) => (j : Int))) :: RowsA (some ⟨ba, oa, none⟩) 4 (brows b.bins) :: R⟩) (fun x => b.bins.length - x.1.1) ⟨(0, b.bins), Nat.zero_le _, ⟨hsp, rfl, fun j hj => absurd hj (Nat.not_lt_zero _)⟩⟩ ?_ (fun x => ?_)
 exact sy_at (by repeat' first | exact Sub.nil | apply Sub.cons | rfl | (simp [lk]; omega)) (fun _ h => h)
 obtain ⟨⟨i, L⟩, hi, hpu⟩ := x
 dsimp only at hi hpu ⊢
 have hLl := hpu.len
 refine sy_seq ?_
 refine sy_tx' [0] rfl ?_
 refine sp rfl (PE.lss rfl rfl) rfl ?_
 refine sy_seq ?_
 refine sy_cond rfl (fun hc0 => ?_) (fun hc0 => ?_)
 try simp only [decide_eq_true_eq, decide_eq_false_iff_not, Bool.and_eq_true, Bool.or_eq_true, Bool.not_eq_true', Int.not_le, Int.not_lt] at hc0
 obtain ⟨q, hq, hqn⟩ := hsp.get (i := i) (by omega)
 obtain ⟨x, hx⟩ : ∃ x, b.bins[i]? = some x := ⟨_, List.getElem?_eq_getElem (by omega)⟩
 have hjr : (sho.map fun (j : Nat) => (j : Int))[i]? = some (q : Int) := by rw [List.getElem?_map, hq]; rfl
 refine sy_addr (a := as') (sz := 1) (rows := irows (sho.map fun (j : Nat) => (j : Int))) (by intro h0; have := congrArg List.length h0; rw [irows_len, List.length_map] at this; simp only [List.length_nil] at this; omega) (fun bz oz he => ?_)
 subst he
 refine sy_skip ?_
 refine sy_seq ?_
 refine sy_block ?_
 refine sy_seq ?_
 refine sy_tx' [0, 1, 2, 3, 4] rfl ?_
 refine sp rfl (PE.move rfl) rfl ?_
 refine sp rfl (PE.indexAddr el40 rfl rfl (by omega) (by omega)) rfl ?_
 refine spL rfl rfl (lf0 sc3 (ir_get hjr) rfl) rfl ?_
 refine sp rfl (PE.assign rfl) rfl ?_
 refine sp rfl (PE.assign rfl) rfl ?_
 refine sy_draw [0, 1, 0, 0, 8, 0, 56, 120, 255, 511] (.tk 0 (.ld 1 (.tk 2 (.tk 3 (.ld 4 (.tk 5 (.tk 6 (.ld 7 (.tk 8 (.big 9 .done)))))))))) mixed (by kernel_rfl) ?_
 refine tk rfl (PE.fieldAddr fo25_3 rfl) rfl ?_
 refine ld rfl rfl (lh sc23 rfl rfl) rfl ?_
 refine tk rfl (PE.move rfl) rfl ?_
 refine tk rfl (PE.fieldAddr fo25_3 rfl) rfl ?_
 refine ld rfl rfl (lh sc23 rfl rfl) rfl ?_
 refine tk rfl (PE.move rfl) rfl ?_
 refine tk rfl (PE.indexAddr el23 rfl rfl (by omega) (by omega)) rfl ?_
 refine ld rfl rfl (lfA ag45 (row := brow x) (br_get hx) rfl) rfl ?_
 refine tk rfl (PE.indexAddr el23 rfl rfl (by omega) (by omega)) rfl ?_
 refine stoE (l' := (brows (L.set q x)).flatten ++ junk) rfl rfl rfl cn45 rfl rfl rfl (br_setJ x (by omega) (by show 0 + ((q : Nat) : Int).toNat * 4 = _; omega)) (by rw [List.length_append, br_flat]; show 0 + ((q : Nat) : Int).toNat * 4 + 4 ≤ _; omega) ?_
 refine bg (fun w hs => ⟨trivial, trivial, trivial, trivial⟩) ?_
 refine sy_tx' [0, 1] rfl ?_
 refine sp rfl (PE.add rfl rfl (by omega)) rfl ?_
 refine sp rfl (PE.move rfl) rfl ?_
 exact sy_next ⟨(i + 1, L.set q x), by dsimp only; omega, hpu.more hq hx⟩ (by dsimp only; omega) (by repeat' first | exact Sub.nil | apply Sub.cons | rfl | (simp [lk]; omega)) (fun _ h => h)
 try simp only [decide_eq_true_eq, decide_eq_false_iff_not, Bool.and_eq_true, Bool.or_eq_true, Bool.not_eq_true', Int.not_le, Int.not_lt] at hc0
 obtain rfl : i = b.bins.length := by omega
 have hsam := hpu.done.sam hok hck
 refine Sy.heap (fun w h => St.binRows (l := (b.withB L).bins) (h.pull bo)) ?_
 rw [show btl b (b.sl (some ⟨bo, 0, none⟩) cap) = btl (b.withB L) ((b.withB L).sl (some ⟨bo, 0, none⟩) cap) by show btl b (.slice _ _ _) = btl b (.slice _ L.length _); rw [hLl]]
 obtain ⟨B, hB⟩ : ∃ B, b.withB L = B := ⟨_, rfl⟩
 rw [hB] at hsam ⊢
 have hlB : B.bins.length ≤ 9223372036854775807 := by have := hsam.ok.many; omega
 have hrB := hsam.ok.len
 obtain ⟨days, hdy⟩ : ∃ d : Nat, n3 % 8 = d := ⟨(n3 % 8).toNat, by omega⟩
 obtain ⟨f1, f2⟩ := hsam.few days (by omega)
 refine sy_exit ?_
 repeat refine sy_tx ?_
 refine sy_bx ?_
 refine sy_seq ?_
 refine sy_tx' [0, 1, 2, 3, 4, 5, 6] rfl ?_
 refine spL rfl rfl (lhA (btl b (b.sl (some ⟨ba, oa, none⟩) cb)) ag25 rfl rfl rfl) rfl ?_
 refine cl rfl cal35 rfl rfl (c_LongestX b (some ⟨ba, oa, none⟩) cb hl hr hck _ _) ?_
 rintro _ _ _ ⟨⟨m, hm, rfl⟩, rfl, rfl⟩
 have hmB := (hsam.kpt m).1 hm
 refine sp rfl (PE.move rfl) rfl ?_
 refine sp rfl (PE.extract rfl rfl) rfl ?_
 refine sp rfl (PE.extract rfl rfl) rfl ?_
 refine sp rfl (PE.assign rfl) rfl ?_
 refine sp rfl (PE.assign rfl) rfl ?_
 refine sy_seq ?_
 refine sy_tx' [0, 1, 2, 3, 4, 5, 6] rfl ?_
 refine spL rfl rfl (lhA (btl B (B.sl (some ⟨bo, 0, none⟩) cap)) ag25 rfl rfl rfl) rfl ?_
 refine clV rfl cal35 rfl rfl (c_LongestK B (some ⟨bo, 0, none⟩) cap hlB hrB hsam.check hmB _ _) ?_
 refine sp rfl (PE.move rfl) rfl ?_
 refine sp rfl (PE.extract rfl rfl) rfl ?_
 refine sp rfl (PE.extract rfl rfl) rfl ?_
 refine sp rfl (PE.assign rfl) rfl ?_
 refine sp rfl (PE.assign rfl) rfl ?_
 refine sy_seq ?_
 refine sy_tx' [0, 1, 2, 3, 4, 5, 6, 7, 8, 9] rfl ?_
 refine spL rfl rfl (lhA (btl b (b.sl (some ⟨ba, oa, none⟩) cb)) ag25 rfl rfl rfl) rfl ?_
 refine sp rfl (PE.move rfl) rfl ?_
 refine sp rfl (PE.conv64 us5 ik3 rfl (by omega)) rfl ?_
 refine sp rfl (PE.rem rfl rfl (by omega)) rfl ?_
 rw [hdy]
 refine clV rfl cal40 rfl rfl (c_Turnings b (some ⟨ba, oa, none⟩) cb hl hr days _ _) ?_
 refine sp rfl (PE.move rfl) rfl ?_
 refine sp rfl (PE.extract rfl rfl) rfl ?_
 refine sp rfl (PE.extract rfl rfl) rfl ?_
 refine sp rfl (PE.assign rfl) rfl ?_
 refine sp rfl (PE.assign rfl) rfl ?_
 refine sy_seq ?_
 refine sy_tx' [0, 1, 2, 3, 4, 5, 6, 7, 8, 9] rfl ?_
 refine spL rfl rfl (lhA (btl B (B.sl (some ⟨bo, 0, none⟩) cap)) ag25 rfl rfl rfl) rfl ?_
 refine sp rfl (PE.move rfl) rfl ?_
 refine sp rfl (PE.conv64 us5 ik3 rfl (by omega)) rfl ?_
 refine sp rfl (PE.rem rfl rfl (by omega)) rfl ?_
 rw [hdy]
 refine clV rfl cal40 rfl rfl (c_TurnE B (some ⟨bo, 0, none⟩) cap hlB hrB f1 f2 _ _) ?_
 refine sp rfl (PE.move rfl) rfl ?_
 refine sp rfl (PE.extract rfl rfl) rfl ?_
 refine sp rfl (PE.extract rfl rfl) rfl ?_
 refine sp rfl (PE.assign rfl) rfl ?_
 refine sp rfl (PE.assign rfl) rfl ?_
 refine sy_seq ?_
 refine sy_tx' [0, 1, 2, 3, 4, 5, 6] rfl ?_
 refine spL rfl rfl (lhA (btl b (b.sl (some ⟨ba, oa, none⟩) cb)) ag25 rfl rfl rfl) rfl ?_
 refine cl rfl cal37 rfl rfl (c_SpareX b (some ⟨ba, oa, none⟩) cb hl hr hck _ _) ?_
 rintro _ _ _ ⟨⟨s, e, hsp2, rfl⟩, rfl, rfl⟩
 refine sp rfl (PE.move rfl) rfl ?_
 refine sp rfl (PE.extract rfl rfl) rfl ?_
 refine sp rfl (PE.extract rfl rfl) rfl ?_
 refine sp rfl (PE.assign rfl) rfl ?_
 refine sp rfl (PE.assign rfl) rfl ?_
 refine sy_seq ?_
 refine sy_tx' [0, 1, 2, 3, 4, 5, 6] rfl ?_
 refine spL rfl rfl (lhA (btl B (B.sl (some ⟨bo, 0, none⟩) cap)) ag25 rfl rfl rfl) rfl ?_
 refine clV rfl cal37 rfl rfl ((c_Spare B (some ⟨bo, 0, none⟩) cap hlB hrB _ _).toV (fun u hq => hsam.spare hok hck hsp2 hq)) ?_
 refine sp rfl (PE.move rfl) rfl ?_
 refine sp rfl (PE.extract rfl rfl) rfl ?_
 refine sp rfl (PE.extract rfl rfl) rfl ?_
 refine sp rfl (PE.assign rfl) rfl ?_
 refine sp rfl (PE.assign rfl) rfl ?_
 refine sy_seq ?_
 refine sy_tx' [0, 1, 2, 3, 4, 5, 6, 7, 8, 9, 10, 11, 12, 13, 14, 15, 16, 17, 18, 19, 20, 21, 22, 23, 24, 25, 26, 27, 28, 29, 30, 31, 32, 33, 34] rfl ?_
 refine sp rfl (PE.move rfl) rfl ?_
 refine sp rfl (PE.eql rfl rfl) rfl ?_
 refine sp rfl (PE.move rfl) rfl ?_
 refine sy_case (t := 88) rfl (fun g88 => ?_) (fun g88 => ?_)
 refine spG rfl rfl rfl rfl (PE.move rfl) rfl ?_
 refine spG rfl rfl rfl rfl (PE.eql rfl rfl) rfl ?_
 refine sp rfl (PE.pick rfl rfl rfl) rfl ?_
 refine sp rfl (PE.move rfl) rfl ?_
 refine sy_case (t := 92) rfl (fun g92 => ?_) (fun g92 => ?_)
 refine spG rfl rfl rfl rfl (PE.move rfl) rfl ?_
 refine spG rfl rfl rfl rfl (PE.move rfl) rfl ?_
 refine spG rfl rfl rfl rfl (PE.eql rfl rfl) rfl ?_
 refine sp rfl (PE.pick rfl rfl rfl) rfl ?_
 refine sp rfl (PE.move rfl) rfl ?_
 refine sy_case (t := 97) rfl (fun g97 => ?_) (fun g97 => ?_)
 refine spG rfl rfl rfl rfl (PE.move rfl) rfl ?_
 refine spG rfl rfl rfl rfl (PE.move rfl) rfl ?_
 refine spG rfl rfl rfl rfl (PE.eql rfl rfl) rfl ?_
 refine sp rfl (PE.pick rfl rfl rfl) rfl ?_
 refine sp rfl (PE.move rfl) rfl ?_
 refine sy_case (t := 102) rfl (fun g102 => ?_) (fun g102 => ?_)
 refine spG rfl rfl rfl rfl (PE.move rfl) rfl ?_
 refine spG rfl rfl rfl rfl (PE.move rfl) rfl ?_
 refine spG rfl rfl rfl rfl (PE.eql rfl rfl) rfl ?_
 refine sp rfl (PE.pick rfl rfl rfl) rfl ?_
 refine sp rfl (PE.move rfl) rfl ?_
 refine sy_case (t := 107) rfl (fun g107 => ?_) (fun g107 => ?_)
 refine spG rfl rfl rfl rfl (PE.move rfl) rfl ?_
 refine spG rfl rfl rfl rfl (PE.move rfl) rfl ?_
 refine spG rfl rfl rfl rfl (PE.eql rfl rfl) rfl ?_
 refine sp rfl (PE.pick rfl rfl rfl) rfl ?_
 refine sp rfl (PE.move rfl) rfl ?_
 refine sy_case (t := 112) rfl (fun g112 => ?_) (fun g112 => ?_)
 refine spG rfl rfl rfl rfl (PE.move rfl) rfl ?_
 refine spG rfl rfl rfl rfl (PE.move rfl) rfl ?_
 refine spG rfl rfl rfl rfl (PE.eql rfl rfl) rfl ?_
 refine sp rfl (PE.pick rfl rfl rfl) rfl ?_
 refine sp rfl (PE.move rfl) rfl ?_
 refine sy_case (t := 117) rfl (fun g117 => ?_) (fun g117 => ?_)
 refine clVG rfl rfl rfl rfl cal18 rfl rfl (c_awake _ _) ?_
 refine sp rfl (PE.pick rfl rfl rfl) rfl ?_
 refine sp rfl (PE.assign rfl) rfl ?_
 refine sy_ret ?_
 exact sy_return (vs := [_]) rfl (.cons (RV.tmp rfl) .nil) rfl ⟨rfl, rfl, rfl⟩ (fun w h => ((((h.del bt).del b8).del b7).del bs).facts (fun g hg => by simp [hg]))
 exact absurd g117 (by simp)
 exact absurd g112 (by simp)
 exact absurd g107 (by simp)
 exact absurd g102 (by simp)
 exact absurd g97 (by simp)
 exact absurd g92 (by simp)
 exact absurd g88 (by simp)
end Go.Proofs.Ytelegnmfhjfbaaa
