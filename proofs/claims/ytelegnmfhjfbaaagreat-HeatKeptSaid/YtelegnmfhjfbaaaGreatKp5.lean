/- Walks of the functions of the program, and the laws that join them: what the last theorem of this claim needs, in order. -/
import Derived.Test.YtelegnmfhjfbaaaGreatKp4
namespace Go.Proofs.YtelegnmfhjfbaaaGreat
set_option linter.unusedSimpArgs false
set_option linter.unusedVariables false
open Go
structure FewC (d : Dsk) (s : HSt) (n c : Nat) : Prop where
  is : ∃ t, d.pth n s t c
  le : ∀ t c', d.pth n s t c' → c ≤ c'
structure Fsp (es : List (HSt × List Int)) (m : MW) : Prop where
  mem : ∀ t w, mget m t = some w → (t, w) ∈ es
  has : ∀ t w, (t, w) ∈ es → ∃ w', mget m t = some w' ∧ na w' 5 ≤ na w 5
theorem Fsp.nil : Fsp [] [] := ⟨fun t w h => (by cases h), fun t w h => (by cases h)⟩
theorem Fsp.add {es : List (HSt × List Int)} {m : MW} {e : HSt × List Int} (h : Fsp es m) (hz : ∀ f ∈ es, f.2 ≠ zw) : Fsp (es ++ [e]) (updW m e) := by
  obtain ⟨k, v⟩ := e
  have key : (updW m (k, v) = mput m k v ∧ ∀ w, mget m k = some w → na v 5 < na w 5) ∨ (updW m (k, v) = m ∧ ∃ w, mget m k = some w ∧ na w 5 ≤ na v 5) := by
    unfold updW
    dsimp only
    cases hk : mget m k with
    | none => exact .inl ⟨by rw [Option.getD_none, decide_eq_true rfl]; rfl, fun w h => by cases h⟩
    | some w0 =>
      have h0 : w0 ≠ zw := hz _ (h.mem _ _ hk)
      rw [Option.getD_some, decide_eq_false h0, Bool.false_or]
      by_cases h1 : na v 5 < na w0 5
      · rw [decide_eq_true h1]; exact .inl ⟨rfl, fun w hw => by cases hw; exact h1⟩
      · rw [decide_eq_false h1]; exact .inr ⟨rfl, w0, rfl, by omega⟩
  rcases key with ⟨e1, h1⟩ | ⟨e1, w0, h1, h2⟩
  · rw [e1]
    refine ⟨fun t w hw => ?_, fun t w hw => ?_⟩
    · rw [mget_mput] at hw
      by_cases hkt : k = t
      · rw [decide_eq_true hkt] at hw; cases hw; subst hkt; simp
      · rw [decide_eq_false hkt] at hw; exact List.mem_append_left _ (h.mem _ _ hw)
    · rw [mget_mput]
      by_cases hkt : k = t
      · subst hkt
        rw [decide_eq_true rfl]
        refine ⟨v, rfl, ?_⟩
        rcases List.mem_append.1 hw with h3 | h3
        · obtain ⟨w', h4, h5⟩ := h.has _ _ h3
          have := h1 _ h4
          omega
        · cases List.mem_singleton.1 h3; exact Int.le_refl _
      · rw [decide_eq_false hkt]
        rcases List.mem_append.1 hw with h3 | h3
        · exact h.has _ _ h3
        · cases List.mem_singleton.1 h3; exact absurd rfl hkt
  · rw [e1]
    refine ⟨fun t w hw => List.mem_append_left _ (h.mem _ _ hw), fun t w hw => ?_⟩
    rcases List.mem_append.1 hw with h3 | h3
    · exact h.has _ _ h3
    · cases List.mem_singleton.1 h3; exact ⟨w0, h1, h2⟩
theorem Fsp.fold : ∀ {fs es : List (HSt × List Int)} {m : MW}, Fsp es m → (∀ f ∈ es ++ fs, f.2 ≠ zw) → Fsp (es ++ fs) (fs.foldl updW m)
  | [], es, m, h, _ => by rw [List.append_nil]; exact h
  | f :: fs, es, m, h, hz => by
    have := Fsp.fold (fs := fs) (h.add (e := f) fun g hg => hz g (List.mem_append_left _ hg)) (fun g hg => hz g (by simpa [List.append_assoc] using hg))
    rw [List.append_assoc] at this
    exact this
theorem mem_ev {d : Dsk} {m : MW} {e : HSt × List Int} : e ∈ (d.sts.take d.nst).flatMap (evW d m) ↔ ∃ s, s ∈ d.sts ∧ ∃ w, mget m s = some w ∧ ∃ l, l ∈ d.trs false ∧ ∃ t, d.next s l = some t ∧ e = (t, s ++ [(setN l : Int), na w 5 + (l.length : Int)]) := by
  rw [List.take_of_length_le (by rw [d.sts_len]; exact Nat.le_refl _), List.mem_flatMap]
  refine exists_congr fun s => and_congr_right fun _ => ?_
  unfold evW evsP
  cases mget m s with
  | none => simp
  | some w =>
    dsimp only
    rw [List.take_length, List.mem_filterMap]
    constructor
    · rintro ⟨l, hl, he⟩
      unfold evOf at he
      rw [Option.map_eq_some_iff] at he
      obtain ⟨t, ht, rfl⟩ := he
      exact ⟨w, rfl, l, hl, t, ht, rfl⟩
    · rintro ⟨w', hw, l, hl, t, ht, rfl⟩
      cases hw
      exact ⟨l, hl, by unfold evOf; rw [ht]; rfl⟩
theorem ev_nz {d : Dsk} (hd : d.ok) {s t : HSt} (hs : d.inS s) {l : List Nat} (hl : l ∈ d.trs false) (hn : d.next s l = some t) (c : Int) : s ++ [(setN l : Int), c] ≠ zw := by
  intro e
  obtain ⟨s0, s1, s2, s3, rfl⟩ := list4 hs.len
  have e2 : s0 = 0 ∧ (setN l : Int) = 0 := by
    have h1 := congrArg (fun z => na z 0) e
    have h2 := congrArg (fun z => na z 4) e
    exact ⟨h1, h2⟩
  have hn1 := hd.n
  have h2 := ((d.next_at hn1.2 hs.len (d.trs_lt hl) hn).2 0).1 (by omega)
  have h0 : (0 : Nat) ∉ l := fun hm => by
    have h3 := setN_mem l 0
    rw [decide_eq_true hm, show setN l = 0 by have := e2.2; omega] at h3
    simp at h3
  unfold Dsk.mid at h2
  rw [if_neg h0] at h2
  have h4 : na [s0, s1, s2, s3] 0 = 0 := e2.1
  omega
theorem mday_fsp {d : Dsk} (hd : d.ok) (s0 : HSt) (i : Nat) : Fsp ((d.sts.take d.nst).flatMap (evW d (mday d s0 i))) (mday d s0 (i + 1)) := by
  have h := Fsp.fold (fs := (d.sts.take d.nst).flatMap (evW d (mday d s0 i))) Fsp.nil (fun f hf => by
    rw [List.nil_append] at hf
    obtain ⟨s, hs, w, _, l, hl, t, ht, rfl⟩ := mem_ev.1 hf
    exact ev_nz hd ((d.mem_sts hd s).1 hs) hl ht _)
  rw [List.nil_append] at h
  exact h
theorem mday_zero {d : Dsk} {s0 : HSt} (s : HSt) : mget (mday d s0 0) s = bif decide (s0 = s) then some zw else none := by
  unfold mday mget
  rw [List.find?_cons]
  dsimp only
  cases decide (s0 = s) <;> rfl
theorem mday_back {d : Dsk} (hd : d.ok) {s0 : HSt} {i : Nat} {s : HSt} {w : List Int} (h : mget (mday d s0 (i + 1)) s = some w) :
    ∃ u w' l, u ∈ d.sts ∧ mget (mday d s0 i) u = some w' ∧ l ∈ d.trs false ∧ d.next u l = some s ∧ w = u ++ [(setN l : Int), na w' 5 + (l.length : Int)] := by
  obtain ⟨u, hu, w', hw', l, hl, t, ht, e⟩ := mem_ev.1 ((mday_fsp hd s0 i).mem _ _ h)
  cases e
  exact ⟨u, w', l, hu, hw', hl, ht, rfl⟩
theorem way_last {u : HSt} (hu : u.length = 4) (x y : Int) : na (u ++ [x, y]) 5 = y ∧ na (u ++ [x, y]) 4 = x ∧ (u ++ [x, y]).take 4 = u := by
  obtain ⟨a, b, c, e, rfl⟩ := list4 hu
  exact ⟨rfl, rfl, rfl⟩
theorem mday_spec {d : Dsk} (hd : d.ok) {s0 : HSt} (h0 : d.inS s0) : ∀ (i : Nat), (∀ s c, d.pth i s0 s c → ∃ w, mget (mday d s0 i) s = some w ∧ na w 5 ≤ (c : Int)) ∧ (∀ s w, mget (mday d s0 i) s = some w → ∃ c : Nat, na w 5 = c ∧ d.pth i s0 s c)
  | 0 => by
    refine ⟨fun s c h => ?_, fun s w h => ?_⟩
    · obtain ⟨rfl, rfl⟩ := h
      exact ⟨zw, by rw [mday_zero, decide_eq_true rfl]; rfl, by decide⟩
    · rw [mday_zero] at h
      by_cases e : s0 = s
      · rw [decide_eq_true e] at h; cases h; exact ⟨0, by decide, e.symm, rfl⟩
      · rw [decide_eq_false e] at h; cases h
  | i + 1 => by
    obtain ⟨i1, i2⟩ := mday_spec hd h0 i
    refine ⟨fun s c h => ?_, fun s w h => ?_⟩
    · obtain ⟨u, a, l, h1, h2, h3, rfl⟩ := h
      obtain ⟨w, hw, hle⟩ := i1 u a h1
      have hu := d.pth_inS hd h0 h1
      obtain ⟨w', hw', hle'⟩ := (mday_fsp hd s0 i).has s (u ++ [(setN l : Int), na w 5 + (l.length : Int)]) (mem_ev.2 ⟨u, (d.mem_sts hd u).2 hu, w, hw, l, h2, s, h3, rfl⟩)
      rw [(way_last hu.len _ _).1] at hle'
      exact ⟨w', hw', by push_cast; omega⟩
    · obtain ⟨u, w', l, hu, hw', hl, ht, rfl⟩ := mday_back hd h
      obtain ⟨c, hc, hp⟩ := i2 u w' hw'
      have hul := ((d.mem_sts hd u).1 hu).len
      refine ⟨c + l.length, ?_, u, c, l, hp, hl, ht, rfl⟩
      rw [(way_last hul _ _).1, hc]; push_cast; rfl
def Bsp (m : MW) (D : List HSt) : Option (HSt × Int) → Prop
  | none => ∀ s ∈ D, mget m s = none
  | some p => p.1 ∈ D ∧ ∃ w, mget m p.1 = some w ∧ p.2 = na w 5 ∧ ∀ s ∈ D, ∀ w', mget m s = some w' → p.2 ≤ na w' 5
theorem Bsp.add {m : MW} {D : List HSt} {acc : Option (HSt × Int)} (h : Bsp m D acc) (s : HSt) : Bsp m (D ++ [s]) (bestS m acc s) := by
  unfold bestS
  cases hs : mget m s with
  | none =>
    dsimp only
    cases acc with
    | none => intro t ht; rcases List.mem_append.1 ht with h1 | h1; exact h t h1; rw [List.mem_singleton.1 h1]; exact hs
    | some p =>
      obtain ⟨h1, w, h2, h3, h4⟩ := h
      refine ⟨List.mem_append_left _ h1, w, h2, h3, fun t ht w' hw' => ?_⟩
      rcases List.mem_append.1 ht with h5 | h5
      · exact h4 t h5 w' hw'
      · rw [List.mem_singleton.1 h5, hs] at hw'; cases hw'
  | some w =>
    dsimp only
    cases acc with
    | none =>
      refine ⟨by simp, w, hs, rfl, fun t ht w' hw' => ?_⟩
      rcases List.mem_append.1 ht with h5 | h5
      · rw [h t h5] at hw'; cases hw'
      · rw [List.mem_singleton.1 h5, hs] at hw'; cases hw'; exact Int.le_refl _
    | some p =>
      obtain ⟨q, n⟩ := p
      obtain ⟨h1, w0, h2, h3, h4⟩ := h
      dsimp only at h1 h2 h3 h4 ⊢
      by_cases hlt : na w 5 < n
      · rw [decide_eq_true hlt, cond_true]
        refine ⟨by simp, w, hs, rfl, fun t ht w' hw' => ?_⟩
        dsimp only
        rcases List.mem_append.1 ht with h5 | h5
        · have := h4 t h5 w' hw'; omega
        · rw [List.mem_singleton.1 h5, hs] at hw'; cases hw'; exact Int.le_refl _
      · rw [decide_eq_false hlt, cond_false]
        refine ⟨List.mem_append_left _ h1, w0, h2, h3, fun t ht w' hw' => ?_⟩
        dsimp only
        rcases List.mem_append.1 ht with h5 | h5
        · exact h4 t h5 w' hw'
        · rw [List.mem_singleton.1 h5, hs] at hw'; cases hw'; omega
theorem Bsp.fold {m : MW} : ∀ {l D : List HSt} {acc : Option (HSt × Int)}, Bsp m D acc → Bsp m (D ++ l) (l.foldl (bestS m) acc)
  | [], D, acc, h => by rw [List.append_nil]; exact h
  | s :: l, D, acc, h => by
    have := Bsp.fold (l := l) (h.add s)
    rw [List.append_assoc] at this
    exact this
theorem bestT_spec (d : Dsk) (m : MW) : Bsp m d.sts (bestT d m d.nst) := by
  have h := Bsp.fold (m := m) (l := d.sts) (D := []) (acc := none) (fun s hs => by cases hs)
  unfold bestT
  rw [List.take_of_length_le (by rw [d.sts_len]; exact Nat.le_refl _)]
  exact h
def Dsk.run (d : Dsk) : HSt → List (List Nat) → Option HSt
  | s, [] => some s
  | s, l :: p => match d.next s l with
    | none => none
    | some t => d.run t p
def turnsN (p : List (List Nat)) : Nat := (p.map List.length).sum
theorem turnsN_app (p q : List (List Nat)) : turnsN (p ++ q) = turnsN p + turnsN q := by unfold turnsN; rw [List.map_append, List.sum_append]
theorem Dsk.run_app (d : Dsk) : ∀ (p q : List (List Nat)) (s : HSt), d.run s (p ++ q) = match d.run s p with
    | none => none
    | some t => d.run t q
  | [], q, s => rfl
  | l :: p, q, s => by
    have e1 : ∀ r, d.run s (l :: r) = match d.next s l with
      | none => none
      | some t => d.run t r := fun r => rfl
    rw [List.cons_append, e1, e1]
    cases d.next s l with
    | none => rfl
    | some t => exact run_app d p q t
theorem Dsk.run_one (d : Dsk) (s : HSt) (l : List Nat) : d.run s [l] = d.next s l := by
  unfold Dsk.run
  cases d.next s l <;> rfl
theorem Dsk.run_pth {d : Dsk} : ∀ {p : List (List Nat)} {s t : HSt}, (∀ l ∈ p, l ∈ d.trs false) → d.run s p = some t → d.pth p.length s t (turnsN p)
  | [], s, t, _, h => by cases h; exact ⟨rfl, rfl⟩
  | l :: p, s, t, hp, h => by
    unfold Dsk.run at h
    split at h
    · cases h
    · rename_i u hu
      exact d.pth_cons (hp l (by simp)) hu (run_pth (fun k hk => hp k (by simp [hk])) h)
theorem Dsk.pth_run {d : Dsk} : ∀ {n : Nat} {s t : HSt} {c : Nat}, d.pth n s t c → ∃ p, p.length = n ∧ (∀ l ∈ p, l ∈ d.trs false) ∧ d.run s p = some t ∧ turnsN p = c
  | 0, s, t, c, h => by obtain ⟨rfl, rfl⟩ := h; exact ⟨[], rfl, by simp, rfl, rfl⟩
  | n + 1, s, t, c, h => by
    obtain ⟨u, a, l, h1, h2, h3, rfl⟩ := h
    obtain ⟨p, i1, i2, i3, i4⟩ := pth_run h1
    refine ⟨p ++ [l], by simp [i1], fun k hk => ?_, by rw [d.run_app, i3]; dsimp only; rw [d.run_one]; exact h3, by rw [turnsN_app, i4]; rfl⟩
    rcases List.mem_append.1 hk with h4 | h4
    · exact i2 k h4
    · rw [List.mem_singleton.1 h4]; exact h2
theorem backP_spec {d : Dsk} (hd : d.ok) {s0 : HSt} : ∀ (i : Nat) (s : HSt) (w : List Int), mget (mday d s0 i) s = some w → (backP d s0 i s).length = i ∧ (∀ l ∈ backP d s0 i s, l ∈ d.trs false) ∧ d.run s0 (backP d s0 i s) = some s ∧ (turnsN (backP d s0 i s) : Int) = na w 5
  | 0, s, w, h => by
    rw [mday_zero] at h
    by_cases e : s0 = s
    · rw [decide_eq_true e] at h; cases h; subst e; exact ⟨rfl, fun l hl => (by cases hl), rfl, rfl⟩
    · rw [decide_eq_false e] at h; cases h
  | i + 1, s, w, h => by
    obtain ⟨u, w', l, hu, hw', hl, ht, rfl⟩ := mday_back hd h
    obtain ⟨a5, a4, aT⟩ := way_last ((d.mem_sts hd u).1 hu).len (setN l : Int) (na w' 5 + (l.length : Int))
    obtain ⟨i1, i2, i3, i4⟩ := backP_spec hd i u w' hw'
    have hn := hd.n
    obtain ⟨v, hv, rfl⟩ : ∃ v, v < 2 ^ d.n ∧ l = bitl d.n v := by obtain ⟨v, hv, e, _⟩ := d.mem_trs.1 hl; exact ⟨v, hv, e⟩
    have hlt : setN (bitl d.n v) < 2 ^ d.n := setN_lt fun k hk => bitl_lt hk
    have hlt4 : setN (bitl d.n v) < 2 ^ 4 := Nat.lt_of_lt_of_le hlt (Nat.pow_le_pow_right (by decide) hn.2)
    have eb : backP d s0 (i + 1) s = backP d s0 i u ++ [bitl d.n v] := by
      show backP d s0 i (((mget (mday d s0 (i + 1)) s).getD zw).take 4) ++ [bitl 4 (na ((mget (mday d s0 (i + 1)) s).getD zw) 4).toNat] = _
      rw [h, Option.getD_some, aT, a4, Int.toNat_natCast, bitl_same hlt4 hlt, bitl_setN]
    rw [eb, a5]
    refine ⟨by simp [i1], fun k hk => ?_, by rw [d.run_app, i3]; dsimp only; rw [d.run_one]; exact ht, by rw [turnsN_app]; push_cast; rw [i4]; rfl⟩
    rcases List.mem_append.1 hk with h4 | h4
    · exact i2 k h4
    · rw [List.mem_singleton.1 h4]; exact hl
theorem best_few {d : Dsk} (hd : d.ok) {s0 : HSt} (h0 : d.inS s0) (days : Nat) : (bestT d (mday d s0 days) d.nst = none ∧ ¬ ∃ t c, d.pth days s0 t c) ∨
    ∃ (s : HSt) (c : Nat), bestT d (mday d s0 days) d.nst = some (s, (c : Int)) ∧ FewC d s0 days c ∧ (backP d s0 days s).length = days ∧ (∀ l ∈ backP d s0 days s, l ∈ d.trs false) ∧ d.run s0 (backP d s0 days s) = some s ∧ turnsN (backP d s0 days s) = c := by
  have hb := bestT_spec d (mday d s0 days)
  obtain ⟨m1, m2⟩ := mday_spec hd h0 days
  cases he : bestT d (mday d s0 days) d.nst with
  | none =>
    rw [he] at hb
    refine .inl ⟨rfl, ?_⟩
    rintro ⟨t, c, hp⟩
    obtain ⟨w, hw, _⟩ := m1 t c hp
    rw [hb t ((d.mem_sts hd t).2 (d.pth_inS hd h0 hp))] at hw
    cases hw
  | some p =>
    rw [he] at hb
    obtain ⟨s, n⟩ := p
    obtain ⟨h1, w, h2, h3, h4⟩ := hb
    dsimp only at h1 h2 h3 h4
    obtain ⟨c, hc, hp⟩ := m2 s w h2
    obtain ⟨b1, b2, b3, b4⟩ := backP_spec hd days s w h2
    refine .inr ⟨s, c, by rw [h3, hc], ⟨⟨s, hp⟩, fun t c' hp' => ?_⟩, b1, b2, b3, by omega⟩
    obtain ⟨w', hw', hle⟩ := m1 t c' hp'
    have := h4 t ((d.mem_sts hd t).2 (d.pth_inS hd h0 hp')) w' hw'
    omega
def Barn.stw (b : Barn) (ws : List Int) : HSt := pad ((List.range b.bins.length).map fun k => b.days (b.bins.getD k hb0) (na ws k))
theorem Barn.stw_at {b : Barn} {ws : List Int} {k : Nat} (hk : k < b.bins.length) : na (b.stw ws) k = b.days (b.bins.getD k hb0) (na ws k) := by
  unfold Barn.stw
  rw [pad_na]
  unfold na
  rw [List.getD_eq_getElem?_getD, List.getElem?_map, List.getElem?_range hk]; rfl
theorem Barn.stw_out {b : Barn} {ws : List Int} {k : Nat} (hk : b.bins.length ≤ k) : na (b.stw ws) k = 0 := by
  unfold Barn.stw
  rw [pad_na]
  unfold na
  rw [List.getD_eq_getElem?_getD, List.getElem?_eq_none (by simpa using hk)]; rfl
theorem Barn.stw_len {b : Barn} (hb : b.ok) (ws : List Int) : (b.stw ws).length = 4 := pad_len' (by simpa using hb.many.2)
theorem Barn.state_at {b : Barn} (hb : b.ok) {k : Nat} (hk : k < b.bins.length) : na b.state k = b.days (b.bins.getD k hb0) (b.bins.getD k hb0).warm := by
  obtain ⟨x, hx⟩ : ∃ x, b.bins[k]? = some x := ⟨_, List.getElem?_eq_getElem hk⟩
  rw [bin_getD hx]
  exact na_at (b.map_get hb _ hx)
theorem Barn.lasts_at {b : Barn} (hb : b.ok) {k : Nat} (hk : k < b.bins.length) : na b.lasts k = b.days (b.bins.getD k hb0) b.cool := by
  obtain ⟨x, hx⟩ : ∃ x, b.bins[k]? = some x := ⟨_, List.getElem?_eq_getElem hk⟩
  rw [bin_getD hx]
  exact na_at (b.map_get hb _ hx)
theorem Barn.warms_at {b : Barn} {k : Nat} (hk : k < b.bins.length) : na b.warms k = (b.bins.getD k hb0).warm := by
  obtain ⟨x, hx⟩ : ∃ x, b.bins[k]? = some x := ⟨_, List.getElem?_eq_getElem hk⟩
  rw [bin_getD hx]
  unfold na Barn.warms
  rw [List.getD_eq_getElem?_getD, List.getElem?_map, hx]; rfl
theorem Barn.stw_warms {b : Barn} (hb : b.ok) : b.stw b.warms = b.state := ext4 (b.stw_len hb _) (b.state_sml hb).len fun k _ => by
  rcases Nat.lt_or_ge k b.bins.length with h | h
  · rw [Barn.stw_at h, Barn.state_at hb h, Barn.warms_at h]
  · rw [Barn.stw_out h]
    unfold Barn.state
    rw [pad_na]
    unfold na
    rw [List.getD_eq_getElem?_getD, List.getElem?_eq_none (by simpa using h)]; rfl
theorem daysB_anti {r m w v : Int} (hr : 0 ≤ r) (h : w ≤ v) : daysB r m v ≤ daysB r m w := by
  unfold daysB
  by_cases h0 : r = 0
  · rw [decide_eq_true h0]; exact Int.le_refl _
  · rw [decide_eq_false h0, cond_false, cond_false]
    by_cases h1 : m < v
    · rw [decide_eq_true h1, cond_true]
      by_cases h2 : m < w
      · rw [decide_eq_true h2]; exact Int.le_refl _
      · rw [decide_eq_false h2, cond_false]; exact Int.ediv_nonneg (by omega) hr
    · rw [decide_eq_false h1, cond_false, decide_eq_false (by omega), cond_false]
      exact Int.ediv_le_ediv (by omega) (by omega)
theorem daysB_min {r m w c : Int} (hr : 0 ≤ r) : max (daysB r m w) (daysB r m c) = daysB r m (min w c) := by
  rcases Int.le_total w c with h | h
  · have := daysB_anti (m := m) hr h
    rw [Int.min_eq_left h]; omega
  · have := daysB_anti (m := m) hr h
    rw [Int.min_eq_right h]; omega
theorem daysB_hot {r m w : Int} (hr : 0 < r) (hw : w ≤ m) (h : m < w + r) : daysB r m w = 0 := by
  unfold daysB
  rw [decide_eq_false (by omega), cond_false, decide_eq_false (by omega), cond_false]
  exact Int.ediv_eq_zero_of_lt (by omega) (by omega)
theorem daysB_day {r m w : Int} (hr : 0 < r) (h : w + r ≤ m) : daysB r m (w + r) = daysB r m w - 1 ∧ 1 ≤ daysB r m w := by
  have e : daysB r m w = daysB r m (w + r) + 1 := by
    unfold daysB
    rw [decide_eq_false (by omega), cond_false, cond_false, decide_eq_false (by omega), cond_false, decide_eq_false (by omega), cond_false]
    rw [show m - w = (m - (w + r)) + 1 * r by omega, Int.add_mul_ediv_right _ _ (by omega)]
  have : 0 ≤ daysB r m (w + r) := by
    unfold daysB
    rw [decide_eq_false (by omega), cond_false, decide_eq_false (by omega), cond_false]
    exact Int.ediv_nonneg (by omega) (by omega)
  omega
theorem has_il (l : List Nat) (k : Nat) : hasI (il l) (k : Int) = decide (k ∈ l) := by
  rw [Bool.eq_iff_iff, decide_eq_true_eq]
  unfold hasI il
  rw [List.any_eq_true]
  constructor
  · rintro ⟨y, hy, he⟩
    obtain ⟨j, hj, rfl⟩ := List.mem_map.1 hy
    have := of_decide_eq_true he
    obtain rfl : k = j := by omega
    exact hj
  · intro h; exact ⟨(k : Int), List.mem_map.2 ⟨k, h, rfl⟩, decide_eq_true rfl⟩
theorem Barn.bin_at {b : Barn} (hb : b.ok) {k : Nat} (hk : k < b.bins.length) : b.bins.getD k hb0 ∈ b.bins := by
  rw [List.getD_eq_getElem?_getD, List.getElem?_eq_getElem hk]; exact List.getElem_mem hk
theorem Barn.mid_of {b : Barn} (hb : b.ok) {ws : List Int} (l : List Nat) {k : Nat} (hk : k < b.bins.length) : b.dsk.mid (b.stw ws) l k = b.days (b.bins.getD k hb0) (bif hasI (il l) k then min (na ws k) b.cool else na ws k) := by
  have hr := b.worst_range hb (Barn.bin_at hb hk)
  unfold Dsk.mid
  rw [has_il, Barn.stw_at hk, show na b.dsk.lasts k = _ from Barn.lasts_at hb hk]
  by_cases h : k ∈ l
  · rw [if_pos h, decide_eq_true h, cond_true]; exact daysB_min (by omega)
  · rw [if_neg h, decide_eq_false h, cond_false]
theorem Barn.run_day {b : Barn} (hb : b.ok) {ws : List Int} (hw : Cool b ws) {l : List Nat} (hl : ∀ k ∈ l, k < b.bins.length) :
    ((∀ k < b.bins.length, b.hotAt ws (il l) k = false) → b.dsk.next (b.stw ws) l = some (b.stw (b.dayW ws (il l)))) ∧ (∀ k < b.bins.length, b.hotAt ws (il l) k = true → b.dsk.next (b.stw ws) l = none) := by
  have hn := hb.many
  have key : ∀ k < b.bins.length, ∃ r m v, (r = 0 ∨ 6 ≤ r) ∧ v ≤ m ∧ m ≤ 60 ∧ 0 ≤ v ∧ b.dsk.mid (b.stw ws) l k = daysB r m v ∧ (b.hotAt ws (il l) k = decide (m < v + r)) ∧ na (b.stw (b.dayW ws (il l))) k = daysB r m (v + r) := fun k hk => by
    have hm := Barn.bin_at hb hk
    have hr := b.worst_range hb hm
    obtain ⟨x, hx⟩ : ∃ x, b.bins[k]? = some x := ⟨_, List.getElem?_eq_getElem hk⟩
    have hc := hw.at_ k x hx
    have hcl := hb.cool
    have hmk := (hb.bins x (List.mem_of_getElem? hx)).1
    have e1 := Barn.mid_of hb (ws := ws) l hk
    rw [bin_getD hx] at e1 hr
    refine ⟨b.worst x, x.mark, bif hasI (il l) k then min (na ws k) b.cool else na ws k, by omega, ?_, by omega, ?_, e1, ?_, ?_⟩
    · cases hasI (il l) k <;> simp only [cond_true, cond_false] <;> omega
    · cases hasI (il l) k <;> simp only [cond_true, cond_false] <;> omega
    · unfold Barn.hotAt; rw [bin_getD hx, b.wdAt_of hx]; rfl
    · rw [Barn.stw_at hk, na_at (b.dayW_at hk), b.wdAt_of hx, bin_getD hx]; rfl
  constructor
  · intro hcold
    obtain ⟨t, ht⟩ := b.dsk.next_some hn.2 (b.stw_len hb ws) hl (fun k hk => by
      obtain ⟨r, m, v, h1, h2, h3, h4, h5, h6, h7⟩ := key k hk
      rw [h5]
      rcases h1 with rfl | h1
      · exact .inl rfl
      · have h8 := hcold k hk
        rw [h6, decide_eq_false_iff_not] at h8
        exact .inr (daysB_day (by omega) (by omega)).2)
    rw [ht]
    congr 1
    obtain ⟨t1, t2⟩ := b.dsk.next_at hn.2 (b.stw_len hb ws) hl ht
    refine ext4 t1 (b.stw_len hb _) fun k _ => ?_
    rw [(t2 k).2]
    rcases Nat.lt_or_ge k b.bins.length with hk | hk
    · obtain ⟨r, m, v, h1, h2, h3, h4, h5, h6, h7⟩ := key k hk
      rw [h7, h5]
      rcases h1 with rfl | h1
      · rw [if_neg (by intro h; exact h.2 rfl)]; rfl
      · have h8 := hcold k hk
        rw [h6, decide_eq_false_iff_not] at h8
        have h9 := daysB_day (r := r) (m := m) (w := v) (by omega) (by omega)
        have h10 : daysB r m v ≤ 60 := by
          unfold daysB
          rw [decide_eq_false (by omega), cond_false, decide_eq_false (by omega), cond_false]
          exact Int.le_trans (Int.ediv_le_self _ (by omega)) (by omega)
        rw [if_pos ⟨hk, by omega⟩, h9.1]
    · rw [if_neg (by intro h; have : k < b.bins.length := h.1; omega), Barn.stw_out hk]
      unfold Dsk.mid
      rw [if_neg (fun h => by have := hl k h; omega), Barn.stw_out hk]
  · intro k hk hhot
    cases hnx : b.dsk.next (b.stw ws) l with
    | none => rfl
    | some t =>
      exfalso
      have h8 := ((b.dsk.next_at hn.2 (b.stw_len hb ws) hl hnx).2 k).1 hk
      obtain ⟨r, m, v, h1, h2, h3, h4, h5, h6, h7⟩ := key k hk
      rw [h6, decide_eq_true_eq] at hhot
      have h9 := daysB_hot (r := r) (m := m) (w := v) (by omega) h2 hhot
      rw [h5, h9] at h8
      omega
theorem Barn.run_burns {b : Barn} (hb : b.ok) : ∀ (p : List (List Nat)) (ws : List Int) (d0 : Nat), Cool b ws → (∀ l ∈ p, ∀ k ∈ l, k < b.bins.length) →
    (∃ ws', b.burnsF ws (p.map il) d0 = (none, ws') ∧ b.dsk.run (b.stw ws) p = some (b.stw ws') ∧ Cool b ws') ∨ (∃ q ws', b.burnsF ws (p.map il) d0 = (some q, ws') ∧ b.dsk.run (b.stw ws) p = none)
  | [], ws, d0, hc, _ => .inl ⟨ws, rfl, rfl, hc⟩
  | l :: p, ws, d0, hc, hl => by
    obtain ⟨r1, r2⟩ := Barn.run_day hb hc (hl l (by simp))
    rw [List.map_cons, b.burns_cons]
    cases hf : (List.range b.bins.length).find? (b.hotAt ws (il l)) with
    | some k =>
      rw [List.find?_range_eq_some] at hf
      refine .inr ⟨_, _, rfl, ?_⟩
      unfold Dsk.run
      rw [r2 k (List.mem_range.1 hf.2.1) hf.1]
    | none =>
      have hn : ∀ k < b.bins.length, b.hotAt ws (il l) k = false := fun k hk => by
        have := List.find?_eq_none.1 hf k (List.mem_range.2 hk)
        simpa using this
      dsimp only
      unfold Dsk.run
      rw [r1 hn]
      exact run_burns hb p _ (d0 + 1) (hc.next hb hn) (fun m hm => hl m (by simp [hm]))
theorem pair_sinc {l : List Int} (h : l.Pairwise (· < ·)) : sinc l = true := sinc_yes fun i x y hx hy => by
  obtain ⟨h1, e1⟩ := List.getElem?_eq_some_iff.1 hx
  obtain ⟨h2, e2⟩ := List.getElem?_eq_some_iff.1 hy
  have := List.pairwise_iff_getElem.1 h i (i + 1) h1 h2 (by omega)
  rw [e1, e2] at this; exact this
theorem sinc_pair : ∀ {l : List Int}, sinc l = true → l.Pairwise (· < ·)
  | [], _ => List.Pairwise.nil
  | [x], _ => List.pairwise_singleton _ _
  | x :: y :: l, h => by
    unfold sinc at h
    rw [Bool.and_eq_true, decide_eq_true_eq] at h
    have ih := sinc_pair h.2
    refine List.Pairwise.cons (fun z hz => ?_) ih
    rcases List.mem_cons.1 hz with rfl | hz
    · exact h.1
    · have := (List.pairwise_cons.1 ih).1 z hz
      omega
theorem il_bitl_pair (n u : Nat) : (il (bitl n u)).Pairwise (· < ·) := by
  unfold il bitl
  rw [List.pairwise_map]
  exact (List.Pairwise.filter _ List.pairwise_lt_range).imp fun h => by omega
theorem pair_ext : ∀ {l m : List Int}, l.Pairwise (· < ·) → m.Pairwise (· < ·) → (∀ x, x ∈ l ↔ x ∈ m) → l = m
  | [], [], _, _, _ => rfl
  | [], y :: m, _, _, h => by have := (h y).2 (by simp); cases this
  | x :: l, [], _, _, h => by have := (h x).1 (by simp); cases this
  | x :: l, y :: m, hl, hm, h => by
    obtain ⟨l1, l2⟩ := List.pairwise_cons.1 hl
    obtain ⟨m1, m2⟩ := List.pairwise_cons.1 hm
    have exy : x = y := by
      rcases List.mem_cons.1 ((h x).1 (by simp)) with h1 | h1
      · exact h1
      · rcases List.mem_cons.1 ((h y).2 (by simp)) with h2 | h2
        · exact h2.symm
        · have := m1 x h1; have := l1 y h2; omega
    subst exy
    congr 1
    refine pair_ext l2 m2 fun z => ⟨fun hz => ?_, fun hz => ?_⟩
    · rcases List.mem_cons.1 ((h z).1 (by simp [hz])) with h3 | h3
      · have := l1 z hz; omega
      · exact h3
    · rcases List.mem_cons.1 ((h z).2 (by simp [hz])) with h3 | h3
      · have := m1 z hz; omega
      · exact h3
theorem day_of_trs {d : Dsk} {l : List Nat} (h : l ∈ d.trs false) : dayErr d.n d.gangs (il l) = 0 := by
  obtain ⟨u, hu, rfl, h1, _⟩ := d.mem_trs.1 h
  unfold dayErr
  have e1 : ((il (bitl d.n u)).all fun k => inB k 0 ((d.n : Int) - 1)) = true := by
    rw [List.all_eq_true]
    intro y hy
    obtain ⟨k, hk, rfl⟩ := List.mem_map.1 hy
    have := bitl_lt hk
    simp [inB]; omega
  rw [e1, pair_sinc (il_bitl_pair _ _), il_len]
  unfold Dsk.g at h1
  rw [decide_eq_false (by omega)]; rfl
theorem trs_of_day {d : Dsk} {l : List Int} (h : dayErr d.n d.gangs l = 0) : ∃ l', l = il l' ∧ l' ∈ d.trs false := by
  unfold dayErr at h
  cases h1 : l.all fun k => inB k 0 ((d.n : Int) - 1) with
  | false => rw [h1] at h; exact absurd (show (1 : Int) = 0 from h) (by decide)
  | true =>
    rw [h1] at h
    cases h2 : sinc l with
    | false => rw [h2] at h; exact absurd (show (4 : Int) = 0 from h) (by decide)
    | true =>
      rw [h2] at h
      by_cases h3 : d.gangs < (l.length : Int)
      · rw [decide_eq_true h3] at h; exact absurd (show (9 : Int) = 0 from h) (by decide)
      · rw [List.all_eq_true] at h1
        have hb : ∀ x ∈ l, 0 ≤ x ∧ x < d.n := fun x hx => by have := h1 x hx; simp only [inB, Bool.and_eq_true, decide_eq_true_eq] at this; omega
        have e : l = il (bitl d.n (setN (l.map Int.toNat))) := by
          refine pair_ext (sinc_pair h2) (il_bitl_pair _ _) fun x => ?_
          unfold il
          rw [List.mem_map]
          constructor
          · intro hx
            refine ⟨x.toNat, mem_bitl.2 ⟨by have := hb x hx; omega, ?_⟩, by have := hb x hx; omega⟩
            rw [setN_mem, decide_eq_true_eq]
            exact List.mem_map.2 ⟨x, hx, rfl⟩
          · rintro ⟨k, hk, rfl⟩
            have := (mem_bitl.1 hk).2
            rw [setN_mem, decide_eq_true_eq] at this
            obtain ⟨y, hy, e⟩ := List.mem_map.1 this
            have := hb y hy
            have e2 : y = (k : Int) := by omega
            rw [← e2]; exact hy
        have hu : setN (l.map Int.toNat) < 2 ^ d.n := setN_lt fun k hk => by
          obtain ⟨y, hy, rfl⟩ := List.mem_map.1 hk
          have := hb y hy; omega
        refine ⟨_, e, d.mem_trs.2 ⟨_, hu, rfl, ?_, fun h => by cases h⟩⟩
        have h4 := bitl_len d.n (setN (l.map Int.toNat))
        have h5 : (bitl d.n (setN (l.map Int.toNat))).length = l.length := by conv => rhs; rw [e]; rw [il_len]
        unfold Dsk.g
        omega
theorem days_of_trs {d : Dsk} : ∀ {p : List (List Nat)}, (∀ l ∈ p, l ∈ d.trs false) → daysErr d.n d.gangs (p.map il) = 0
  | [], _ => rfl
  | l :: p, h => by
    rw [List.map_cons]
    unfold daysErr
    rw [day_of_trs (h l (by simp))]
    exact days_of_trs fun m hm => h m (by simp [hm])
theorem plan_of_trs {d : Dsk} {p : List (List Nat)} (hl : p.length ≤ 20000) (h : ∀ l ∈ p, l ∈ d.trs false) : planErr d.n d.gangs (p.map il) = 0 := by
  unfold planErr
  rw [List.length_map, decide_eq_false (by omega)]
  exact days_of_trs h
theorem Dsk.trs_four {d : Dsk} (hd : d.ok) {l : List Nat} (h : l ∈ d.trs false) : l.length ≤ 4 := trs_len4 hd h
theorem Dsk.pth_le {d : Dsk} (hd : d.ok) : ∀ {n : Nat} {s t : HSt} {c : Nat}, d.pth n s t c → c ≤ 4 * n
  | 0, s, t, c, h => by obtain ⟨_, rfl⟩ := h; omega
  | n + 1, s, t, c, h => by
    obtain ⟨u, a, l, h1, h2, _, rfl⟩ := h
    have := pth_le hd h1
    have := d.trs_four hd h2
    omega
def Sxc (n : Nat) (g : Int) (la : List Int) (now : List (List Int)) (cs : List Int) (i u : Nat) (t : List Int) (x : Int) : Prop := ∃ j s v a, now[j]? = some s ∧ cs[j]? = some a ∧ (j < i ∨ (j = i ∧ v < u)) ∧ v < 2 ^ n ∧ rS n g la s v = some t ∧ x = a + ((bitl 4 v).length : Int)
theorem Sxc.sx {n : Nat} {g : Int} {la : List Int} {now : List (List Int)} {cs : List Int} {i u : Nat} {t : List Int} {x : Int} (h : Sxc n g la now cs i u t x) : Sx n g la now i u t := by
  obtain ⟨j, s, v, a, h1, _, h3, h4, h5, _⟩ := h
  exact ⟨j, s, v, h1, h3, h4, h5⟩
theorem Sxc.step {n : Nat} {g : Int} {la s t : List Int} {now : List (List Int)} {cs : List Int} {i u : Nat} {a x : Int} (hs : now[i]? = some s) (ha : cs[i]? = some a) (hu : u < 2 ^ n) : Sxc n g la now cs i (u + 1) t x ↔ Sxc n g la now cs i u t x ∨ (rS n g la s u = some t ∧ x = a + ((bitl 4 u).length : Int)) := by
  constructor
  · rintro ⟨j, s', v, a', h1, h2, h3, h4, h5, h6⟩
    rcases h3 with h3 | ⟨rfl, h3⟩
    · exact .inl ⟨j, s', v, a', h1, h2, .inl h3, h4, h5, h6⟩
    · rcases Nat.lt_or_ge v u with h7 | h7
      · exact .inl ⟨j, s', v, a', h1, h2, .inr ⟨rfl, h7⟩, h4, h5, h6⟩
      · obtain rfl : v = u := by omega
        rw [hs] at h1; cases h1; rw [ha] at h2; cases h2; exact .inr ⟨h5, h6⟩
  · rintro (⟨j, s', v, a', h1, h2, h3, h4, h5, h6⟩ | ⟨h5, h6⟩)
    · exact ⟨j, s', v, a', h1, h2, by omega, h4, h5, h6⟩
    · exact ⟨i, s, u, a, hs, ha, by omega, hu, h5, h6⟩
theorem Sxc.next {n : Nat} {g : Int} {la t : List Int} {now : List (List Int)} {cs : List Int} {i : Nat} {x : Int} : Sxc n g la now cs (i + 1) 0 t x ↔ Sxc n g la now cs i (2 ^ n) t x := by
  constructor
  · rintro ⟨j, s', v, a, h1, h2, h3, h4, h5⟩
    exact ⟨j, s', v, a, h1, h2, by omega, h4, h5⟩
  · rintro ⟨j, s', v, a, h1, h2, h3, h4, h5⟩
    exact ⟨j, s', v, a, h1, h2, by omega, h4, h5⟩
structure Bc (n : Nat) (g : Int) (la : List Int) (now : List (List Int)) (cs : List Int) (i u : Nat) (L : List (List Int)) (S : List Int) : Prop where
  bf : Bf n g la now i u L
  len : S.length = L.length
  val : ∀ (j : Nat) (t : List Int) (x : Int), L[j]? = some t → S[j]? = some x → Sxc n g la now cs i u t x ∧ ∀ y, Sxc n g la now cs i u t y → x ≤ y
theorem Bc.start {n : Nat} {g : Int} {la : List Int} {now : List (List Int)} {cs : List Int} : Bc n g la now cs 0 0 [] [] := ⟨Bf.start, rfl, fun j t x h => by simp at h⟩
theorem Bc.next {n : Nat} {g : Int} {la : List Int} {now : List (List Int)} {cs : List Int} {i : Nat} {L : List (List Int)} {S : List Int} (h : Bc n g la now cs i (2 ^ n) L S) : Bc n g la now cs (i + 1) 0 L S :=
  ⟨h.bf.next, h.len, fun j t x h1 h2 => by
    obtain ⟨h3, h4⟩ := h.val j t x h1 h2
    exact ⟨Sxc.next.2 h3, fun y hy => h4 y (Sxc.next.1 hy)⟩⟩
theorem Bc.skip {n : Nat} {g : Int} {la s : List Int} {now : List (List Int)} {cs : List Int} {i u : Nat} {L : List (List Int)} {S : List Int} {a : Int} (h : Bc n g la now cs i u L S) (hs : now[i]? = some s) (ha : cs[i]? = some a) (hu : u < 2 ^ n) (hn : rS n g la s u = none) : Bc n g la now cs i (u + 1) L S :=
  ⟨h.bf.skip hs hu (fun t ht => by rw [hn] at ht; cases ht), h.len, fun j t x h1 h2 => by
    obtain ⟨h3, h4⟩ := h.val j t x h1 h2
    refine ⟨(Sxc.step hs ha hu).2 (.inl h3), fun y hy => ?_⟩
    rcases (Sxc.step hs ha hu).1 hy with h5 | ⟨h5, _⟩
    · exact h4 y h5
    · rw [hn] at h5; cases h5⟩
theorem Bc.add {n : Nat} {g : Int} {la s t : List Int} {now : List (List Int)} {cs : List Int} {i u : Nat} {L : List (List Int)} {S : List Int} {a : Int} (h : Bc n g la now cs i u L S) (hs : now[i]? = some s) (ha : cs[i]? = some a) (hu : u < 2 ^ n) (ht : rS n g la s u = some t) (hn : t ∉ L) :
    Bc n g la now cs i (u + 1) (L ++ [t]) (S ++ [a + ((bitl 4 u).length : Int)]) where
  bf := h.bf.add hs hu ht hn
  len := by rw [List.length_append, List.length_append, h.len]; rfl
  val j t' x h1 h2 := by
    have hl := h.len
    rcases Nat.lt_or_ge j L.length with hj | hj
    · rw [List.getElem?_append_left hj] at h1
      rw [List.getElem?_append_left (by omega)] at h2
      obtain ⟨h3, h4⟩ := h.val j t' x h1 h2
      refine ⟨(Sxc.step hs ha hu).2 (.inl h3), fun y hy => ?_⟩
      rcases (Sxc.step hs ha hu).1 hy with h5 | ⟨h5, _⟩
      · exact h4 y h5
      · rw [ht] at h5; cases h5; exact absurd (List.mem_of_getElem? h1) hn
    · have hj2 := (List.getElem?_eq_some_iff.1 h1).1
      rw [List.length_append, List.length_singleton] at hj2
      obtain rfl : j = L.length := by omega
      rw [List.getElem?_append_right (Nat.le_refl _), Nat.sub_self] at h1
      rw [← hl, List.getElem?_append_right (Nat.le_refl _), Nat.sub_self] at h2
      cases h1; cases h2
      refine ⟨(Sxc.step hs ha hu).2 (.inr ⟨ht, rfl⟩), fun y hy => ?_⟩
      rcases (Sxc.step hs ha hu).1 hy with h5 | ⟨_, h5⟩
      · exact absurd ((h.bf.mem _).2 h5.sx) hn
      · rw [h5]; exact Int.le_refl _
theorem Bc.low {n : Nat} {g : Int} {la s t : List Int} {now : List (List Int)} {cs : List Int} {i u k : Nat} {L : List (List Int)} {S : List Int} {a x : Int} (h : Bc n g la now cs i u L S) (hs : now[i]? = some s) (ha : cs[i]? = some a) (hu : u < 2 ^ n) (ht : rS n g la s u = some t) (hk : L[k]? = some t) (hx : S[k]? = some x) :
    Bc n g la now cs i (u + 1) L (S.set k (min x (a + ((bitl 4 u).length : Int)))) where
  bf := h.bf.skip hs hu (fun t2 ht2 => by rw [ht] at ht2; cases ht2; exact List.mem_of_getElem? hk)
  len := by rw [List.length_set, h.len]
  val j t' y h1 h2 := by
    have hl := h.len
    have hkl := (List.getElem?_eq_some_iff.1 hk).1
    by_cases hj : k = j
    · subst hj
      rw [hk] at h1; cases h1
      rw [List.getElem?_set_self (by omega)] at h2; cases h2
      obtain ⟨h3, h4⟩ := h.val k t x hk hx
      refine ⟨(Sxc.step hs ha hu).2 ?_, fun y hy => ?_⟩
      · rcases Int.le_total x (a + ((bitl 4 u).length : Int)) with h5 | h5
        · rw [Int.min_eq_left h5]; exact .inl h3
        · rw [Int.min_eq_right h5]; exact .inr ⟨ht, rfl⟩
      · rcases (Sxc.step hs ha hu).1 hy with h5 | ⟨_, h5⟩
        · have := h4 y h5; omega
        · omega
    · rw [List.getElem?_set_ne hj] at h2
      obtain ⟨h3, h4⟩ := h.val j t' y h1 h2
      refine ⟨(Sxc.step hs ha hu).2 (.inl h3), fun z hz => ?_⟩
      rcases (Sxc.step hs ha hu).1 hz with h5 | ⟨h5, _⟩
      · exact h4 z h5
      · rw [ht] at h5; cases h5
        exact absurd ((List.getElem?_inj hkl h.bf.nd).1 (hk.trans h1.symm)) hj
structure Lvc (d : Dsk) (s0 : HSt) (day : Nat) (L : List (List Int)) (C : List Int) : Prop where
  lv : Lv d s0 day L
  len : C.length = L.length
  val : ∀ (j : Nat) (t : List Int) (x : Int), L[j]? = some t → C[j]? = some x → ∃ c : Nat, x = c ∧ d.pth day s0 (pad t) c ∧ ∀ c', d.pth day s0 (pad t) c' → c ≤ c'
theorem Lvc.start {d : Dsk} {s : List Int} (hs : s.length = d.n) : Lvc d (pad s) 0 [s] [0] := ⟨Lv.start hs, rfl, fun j t x h1 h2 => by
  cases j with
  | succ j => simp at h1
  | zero => cases h1; cases h2; exact ⟨0, rfl, ⟨rfl, rfl⟩, fun c' _ => Nat.zero_le _⟩⟩
theorem Lvc.next {d : Dsk} (hd : d.ok) {s0 : HSt} (h0 : d.inS s0) {la : List Int} (hla : ∀ k < d.n, na la k = na d.lasts k) {day : Nat} {now L : List (List Int)} {cs S : List Int} (h : Lvc d s0 day now cs) (hb : Bc d.n d.gangs la now cs now.length 0 L S) : Lvc d s0 (day + 1) L S where
  lv := h.lv.next hd h0 hla hb.bf
  len := hb.len
  val j t x h1 h2 := by
    have hn := hd.n
    have htl := hb.bf.len t (List.mem_of_getElem? h1)
    obtain ⟨⟨i, s, v, a, g1, g2, _, g4, g5, rfl⟩, h4⟩ := hb.val j t x h1 h2
    obtain ⟨ca, rfl, hp, _⟩ := h.val i s a g1 g2
    have hsl := h.lv.len s (List.mem_of_getElem? g1)
    obtain ⟨k1, k2⟩ := (rS_iff hd hla hsl htl g4).1 g5
    have e4 := ones_eq hn.2 g4
    refine ⟨ca + (bitl d.n v).length, by rw [e4]; push_cast; rfl, ⟨_, ca, _, hp, k1, k2, rfl⟩, fun c' hc' => ?_⟩
    obtain ⟨u, a', l, p1, p2, p3, rfl⟩ := hc'
    have hu := d.pth_inS hd h0 p1
    have eu := inS_pad hd hu
    have hul : (u.take d.n).length = d.n := by rw [List.length_take, hu.len]; omega
    have hmem : u.take d.n ∈ now := (h.lv.mem _ hul).2 ⟨a', by rw [eu]; exact p1⟩
    obtain ⟨i2, hi2⟩ := List.getElem?_of_mem hmem
    have hi2l := (List.getElem?_eq_some_iff.1 hi2).1
    obtain ⟨y, hy⟩ : ∃ y, cs[i2]? = some y := ⟨_, List.getElem?_eq_getElem (by rw [h.len]; exact hi2l)⟩
    obtain ⟨cy, rfl, _, hmin⟩ := h.val i2 _ y hi2 hy
    rw [eu] at hmin
    have := hmin a' p1
    obtain ⟨w, hw, rfl, _⟩ := d.mem_trs.1 p2
    have e5 := ones_eq hn.2 hw
    have := h4 _ ⟨i2, _, w, _, hi2, hy, .inl hi2l, hw, (rS_iff hd hla hul htl hw).2 ⟨p2, by rw [eu]; exact p3⟩, rfl⟩
    omega
theorem Lvc.few {d : Dsk} (hd : d.ok) {s0 : HSt} (h0 : d.inS s0) {day : Nat} {L : List (List Int)} {C : List Int} (h : Lvc d s0 day L C) {j : Nat} {x : Int} (hx : C[j]? = some x) (hm : ∀ (i : Nat) (y : Int), C[i]? = some y → x ≤ y) : ∃ c : Nat, x = c ∧ FewC d s0 day c := by
  have hj := (List.getElem?_eq_some_iff.1 hx).1
  have hl := h.len
  obtain ⟨t, ht⟩ : ∃ t, L[j]? = some t := ⟨_, List.getElem?_eq_getElem (by omega)⟩
  obtain ⟨c, rfl, hp, _⟩ := h.val j t x ht hx
  refine ⟨c, rfl, ⟨_, hp⟩, fun u c' hu => ?_⟩
  have hi := d.pth_inS hd h0 hu
  have eu := inS_pad hd hi
  have hn := hd.n
  have hmem : u.take d.n ∈ L := (h.lv.mem _ (by rw [List.length_take, hi.len]; omega)).2 ⟨c', by rw [eu]; exact hu⟩
  obtain ⟨i2, hi2⟩ := List.getElem?_of_mem hmem
  have hi2l := (List.getElem?_eq_some_iff.1 hi2).1
  obtain ⟨y, hy⟩ : ∃ y, C[i2]? = some y := ⟨_, List.getElem?_eq_getElem (by omega)⟩
  obtain ⟨cy, rfl, _, hmin⟩ := h.val i2 _ y hi2 hy
  rw [eu] at hmin
  have := hmin c' hu
  have := hm i2 _ hy
  omega
theorem Lvc.none {d : Dsk} (hd : d.ok) {s0 : HSt} (h0 : d.inS s0) {day : Nat} {L : List (List Int)} {C : List Int} (h : Lvc d s0 day L C) (hc : C = []) : ¬ ∃ t c, d.pth day s0 t c := by
  rintro ⟨u, c', hu⟩
  have hi := d.pth_inS hd h0 hu
  have eu := inS_pad hd hi
  have hn := hd.n
  have hmem : u.take d.n ∈ L := (h.lv.mem _ (by rw [List.length_take, hi.len]; omega)).2 ⟨c', by rw [eu]; exact hu⟩
  have hl := h.len
  rw [hc] at hl
  rw [List.length_eq_zero_iff.1 hl.symm] at hmem
  cases hmem
theorem Lvc.bd {d : Dsk} (hd : d.ok) {s0 : HSt} {day : Nat} {L : List (List Int)} {C : List Int} (h : Lvc d s0 day L C) {j : Nat} {x : Int} (hx : C[j]? = some x) : 0 ≤ x ∧ x ≤ 4 * (day : Int) := by
  have hj := (List.getElem?_eq_some_iff.1 hx).1
  have hl := h.len
  obtain ⟨t, ht⟩ : ∃ t, L[j]? = some t := ⟨_, List.getElem?_eq_getElem (by omega)⟩
  obtain ⟨c, rfl, hp, _⟩ := h.val j t x ht hx
  have := d.pth_le hd hp
  omega
theorem Bc.bd {n : Nat} {g : Int} {la : List Int} {now : List (List Int)} {cs : List Int} {i u : Nat} {L : List (List Int)} {S : List Int} {B : Int} (h : Bc n g la now cs i u L S) (hc : ∀ (j : Nat) (x : Int), cs[j]? = some x → 0 ≤ x ∧ x ≤ B) {j : Nat} {x : Int} (hx : S[j]? = some x) : 0 ≤ x ∧ x ≤ B + 4 := by
  have hj := (List.getElem?_eq_some_iff.1 hx).1
  have hl := h.len
  obtain ⟨t, ht⟩ : ∃ t, L[j]? = some t := ⟨_, List.getElem?_eq_getElem (by omega)⟩
  obtain ⟨⟨i, s, v, a, _, g2, _, _, _, rfl⟩, _⟩ := h.val j t x ht hx
  have := hc _ _ g2
  have := ones_le v
  omega
def RTurn (b : Barn) (n : Nat) (m : Int) : Prop := (m = -1 ∧ ¬ ∃ t c, b.dsk.pth n b.state t c) ∨ ∃ c : Nat, m = c ∧ FewC b.dsk b.state n c
def MinI (cs : List Int) (i : Nat) (m : Int) : Prop := (i = 0 ∧ m = -1) ∨ (0 < i ∧ 0 ≤ m ∧ (∃ j : Nat, cs[j]? = some m) ∧ ∀ (j : Nat) (x : Int), j < i → cs[j]? = some x → m ≤ x)
theorem MinI.take {cs : List Int} {i : Nat} {m x : Int} (h : MinI cs i m) (hx : cs[i]? = some x) (h0 : 0 ≤ x) (hc : m < 0 ∨ x < m) : MinI cs (i + 1) x := by
  refine .inr ⟨by omega, h0, ⟨i, hx⟩, fun j y hj hy => ?_⟩
  rcases Nat.lt_or_ge j i with h1 | h1
  · rcases h with ⟨rfl, _⟩ | ⟨_, h2, _, h3⟩
    · omega
    · have := h3 j y h1 hy; omega
  · obtain rfl : j = i := by omega
    rw [hx] at hy; cases hy; exact Int.le_refl _
theorem MinI.keep {cs : List Int} {i : Nat} {m x : Int} (h : MinI cs i m) (hx : cs[i]? = some x) (h0 : ¬ m < 0) (hc : ¬ x < m) : MinI cs (i + 1) m := by
  rcases h with ⟨_, rfl⟩ | ⟨h1, h2, h3, h4⟩
  · omega
  · refine .inr ⟨by omega, h2, h3, fun j y hj hy => ?_⟩
    rcases Nat.lt_or_ge j i with h5 | h5
    · exact h4 j y h5 hy
    · obtain rfl : j = i := by omega
      rw [hx] at hy; cases hy; omega
theorem MinI.done {b : Barn} (hok : b.ok) {n : Nat} {L : List (List Int)} {cs : List Int} (h : Lvc b.dsk b.state n L cs) {m : Int} (hm : MinI cs cs.length m) : RTurn b n m := by
  have hdk := b.dsk_ok hok
  have hst := b.state_inS hok
  rcases hm with ⟨h1, rfl⟩ | ⟨_, _, ⟨j, hj⟩, h4⟩
  · exact .inl ⟨rfl, h.none hdk hst (List.length_eq_zero_iff.1 h1)⟩
  · exact .inr (h.few hdk hst hj fun i y hy => h4 i y (List.getElem?_eq_some_iff.1 hy).1 hy)
end Go.Proofs.YtelegnmfhjfbaaaGreat
namespace Go.Proofs.YtelegnmfhjfbaaaGreat
set_option linter.unusedSimpArgs false
set_option linter.unusedVariables false
open Go
theorem cal8 : cal Tryz.prog 8 = true := by kernel_rfl
structure Les (d d' : Dsk) : Prop where
  n : d.n = d'.n
  g : d.gangs ≤ d'.gangs
  lasts : ∀ k < d.n, na d.lasts k ≤ na d'.lasts k
theorem Les.next {d d' : Dsk} (h : Les d d') (hd : d.ok) (hd' : d'.ok) {s s' t : HSt} (hs : d.inS s) (hs' : d'.inS s') (hle : ∀ k < d.n, na s k ≤ na s' k) {l : List Nat} (hl : ∀ k ∈ l, k < d.n) (e : d.next s l = some t) : ∃ t', d'.next s' l = some t' ∧ ∀ k < d.n, na t k ≤ na t' k := by
  have hn := h.n
  obtain ⟨_, h2⟩ := d.next_at hd.n.2 hs.len hl e
  have hl' : ∀ k ∈ l, k < d'.n := fun k hk => by have := hl k hk; omega
  have hm : ∀ k < d.n, d.mid s l k ≤ d'.mid s' l k := fun k hk => by
    have h4 := hle k hk
    have h5 := h.lasts k hk
    unfold Dsk.mid
    by_cases h3 : k ∈ l
    · rw [if_pos h3, if_pos h3]; omega
    · rw [if_neg h3, if_neg h3]; exact h4
  obtain ⟨t', ht'⟩ := d'.next_some hd'.n.2 hs'.len hl' (fun k hk => by
    have hk0 : k < d.n := by omega
    have := hm k hk0; have := (h2 k).1 hk0; have := d.inS_mid hd hs l hk0; have := d'.inS_mid hd' hs' l hk; have := (hd.ever k hk0).2.1; have := (hd'.ever k hk).2.1; omega)
  refine ⟨t', ht', fun k hk => ?_⟩
  have hk' : k < d'.n := by omega
  obtain ⟨_, h3⟩ := d'.next_at hd'.n.2 hs'.len hl' ht'
  have a1 := (h2 k).2; have a2 := (h3 k).2
  have := hm k hk
  have b1 := d.inS_mid hd hs l hk; have b2 := d'.inS_mid hd' hs' l hk'
  have := (hd.ever k hk).2.1; have := (hd'.ever k hk').2.1
  rw [a1, a2]
  split <;> split <;> omega
theorem Les.trs {d d' : Dsk} (h : Les d d') {l : List Nat} (hl : l ∈ d.trs false) : l ∈ d'.trs false := by
  obtain ⟨u, hu, rfl, h1, _⟩ := d.mem_trs.1 hl
  have hn := h.n; have hg := h.g
  refine d'.mem_trs.2 ⟨u, by rw [← hn]; exact hu, by rw [← hn], ?_, fun h => by cases h⟩
  unfold Dsk.g at h1 ⊢
  omega
theorem Les.pth {d d' : Dsk} (h : Les d d') (hd : d.ok) (hd' : d'.ok) {s s' : HSt} (hs : d.inS s) (hs' : d'.inS s') (hle : ∀ k < d.n, na s k ≤ na s' k) : ∀ {n : Nat} {t : HSt} {c : Nat}, d.pth n s t c → ∃ t', d'.pth n s' t' c ∧ ∀ k < d.n, na t k ≤ na t' k
  | 0, t, c, hp => by obtain ⟨rfl, rfl⟩ := hp; exact ⟨s', ⟨rfl, rfl⟩, hle⟩
  | n + 1, t, c, hp => by
    obtain ⟨u, a, l, h1, h2, h3, rfl⟩ := hp
    obtain ⟨u', i1, i2⟩ := Les.pth h hd hd' hs hs' hle h1
    obtain ⟨t', j1, j2⟩ := h.next hd hd' (d.pth_inS hd hs h1) (d'.pth_inS hd' hs' i1) i2 (d.trs_lt h2) h3
    exact ⟨t', ⟨u', a, l, i1, h.trs h2, j1, rfl⟩, j2⟩
theorem Les.run {d d' : Dsk} (h : Les d d') (hd : d.ok) (hd' : d'.ok) : ∀ {p : List (List Nat)} {s s' t : HSt}, d.inS s → d'.inS s' → (∀ k < d.n, na s k ≤ na s' k) → (∀ l ∈ p, l ∈ d.trs false) → d.run s p = some t → ∃ t', d'.run s' p = some t' ∧ ∀ k < d.n, na t k ≤ na t' k
  | [], s, s', t, _, _, hle, _, hr => by cases hr; exact ⟨s', rfl, hle⟩
  | l :: p, s, s', t, hs, hs', hle, hp, hr => by
    unfold Dsk.run at hr
    split at hr
    · cases hr
    · rename_i u hu
      obtain ⟨u', j1, j2⟩ := h.next hd hd' hs hs' hle (d.trs_lt (hp l (by simp))) hu
      have hlt := d'.trs_lt (h.trs (hp l (by simp)))
      obtain ⟨t', i1, i2⟩ := Les.run h hd hd' (d.next_inS hd hs (d.trs_lt (hp l (by simp))) hu) (d'.next_inS hd' hs' hlt j1) j2 (fun m hm => hp m (by simp [hm])) hr
      refine ⟨t', ?_, i2⟩
      unfold Dsk.run
      rw [j1]; exact i1
theorem kpt_pth {d : Dsk} (hd : d.ok) {s : HSt} (hs : d.inS s) {v : Int} (h : Kpt d s v) (n : Nat) : (∃ t c, d.pth n s t c) ↔ v = 1000000 ∨ (n : Int) ≤ v := by
  rw [← d.alive_iff hd hs]
  rcases h with ⟨rfl, h1⟩ | ⟨j, hj, rfl, h1, h2⟩
  · exact ⟨fun _ => .inl rfl, fun _ => h1 n⟩
  · constructor
    · intro h3
      right
      rcases Nat.lt_or_ge j n with h4 | h4
      · exact absurd (d.alive_le (by omega) h3) h2
      · omega
    · rintro (h3 | h3)
      · omega
      · exact d.alive_le (by omega) h1
theorem kpt_nn {d : Dsk} {s : HSt} {v : Int} (h : Kpt d s v) : 0 ≤ v ∧ (v = 1000000 ∨ v ≤ 14641) := by
  rcases h with ⟨rfl, _⟩ | ⟨j, hj, rfl, _⟩ <;> omega
theorem kpt_le {d d' : Dsk} (hd : d.ok) (hd' : d'.ok) {s s' : HSt} (hs : d.inS s) (hs' : d'.inS s') (hp : ∀ n, (∃ t c, d.pth n s t c) → ∃ t c, d'.pth n s' t c) {v v' : Int} (h : Kpt d s v) (h' : Kpt d' s' v') : v ≤ v' ∧ (v = 1000000 → v' = 1000000) := by
  have n1 := kpt_nn h; have n2 := kpt_nn h'
  have key : ∀ n : Nat, (v = 1000000 ∨ (n : Int) ≤ v) → (v' = 1000000 ∨ (n : Int) ≤ v') := fun n hn => (kpt_pth hd' hs' h' n).1 (hp n ((kpt_pth hd hs h n).2 hn))
  rcases Int.lt_or_le v' 1000000 with h1 | h1
  · have h2 := key (v'.toNat + 1)
    have h3 := key v.toNat
    omega
  · omega
theorem Les.kpt {d d' : Dsk} (h : Les d d') (hd : d.ok) (hd' : d'.ok) {s s' : HSt} (hs : d.inS s) (hs' : d'.inS s') (hle : ∀ k < d.n, na s k ≤ na s' k) {v v' : Int} (hv : Kpt d s v) (hv' : Kpt d' s' v') : v ≤ v' ∧ (v = 1000000 → v' = 1000000) :=
  kpt_le hd hd' hs hs' (fun _ ⟨_, c, hp⟩ => by obtain ⟨t', i, _⟩ := h.pth hd hd' hs hs' hle hp; exact ⟨t', c, i⟩) hv hv'
theorem Les.few {d d' : Dsk} (h : Les d d') (hd : d.ok) (hd' : d'.ok) {s s' : HSt} (hs : d.inS s) (hs' : d'.inS s') (hle : ∀ k < d.n, na s k ≤ na s' k) {n c c' : Nat} (hc : FewC d s n c) (hc' : FewC d' s' n c') : c' ≤ c := by
  obtain ⟨t, ht⟩ := hc.is
  obtain ⟨t', i, _⟩ := h.pth hd hd' hs hs' hle ht
  exact hc'.le _ _ i
structure PlnOk (b : Barn) (n c : Nat) (p : List (List Nat)) : Prop where
  few : FewC b.dsk b.state n c
  len : p.length = n
  trs : ∀ l ∈ p, l ∈ b.dsk.trs false
  run : ∃ t, b.dsk.run b.state p = some t
  sum : turnsN p = c
theorem plan_facts {b : Barn} (hok : b.ok) (hck : b.check = 0) {n : Nat} (hn : n ≤ 20) : (planE b n = 6 ∧ turnsV b n = 0 ∧ ¬ ∃ t c, b.dsk.pth n b.state t c) ∨ ∃ (c : Nat) (p : List (List Nat)), planE b n = 0 ∧ turnsV b n = c ∧ planLs b n = p.map il ∧ PlnOk b n c p := by
  have hin : inB (n : Int) 0 20 = true := by simp [inB]; omega
  have he : planE b n = bif (bestT b.dsk (mday b.dsk b.state n) b.dsk.nst).isNone then 6 else 0 := by
    unfold planE; rw [decide_eq_true hck, hin, Int.toNat_natCast]; rfl
  rcases best_few (b.dsk_ok hok) (b.state_inS hok) n with ⟨h1, h2⟩ | ⟨s, c, h1, h2, h3, h4, h5, h6⟩
  · have e6 : planE b n = 6 := by rw [he, h1]; rfl
    exact .inl ⟨e6, by unfold turnsV; rw [e6]; rfl, h2⟩
  · have e0 : planE b n = 0 := by rw [he, h1]; rfl
    refine .inr ⟨c, backP b.dsk b.state n s, e0, by unfold turnsV; rw [e0, Int.toNat_natCast, h1]; rfl, by unfold planLs; rw [Int.toNat_natCast, h1]; rfl, h2, h3, h4, ⟨s, h5⟩, h6⟩
def lenS (p : List (List Int)) : Nat := (p.map List.length).sum
theorem lenS_il (p : List (List Nat)) : lenS (p.map il) = turnsN p := by
  unfold lenS turnsN
  rw [List.map_map]
  congr 1
  exact List.map_congr_left fun l _ => il_len l
theorem longP_of {p : List (List Int)} (h : p.length ≤ 24) (hl : ∀ l ∈ p, l.length ≤ 8) : longP p = false := by
  unfold longP
  rw [decide_eq_false (by omega), Bool.false_or, List.any_eq_false]
  intro l hm
  have := hl l hm
  simp; omega
structure PlnLaw (b : Barn) (n : Nat) (c : Int) (p : List (List Int)) : Prop where
  len : p.length = n
  long : longP p = false
  err : planErr b.bins.length b.gangs p = 0
  sum : (lenS p : Int) = c
  burn : brnQ b p = (0, 0, false)
  few : 0 ≤ c ∧ c ≤ 80
theorem PlnOk.law {b : Barn} (hok : b.ok) {n c : Nat} {p : List (List Nat)} (hn : n ≤ 20) (h : PlnOk b n c p) : PlnLaw b n c (p.map il) := by
  have hlt : ∀ l ∈ p, ∀ k ∈ l, k < b.bins.length := fun l hl => b.dsk.trs_lt (h.trs l hl)
  refine ⟨by rw [List.length_map]; exact h.len, longP_of (by rw [List.length_map, h.len]; omega) (fun l hl => ?_), plan_of_trs (d := b.dsk) (by rw [h.len]; omega) h.trs, by rw [lenS_il, h.sum], ?_, ?_⟩
  · obtain ⟨m, hm, rfl⟩ := List.mem_map.1 hl
    have := b.dsk.trs_four (b.dsk_ok hok) (h.trs m hm)
    rw [il_len]; omega
  · obtain ⟨t, ht⟩ := h.run
    rcases Barn.run_burns hok p b.warms 0 (Cool.start hok) hlt with ⟨ws, h1, _⟩ | ⟨x, ws, _, h4⟩
    · exact brn_none (by rw [h1])
    · rw [Barn.stw_warms hok, ht] at h4; cases h4
  · obtain ⟨t, ht⟩ := h.few.is
    have := b.dsk.pth_le (b.dsk_ok hok) ht
    omega
end Go.Proofs.YtelegnmfhjfbaaaGreat
namespace Go.Proofs.YtelegnmfhjfbaaaGreat
set_option linter.unusedSimpArgs false
set_option linter.unusedVariables false
open Go
theorem cal37 : cal Tryz.prog 37 = true := by kernel_rfl
theorem cal38 : cal Tryz.prog 38 = true := by kernel_rfl
theorem cn65 : cellN Tryz.prog 65 = some 1 := by kernel_rfl
theorem fo94_0 : fOff Tryz.prog 94 0 = some 0 := by kernel_rfl
theorem pl94 : placeL Tryz.prog 94 = some [(0, 1)] := by kernel_rfl
theorem sc92 : scal Tryz.prog 92 = true := by kernel_rfl
theorem zl65 : zeroL Tryz.prog 65 = some ([.pointer none]) := by kernel_rfl
theorem zl94 : zeroL Tryz.prog 94 = some ([.nilFunc]) := by kernel_rfl
structure RndOk (b : Barn) (p q : List (List Nat)) : Prop where
  hp : ∀ l ∈ p, l ∈ b.dsk.trs true
  hq : ∀ l ∈ q, l ∈ b.dsk.trs true
  ne : q ≠ []
  len : p.length + q.length ≤ 14641
  run : ∃ u, b.dsk.run b.state p = some u ∧ b.dsk.run u q = some u
theorem Dsk.run_rep {d : Dsk} {u : HSt} {q : List (List Nat)} (h : d.run u q = some u) : ∀ n, d.run u (List.replicate n q).flatten = some u
  | 0 => rfl
  | n + 1 => by
    rw [List.replicate_succ, List.flatten_cons, d.run_app, h]
    exact run_rep h n
theorem RndOk.goes {b : Barn} (hb : b.ok) {p q : List (List Nat)} (h : RndOk b p q) : b.goes (p.map il) (q.map il) := fun n => by
  obtain ⟨u, h1, h2⟩ := h.run
  have e : p.map il ++ rep n (q.map il) = (p ++ (List.replicate n q).flatten).map il := by
    unfold rep
    rw [List.map_append, List.map_flatten, List.map_replicate]
  rw [e]
  have hr : b.dsk.run (b.stw b.warms) (p ++ (List.replicate n q).flatten) = some u := by
    rw [Barn.stw_warms hb, b.dsk.run_app, h1]
    exact Dsk.run_rep h2 n
  rcases Barn.run_burns hb (p ++ (List.replicate n q).flatten) b.warms 0 (Cool.start hb) (fun l hl k hk => by
    rcases List.mem_append.1 hl with hl | hl
    · exact b.dsk.trs_lt (h.hp l hl) k hk
    · obtain ⟨r, hr, hl⟩ := List.mem_flatten.1 hl
      rw [(List.mem_replicate.1 hr).2] at hl
      exact b.dsk.trs_lt (h.hq l hl) k hk) with ⟨ws, h3, _⟩ | ⟨x, ws, _, h4⟩
  · rw [h3]
  · rw [hr] at h4; cases h4
structure Met (d : Dsk) (s0 : HSt) (S : List HSt) (p : List (List Nat)) (s : HSt) : Prop where
  len : S.length = p.length
  nd : S.Nodup
  trs : ∀ l ∈ p, l ∈ d.trs true
  at_ : ∀ j t, S[j]? = some t → d.run s0 (p.take j) = some t ∧ d.inS t
  run : d.run s0 p = some s
  inS : d.inS s
  ever : ∀ m, s ∈ d.alive m
theorem Met.start {d : Dsk} {s : HSt} (h : d.inS s) (he : ∀ m, s ∈ d.alive m) : Met d s [] [] s := ⟨rfl, List.nodup_nil, by simp, by simp, rfl, h, he⟩
theorem Met.few {d : Dsk} (hd : d.ok) {s0 s : HSt} {S : List HSt} {p : List (List Nat)} (h : Met d s0 S p s) : S.length ≤ d.nst := by
  have := nodup_len h.nd (m := d.sts) fun t ht => by
    obtain ⟨j, hj⟩ := List.getElem?_of_mem ht
    exact (d.mem_sts hd t).2 (h.at_ j t hj).2
  rw [d.sts_len] at this
  exact this
theorem Met.next {d : Dsk} (hd : d.ok) {s0 s t : HSt} {S : List HSt} {p : List (List Nat)} (h : Met d s0 S p s) (hs : s ∉ S) {l : List Nat} (hl : l ∈ d.trs true) (hn : d.next s l = some t) (he : ∀ m, t ∈ d.alive m) : Met d s0 (S ++ [s]) (p ++ [l]) t where
  len := by rw [List.length_append, List.length_append, h.len]; rfl
  nd := List.nodup_append.2 ⟨h.nd, by simp, fun x hx y hy e => hs (by rw [← List.mem_singleton.1 hy, ← e]; exact hx)⟩
  trs m hm := by
    rcases List.mem_append.1 hm with hm | hm
    · exact h.trs m hm
    · rw [List.mem_singleton.1 hm]; exact hl
  at_ j u hu := by
    have hlen := h.len
    rcases Nat.lt_or_ge j S.length with hj | hj
    · rw [List.getElem?_append_left hj] at hu
      rw [List.take_append_of_le_length (by omega)]
      exact h.at_ j u hu
    · have hj2 := (List.getElem?_eq_some_iff.1 hu).1
      rw [List.length_append, List.length_singleton] at hj2
      obtain rfl : j = S.length := by omega
      rw [List.getElem?_append_right (Nat.le_refl _), Nat.sub_self] at hu
      cases hu
      rw [hlen, List.take_left]
      exact ⟨h.run, h.inS⟩
  run := by rw [d.run_app, h.run]; dsimp only; rw [d.run_one]; exact hn
  inS := d.next_inS hd h.inS (d.trs_lt hl) hn
  ever := he
theorem ever_next {d : Dsk} (hd : d.ok) {s : HSt} (h : ∀ m, s ∈ d.alive m) : ∃ l ∈ d.trs true, ∃ t, d.next s l = some t ∧ ∀ m, t ∈ d.alive m := by
  obtain ⟨l, hl, t, ht, hm⟩ := d.helped_iff.1 (d.alive_succ.1 (h (d.nst + 1))).2
  exact ⟨l, hl, t, ht, d.alive_ever (Nat.le_refl _) hm⟩
theorem Met.done {b : Barn} (hok : b.ok) {s : HSt} {S : List HSt} {p : List (List Nat)} (h : Met b.dsk b.state S p s) {j : Nat} (hj : S[j]? = some s) : RndOk b (p.take j) (p.drop j) := by
  have hjl := (List.getElem?_eq_some_iff.1 hj).1
  have hlen := h.len
  have hf := h.few (b.dsk_ok hok)
  have hn := (b.dsk.nst_le (b.dsk_ok hok)).2
  refine ⟨fun l hl => h.trs l (List.mem_of_mem_take hl), fun l hl => h.trs l (List.mem_of_mem_drop hl), fun e => ?_, ?_, s, (h.at_ j s hj).1, ?_⟩
  · have := congrArg List.length e
    rw [List.length_drop, List.length_nil] at this; omega
  · rw [List.length_take, List.length_drop]; omega
  · have h1 := h.run
    rw [← List.take_append_drop j p, b.dsk.run_app, (h.at_ j s hj).1] at h1
    exact h1
def KpF (m : Nat) (kv : KV) (w : World) : Prop := w.heap[m]? = some (mapO true kv)
theorem St.kpf {m : Nat} {kv : KV} {H : Heap} {R : Facts} {w : World} (h : St ((m, mapO true kv) :: H) R w) : St H (KpF m kv :: R) w := St.freeze h
theorem ever_of {d : Dsk} {n : Nat} {s : HSt} (hs : s ∈ d.sts) (hn : n ≤ 14641) (hf : d.alive (n + 1) = d.alive n) (h : d.lvl n s = 1000000) : ∀ m, s ∈ d.alive m := by
  rcases kpt_of hs hn hf with ⟨_, h1⟩ | ⟨j, hj, h1, _⟩
  · exact h1
  · omega
theorem lvl_ever {d : Dsk} {n : Nat} {s : HSt} (hs : s ∈ d.sts) (hn : n ≤ 14641) (hf : d.alive (n + 1) = d.alive n) (h : ∀ m, s ∈ d.alive m) : d.lvl n s = 1000000 := kpt_unique (kpt_of hs hn hf) (.inl ⟨rfl, h⟩)
def Dsk.goodL (d : Dsk) (n : Nat) (s : HSt) (l : List Nat) : Bool := match d.next s l with
  | some t => decide (d.lvl n t = 1000000)
  | none => false
theorem good_any {d : Dsk} (hd : d.ok) {n : Nat} {s : HSt} (hs : d.inS s) (hn : n ≤ 14641) (hf : d.alive (n + 1) = d.alive n) (h : ∀ m, s ∈ d.alive m) : (d.trs true).any (d.goodL n s) = true := by
  obtain ⟨l, hl, t, ht, he⟩ := ever_next hd h
  refine List.any_eq_true.2 ⟨l, hl, ?_⟩
  unfold Dsk.goodL
  rw [ht]
  exact decide_eq_true (lvl_ever ((d.mem_sts hd t).2 (d.next_inS hd hs (d.trs_lt hl) ht)) hn hf he)
def kvI : Nat → List HSt → KV
  | _, [] => []
  | i, s :: l => (s, .int .i64 (i : Int)) :: kvI (i + 1) l
theorem kvI_len : ∀ {l : List HSt} {i : Nat}, (∀ s ∈ l, s.length = 4) → ∀ e ∈ kvI i l, e.1.length = 4
  | [], _, _, e, he => by cases he
  | s :: l, i, h, e, he => by
    rcases List.mem_cons.1 he with rfl | he
    · exact h s (by simp)
    · exact kvI_len (fun t ht => h t (by simp [ht])) e he
theorem kvI_put : ∀ {l : List HSt} {i : Nat} {s : HSt}, s ∉ l → (kvI i l).put s (.int .i64 ((i + l.length : Nat) : Int)) = kvI i (l ++ [s])
  | [], i, s, _ => rfl
  | t :: l, i, s, h => by
    have hne : ¬ t = s := fun e => h (by simp [e])
    have ih := kvI_put (l := l) (i := i + 1) (s := s) (fun hm => h (by simp [hm]))
    show KV.put ((t, Value.int .i64 (i : Int)) :: kvI (i + 1) l) s _ = (t, Value.int .i64 (i : Int)) :: kvI (i + 1) (l ++ [s])
    unfold KV.put
    rw [decide_eq_false hne, cond_false, List.length_cons, show i + (l.length + 1) = i + 1 + l.length by omega, ih]
theorem kvI_get : ∀ {l : List HSt} {i : Nat} {s : HSt} {v : Value}, (kvI i l).get s = some v → ∃ j : Nat, l[j]? = some s ∧ v = .int .i64 ((i + j : Nat) : Int)
  | [], _, _, _, h => by cases h
  | t :: l, i, s, v, h => by
    unfold KV.get kvI at h
    rw [List.find?_cons] at h
    dsimp only at h
    by_cases e : t = s
    · rw [decide_eq_true e] at h
      cases h
      exact ⟨0, by rw [e]; rfl, rfl⟩
    · rw [decide_eq_false e] at h
      obtain ⟨j, h1, h2⟩ := kvI_get (l := l) (i := i + 1) (s := s) (v := v) h
      exact ⟨j + 1, h1, by rw [h2]; congr 2; omega⟩
theorem kvI_no : ∀ {l : List HSt} {i : Nat} {s : HSt}, (kvI i l).get s = none → s ∉ l
  | [], _, _, _ => by simp
  | t :: l, i, s, h => by
    unfold KV.get kvI at h
    rw [List.find?_cons] at h
    dsimp only at h
    by_cases e : t = s
    · rw [decide_eq_true e] at h; cases h
    · rw [decide_eq_false e] at h
      have ih := kvI_no (l := l) (i := i + 1) (s := s) h
      intro hm
      rcases List.mem_cons.1 hm with h1 | h1
      · exact e h1.symm
      · exact ih h1
theorem PE.slHM {P : Program} {L : Slots} {d : Option Tmp} {ty : TypeId} {pos : String} {af : Array Edge} {g : Option (Nat × Bool)} {T e s : Nat} {x y q : Operand} {a : Option Addr} {len cap h mx : Nat} {k k3 : IntKind} (hT : slE P T = some (e, s)) (hx : ev L x = some (.slice a len cap)) (hy : ev L y = some (.int k h)) (hq : ev L q = some (.int k3 mx)) (hh : h ≤ mx) (hm : mx ≤ cap) :
    PE P L ⟨d, .slice T x none (some y) (some q), ty, pos, af, g⟩ (.slice a h mx) := fun ρ hρ w => by
  obtain ⟨i, hu, hi, rfl⟩ := slE_und hT
  have hb : ∀ c w, (Instr.sliceBound (.int k3 (mx : Int)) cap c).run P w = .ok mx w := fun c w => by rw [run_bound (by omega)]; simp
  have hb1 : ∀ c w, (Instr.sliceBound (.int k (h : Int)) mx c).run P w = .ok h w := fun c w => by rw [run_bound (by omega)]; simp
  have e1 : (if mx = 0 then a else a.map (·.add (0 * i.size))) = a := by
    have : a.map (·.add (0 * i.size)) = a := by
      cases a with
      | none => rfl
      | some ad => simp [Addr.add]
    rw [this]; split <;> rfl
  simp only [execOp, hρ _ _ hx, hρ _ _ hy, hρ _ _ hq, Option.map_none, Option.map_some, Instr.sliceAt, Instr.slice, Sem.run_bind, run_underlying hu, Result.andThen, Sem.run_pure, Instr.sliceBounds, hb, hb1, sizeOf, typeInfo, program, hi, Sem.run]
  rw [e1]; simp
theorem rows_cut {b off sz : Nat} {rows : List (List Value)} {w : World} (h : RowsA (some ⟨b, off, none⟩) sz rows w) (j : Nat) : RowsA (some ⟨b, off + j * sz, none⟩) sz (rows.drop j) w := fun i row hi => by
  rw [List.getElem?_drop] at hi
  obtain ⟨h1, b', o', he, h2⟩ := h (j + i) row hi
  cases he
  refine ⟨h1, b, off + j * sz, rfl, fun k x hx => ?_⟩
  have := h2 k x hx
  rw [show off + (j + i) * sz + k = off + j * sz + i * sz + k by rw [Nat.add_mul]; omega] at this
  exact this
theorem St.rowsDrop {b off sz : Nat} {rows : List (List Value)} {H : Heap} {R : Facts} {w : World} [m : MemRows (some ⟨b, off, none⟩) sz rows R] (h : St H R w) (n : Nat) : St H (RowsA (some ⟨b, off + n * sz, none⟩) sz (rows.drop n) :: R) w := h.also fun _ hg => rows_cut (hg _ m.mem) n
theorem Inn.sub {l k : List PL} (h : ∀ x ∈ k, x ∈ l) {w : World} (hi : Inn l w) : Inn k w := fun x hx => hi x (h x hx)
theorem St.innPart {l : List PL} {H : Heap} {R : Facts} {w : World} [m : MemF (Inn l) R] (h : St H R w) (k : List PL) (hk : ∀ x ∈ k, x ∈ l) : St H (Inn k :: R) w := h.also fun _ hg => Inn.sub hk (hg _ m.mem)
def RoundQ (b : Barn) (H : Heap) (R : Facts) : Value → Heap → Facts → Prop := fun v H' R' => H' = H ∧
  ((b.check ≠ 0 ∧ v = .tuple #[.slice none 0 0, .slice none 0 0, .int .i64 b.check] ∧ R' = R) ∨
   (b.check = 0 ∧ (∃ w, w ≠ 1000000 ∧ Kpt b.dsk b.state w) ∧ v = .tuple #[.slice none 0 0, .slice none 0 0, .int .i64 6] ∧ R' = R) ∨
   (b.check = 0 ∧ Kpt b.dsk b.state 1000000 ∧ ∃ (p q : List (List Nat)) (pl ql : List PL) (ap aq : Option Addr) (cp cq : Nat), RndOk b p q ∧ lls pl = p.map il ∧ lls ql = q.map il ∧ v = .tuple #[.slice ap pl.length cp, .slice aq ql.length cq, .int .i64 0] ∧
      R' = RowsA ap 1 (plrows pl) :: Inn pl :: RowsA aq 1 (plrows ql) :: Inn ql :: R))
theorem c_Round1 (b : Barn) (hok : b.ok) (ab : Option Addr) (cb bd m : Nat) (n : Nat) (hn : n ≤ 14641) (kv : KV) (hkv : KvOk b.dsk n kv) (x5 : Nat) (t : HSt) (ht : t ∈ b.dsk.sts) (H : Heap) (R : Facts) [hD : MemRows (some ⟨bd, 0, none⟩) 18 [dcs b (b.sl ab cb) b.lasts b.most m] R] [hX : MemRows (some ⟨x5, 0, none⟩) 1 [[.pointer (some ⟨bd, 0, none⟩)]] R] [hK : MemF (KpF m kv) R] :
    FnV Tryz.prog 38 [stv t, .pointer (some ⟨x5, 0, none⟩)] H R (.bool (decide (b.dsk.lvl n t = 1000000))) := by
 have hdk := b.dsk_ok hok
 have hti := (b.dsk.mem_sts hdk t).1 ht
 have hl4 := hdk.lasts.len
 have hm4 := hdk.most.len
 refine fn_of Tryz.func38 rfl Tryz.ntmps38 rfl ?_
 refine sy_seq ?_
 refine sy_tx' [0, 1] rfl ?_
 refine bx rfl rfl rfl (fun b2 => ?_)
 refine sp rfl (PE.assign rfl) rfl ?_
 refine sy_seq ?_
 refine sy_draw [0, 1, 3, 7, 0, 31, 63, 127] (.ld 0 (.tk 1 (.tk 2 (.ld 3 (.ld 4 (.ld 5 (.tk 6 (.tk 7 .done)))))))) mixed (by kernel_rfl) ?_
 refine ld rfl rfl (lfB (sz := 1) sc65 rfl) rfl ?_
 refine tk rfl (PE.nilCheck rfl) rfl ?_
 refine tk rfl (PE.fieldAddr fo72_3 rfl) rfl ?_
 refine ld rfl rfl (lfB (sz := 18) sc70 (dcs_map hl4 hm4)) rfl ?_
 refine ld rfl rfl (lhA (rest := []) (ints t) ag69 rfl (by rw [List.append_nil]; rfl) (by rw [ints_length]; exact hti.len)) rfl ?_
 refine ldK rfl rfl rfl (lk_fact (b := true) kv t mke70 (KeyT.of eqf69 noa69) (run_zv zv3) hti.len hkv.len (fun w hs => hs.now hK.mem) false) rfl ?_
 rw [hkv.get t ht]
 refine tk rfl (PE.eql rfl rfl) rfl ?_
 refine tk rfl (PE.assign rfl) rfl ?_
 refine sy_ret ?_
 exact sy_return (vs := [_]) rfl (.cons (RV.tmp rfl) .nil) rfl ⟨rfl, rfl, rfl⟩ (fun w h => h.del b2)
theorem c_turn (b : Barn) (hok : b.ok) (ab : Option Addr) (cb bd m : Nat) (n : Nat) (hn : n ≤ 14641) (kv : KV) (hkv : KvOk b.dsk n kv) (x5 : Nat) (hfx : b.dsk.alive (n + 1) = b.dsk.alive n) (s : HSt) (hs : s ∈ b.dsk.sts) (hev : ∀ m, s ∈ b.dsk.alive m) (H : Heap) (R : Facts) [hD : MemRows (some ⟨bd, 0, none⟩) 18 [dcs b (b.sl ab cb) b.lasts b.most m] R] [hX : MemRows (some ⟨x5, 0, none⟩) 1 [[.pointer (some ⟨bd, 0, none⟩)]] R] [hK : MemF (KpF m kv) R] :
    Fn Tryz.prog 37 [.pointer (some ⟨bd, 0, none⟩), stv s, .agg #[.func (.func 38) #[] #[.pointer (some ⟨x5, 0, none⟩)]]] H R (fun v H' R' => ∃ (l : List Nat) (t : HSt) (a : Option Addr) (c : Nat), l ∈ b.dsk.trs true ∧ b.dsk.next s l = some t ∧ (∀ m, t ∈ b.dsk.alive m) ∧ v = .tuple #[.slice a l.length c, stv t, .bool true] ∧ H' = H ∧ R' = RowsA a 1 (irows (il l)) :: R) := by
 refine fnM_of Tryz.func37 rfl Tryz.ntmps37 rfl ?_
 refine sy_seq ?_
 refine sy_tx' [0, 1, 2, 3, 4, 5] rfl ?_
 refine bx rfl rfl rfl (fun b3 => ?_)
 refine bx rfl rfl rfl (fun b4 => ?_)
 refine bx rfl rfl rfl (fun b5 => ?_)
 refine alc rfl zl22 rfl (fun b6 => ?_)
 refine alc rfl zl69 rfl (fun b7 => ?_)
 refine alc rfl zl4 rfl (fun b8 => ?_)
 refine sy_seq ?_
 refine sy_seq ?_
 refine sy_tx' [0, 1] rfl ?_
 refine spL rfl rfl (lh sc65 rfl rfl) rfl ?_
 refine cl rfl cal29 rfl rfl (c_turnings bd true _ _) ?_
 rintro _ _ _ ⟨xb, xf, rfl, rfl, rfl⟩
 have hdk := b.dsk_ok hok
 have hsi := (b.dsk.mem_sts hdk s).1 hs
 have hsm := b.dsk.inS_sml hdk hsi
 have hl4 := hdk.lasts.len
 have hm4 := hdk.most.len
 refine sy_block ?_
 refine sy_range rfl cal81 (fun c0 bl0 bd0 hcp0 hca0 hcb0 hck0 => ?_)
 refine ⟨fun st pend T R' => (st = .ready ∧ pend = none ∧ (b.dsk.trs true).any (b.dsk.goodL n s) = false ∧ T = (bd0, .deferred (some [])) :: (b8, cel 4 [.bool false]) :: (b7, cel 69 [.int .i64 0, .int .i64 0, .int .i64 0, .int .i64 0]) :: (b6, cel 22 [.slice none 0 0]) :: (b5, cel 94 [.func (.func 38) #[] #[.pointer (some ⟨x5, 0, none⟩)]]) :: (b4, cel 69 (ints s)) :: (b3, cel 65 [.pointer (some ⟨bd, 0, none⟩)]) :: H ∧ R' = RowsA (some ⟨xf, 0, none⟩) 1 [[.bool true]] :: RowsA (some ⟨xb, 0, none⟩) 1 [[.pointer (some ⟨bd, 0, none⟩)]] :: R) ∨
     (st = .done ∧ pend = some .ret ∧ ∃ (l : List Nat) (t : HSt) (a : Option Addr) (c : Nat), l ∈ b.dsk.trs true ∧ b.dsk.next s l = some t ∧ (∀ m, t ∈ b.dsk.alive m) ∧ T = (bd0, .deferred (some [])) :: (b8, cel 4 [.bool true]) :: (b7, cel 69 (ints t)) :: (b6, cel 22 [.slice a l.length c]) :: (b5, cel 94 [.func (.func 38) #[] #[.pointer (some ⟨x5, 0, none⟩)]]) :: (b4, cel 69 (ints s)) :: (b3, cel 65 [.pointer (some ⟨bd, 0, none⟩)]) :: H ∧ R' = RowsA a 1 (irows (il l)) :: RowsA (some ⟨xf, 0, none⟩) 1 [[.bool true]] :: RowsA (some ⟨xb, 0, none⟩) 1 [[.pointer (some ⟨bd, 0, none⟩)]] :: R),
   Fn.mono (c_turnings1 b hok ab cb bd m true xb xf bl0 (fun k H' R' => (∀ i l, i < k → (b.dsk.trs true)[i]? = some l → b.dsk.goodL n s l = false) ∧ H' = (bl0, lob c0 .ready none) :: (bd0, .deferred (some [])) :: (b8, cel 4 [.bool false]) :: (b7, cel 69 [.int .i64 0, .int .i64 0, .int .i64 0, .int .i64 0]) :: (b6, cel 22 [.slice none 0 0]) :: (b5, cel 94 [.func (.func 38) #[] #[.pointer (some ⟨x5, 0, none⟩)]]) :: (b4, cel 69 (ints s)) :: (b3, cel 65 [.pointer (some ⟨bd, 0, none⟩)]) :: H ∧ R' = RowsA (some ⟨xf, 0, none⟩) 1 [[.bool true]] :: RowsA (some ⟨xb, 0, none⟩) 1 [[.pointer (some ⟨bd, 0, none⟩)]] :: R)
     (fun H' R' => ∃ (l : List Nat) (t : HSt) (a : Option Addr) (c : Nat), l ∈ b.dsk.trs true ∧ b.dsk.next s l = some t ∧ (∀ m, t ∈ b.dsk.alive m) ∧ H' = (bl0, lob c0 .done (some .ret)) :: (bd0, .deferred (some [])) :: (b8, cel 4 [.bool true]) :: (b7, cel 69 (ints t)) :: (b6, cel 22 [.slice a l.length c]) :: (b5, cel 94 [.func (.func 38) #[] #[.pointer (some ⟨x5, 0, none⟩)]]) :: (b4, cel 69 (ints s)) :: (b3, cel 65 [.pointer (some ⟨bd, 0, none⟩)]) :: H ∧ R' = RowsA a 1 (irows (il l)) :: RowsA (some ⟨xf, 0, none⟩) 1 [[.bool true]] :: RowsA (some ⟨xb, 0, none⟩) 1 [[.pointer (some ⟨bd, 0, none⟩)]] :: R)
     (fun k H' R' h => by obtain ⟨_, _, rfl⟩ := h; exact ⟨by simp, by simp, List.mem_cons_of_mem _ (List.mem_cons_of_mem _ hD.mem)⟩) (fun k l a c H' R' hk hI => ?_) _ _ ⟨fun _ _ h => absurd h (Nat.not_lt_zero _), rfl, rfl⟩) (fun v H' R' h => ?_), ?_⟩
 rotate_left
 · rcases h with ⟨hn, rfl, rfl⟩ | ⟨l, t, a, c, h1, h2, h3, rfl, rfl⟩
   · exact ⟨.ready, none, _, by simp, .refl _, .inl ⟨rfl, rfl, any_no hn, rfl, rfl⟩⟩
   · exact ⟨.done, some .ret, _, by simp, .refl _, .inr ⟨rfl, rfl, l, t, a, c, h1, h2, h3, rfl, rfl⟩⟩
 rotate_left
 have hlm := List.mem_of_getElem? hk
 have hlt := b.dsk.trs_lt hlm
 have hll : l.length ≤ 1000000 := by have := trs_len4 hdk hlm; omega
 obtain ⟨hno, rfl, rfl⟩ := hI
 refine yd_of hcp0 hca0 hcb0 hck0 rfl ?_
 refine sy_tx' [0] rfl ?_
 refine sp rfl (PE.assign rfl) rfl ?_
 refine sy_beginRound ?_
 refine sy_block ?_
 refine sy_seq ?_
 refine sy_tx' [0, 1, 2, 3, 4, 5, 6, 7, 8, 9] rfl ?_
 refine spL rfl rfl (lh sc65 rfl rfl) rfl ?_
 refine spL rfl rfl (lhA (rest := []) (ints s) ag69 rfl (by rw [List.append_nil]; rfl) (by rw [ints_length]; exact hsi.len)) rfl ?_
 refine sp rfl (PE.move rfl) rfl ?_
 refine cl rfl cal30 rfl rfl (c_next b hok ab cb bd m s hsm l hlt hll a c _ _) ?_
 rintro _ _ _ ⟨rfl, rfl, rfl⟩
 rcases hnx : b.dsk.next s l with _ | t
 refine sp rfl (PE.move rfl) rfl ?_
 refine sp rfl (PE.extract rfl rfl) rfl ?_
 refine sp rfl (PE.extract rfl rfl) rfl ?_
 refine alc rfl zl69 rfl (fun b10 => ?_)
 first | (refine stoA rfl rfl rfl cn69 rfl rfl rfl (ints_one _) ?_) | (refine stoA rfl rfl rfl cn69 rfl (by rw [ints_length]; exact hts.len) rfl (ints_one _) ?_)
 refine sp rfl (PE.assign rfl) rfl ?_
 refine sy_seq ?_
 refine sy_tx' [0, 1, 2, 3, 4, 5, 6] rfl ?_
 have hno2 : b.dsk.goodL n s l = false := by simp only [Dsk.goodL, hnx]
 refine sp rfl (PE.move rfl) rfl ?_
 refine sp rfl (PE.move rfl) rfl ?_
 repeat refine spN rfl rfl rfl rfl rfl rfl rfl rfl ?_
 refine sp rfl (PE.pick rfl rfl rfl) rfl ?_
 refine sy_condF rfl ?_
 refine sy_skip ?_
 exact sy_roundOn (.inl ⟨rfl, no_more hk hno hno2, rfl, rfl⟩) (fun _ h => (h.del b10).ftail)
 refine sp rfl (PE.move rfl) rfl ?_
 refine sp rfl (PE.extract rfl rfl) rfl ?_
 have hts := b.dsk.next_inS hdk hsi hlt hnx
 have htm := (b.dsk.mem_sts hdk t).2 hts
 refine sp rfl (PE.extract rfl rfl) rfl ?_
 refine alc rfl zl69 rfl (fun b10 => ?_)
 first | (refine stoA rfl rfl rfl cn69 rfl rfl rfl (ints_one _) ?_) | (refine stoA rfl rfl rfl cn69 rfl (by rw [ints_length]; exact hts.len) rfl (ints_one _) ?_)
 refine sp rfl (PE.assign rfl) rfl ?_
 refine sy_seq ?_
 refine sy_tx' [0, 1, 2, 3, 4, 5, 6] rfl ?_
 refine sp rfl (PE.move rfl) rfl ?_
 refine sp rfl (PE.move rfl) rfl ?_
 refine spG rfl rfl rfl rfl (PE.fieldAddr fo94_0 rfl) rfl ?_
 refine spLG rfl rfl rfl rfl rfl (lh sc92 rfl rfl) rfl ?_
 refine spLG rfl rfl rfl rfl rfl (lhA (rest := []) (ints t) ag69 rfl (by rw [List.append_nil]; rfl) (by rw [ints_length]; exact hts.len)) rfl ?_
 refine clFVG rfl rfl rfl rfl rfl (cal38) rfl rfl (c_Round1 b hok ab cb bd m n hn kv hkv x5 t htm _ _) ?_
 refine sp rfl (PE.pick rfl rfl rfl) rfl ?_
 refine sy_cond rfl (fun hc0 => ?_) (fun hc0 => ?_)
 try simp only [decide_eq_true_eq, decide_eq_false_iff_not, Bool.and_eq_true, Bool.or_eq_true, Bool.not_eq_true', Int.not_le, Int.not_lt] at hc0
 have hgo : ∀ m, t ∈ b.dsk.alive m := ever_of htm hn hfx hc0
 refine sy_seq ?_
 refine sy_draw [0, 0, 1, 7, 15] (.tk 0 (.ld 1 (.big 2 (.big 3 (.big 4 .done))))) mixed (by kernel_rfl) ?_
 refine tk rfl (PE.move rfl) rfl ?_
 refine ld rfl rfl (lhA (rest := []) (ints t) ag69 rfl (by rw [List.append_nil]; rfl) (by rw [ints_length]; exact hts.len)) rfl ?_
 refine sto rfl rfl rfl cn22 rfl rfl rfl rfl ?_
 refine bg (fun w hs => ⟨(lhA (rest := []) (ints t) ag69 rfl (by rw [List.append_nil]; rfl) (by rw [ints_length]; exact hts.len)) w hs, trivial⟩) ?_
 refine stoA rfl rfl rfl cn69 rfl (by rw [ints_length]; exact hts.len) rfl (ints_one _) ?_
 refine bg (fun w hs => ⟨trivial, trivial⟩) ?_
 refine sto rfl rfl rfl cn4 rfl rfl rfl rfl ?_
 refine bg (fun w hs => trivial) ?_
 refine sy_ret ?_
 exact sy_roundRet (.inr ⟨rfl, l, t, a, c, hlm, hnx, hgo, rfl, rfl⟩) (fun _ h => h.del b10)
 try simp only [decide_eq_true_eq, decide_eq_false_iff_not, Bool.and_eq_true, Bool.or_eq_true, Bool.not_eq_true', Int.not_le, Int.not_lt] at hc0
 have hno2 : b.dsk.goodL n s l = false := by simp only [Dsk.goodL, hnx]; exact decide_eq_false hc0
 refine sy_skip ?_
 exact sy_roundOn (.inl ⟨rfl, no_more hk hno hno2, rfl, rfl⟩) (fun _ h => (h.del b10).ftail)
 rintro _ _ _ _ (⟨rfl, rfl, hh, rfl, rfl⟩ | ⟨rfl, rfl, l, t, a, c, hlm, hnx, hgo, rfl, rfl⟩)
 refine sy_jn ?_
 refine sy_seq ?_
 exfalso
 rw [good_any hdk hsi hn hfx hev] at hh
 cases hh
 refine sy_jc ?_
 refine sy_ret ?_
 have hts := b.dsk.next_inS hdk hsi (b.dsk.trs_lt hlm) hnx
 exact sy_returnM [bd0] (fun _ h => h) rfl (.cons (RV.cell rfl (lh sc22 rfl rfl)) (.cons (RV.cell rfl (lhA (rest := []) (ints t) ag69 rfl (by rw [List.append_nil]; rfl) (by rw [ints_length]; exact hts.len))) (.cons (RV.cell rfl (lh sc4 rfl rfl)) .nil))) rfl ⟨l, t, a, c, hlm, hnx, hgo, rfl, rfl, rfl⟩ (fun w h => ((((((h.del b8).del b7).del b6).del b5).del b4).del b3).facts (fun g hg => by rcases List.mem_cons.1 hg with hg | hg <;> simp [hg]))
theorem c_Round (b : Barn) (ab : Option Addr) (cb : Nat) (hl : b.bins.length ≤ 9223372036854775807) (hr : b.rise.length = 6) (H : Heap) (R : Facts) [hB : MemRows ab 4 (brows b.bins) R] :
    Fn Tryz.prog 9 [b.v (b.sl ab cb)] H R (RoundQ b H R) := by
 refine fn_of Tryz.func9 rfl Tryz.ntmps9 rfl ?_
 refine sy_seq ?_
 refine sy_tx' [0, 1, 2, 3] rfl ?_
 refine bx rfl rfl rfl (fun b1 => ?_)
 refine sp rfl (PE.assign rfl) rfl ?_
 refine sp rfl (PE.assign rfl) rfl ?_
 refine sp rfl (PE.assign rfl) rfl ?_
 refine sy_seq ?_
 refine sy_tx' [0, 1, 2, 3, 4, 5, 6, 7] rfl ?_
 refine spL rfl rfl (lhA (btl b (b.sl ab cb)) ag27 rfl rfl rfl) rfl ?_
 refine cl rfl cal24 rfl rfl (c_opened b ab cb hl hr _ _) ?_
 rintro _ _ _ (⟨hck, rfl, rfl, rfl⟩ | ⟨hck, bd, m, rfl, rfl, rfl⟩)
 refine sp rfl (PE.move rfl) rfl ?_
 refine sp rfl (PE.extract rfl rfl) rfl ?_
 refine sp rfl (PE.extract rfl rfl) rfl ?_
 refine alc rfl zl65 rfl (fun b5 => ?_)
 refine sto rfl rfl rfl cn65 rfl rfl rfl rfl ?_
 refine sp rfl (PE.assign rfl) rfl ?_
 refine sy_seq ?_
 refine sy_seq ?_
 refine sy_tx' [0, 1] rfl ?_
 refine sp rfl (PE.move rfl) rfl ?_
 refine sp rfl (PE.neq rfl rfl) rfl ?_
 refine sy_condT (congrArg (fun b => some (Value.bool b)) (decide_eq_true hck)) ?_
 refine sy_seq ?_
 refine sy_tx' [0, 1, 2, 3] rfl ?_
 refine sp rfl (PE.move rfl) rfl ?_
 refine sp rfl (PE.assign rfl) rfl ?_
 refine sp rfl (PE.assign rfl) rfl ?_
 refine sp rfl (PE.assign rfl) rfl ?_
 refine sy_ret ?_
 exact sy_return (vs := [_, _, _]) rfl (.cons (RV.tmp rfl) (.cons (RV.tmp rfl) (.cons (RV.tmp rfl) .nil))) rfl ⟨rfl, .inl ⟨hck, rfl, rfl⟩⟩ drp
 have hok := Barn.ok_of hr hck
 have hdk := b.dsk_ok hok
 have hl4 := hdk.lasts.len
 have hm4 := hdk.most.len
 refine sp rfl (PE.move rfl) rfl ?_
 refine sp rfl (PE.extract rfl rfl) rfl ?_
 refine sp rfl (PE.extract rfl rfl) rfl ?_
 refine alc rfl zl65 rfl (fun b5 => ?_)
 refine sto rfl rfl rfl cn65 rfl rfl rfl rfl ?_
 refine sp rfl (PE.assign rfl) rfl ?_
 refine sy_seq ?_
 refine sy_seq ?_
 refine sy_tx' [0, 1] rfl ?_
 refine sp rfl (PE.move rfl) rfl ?_
 refine sp rfl (PE.neq rfl rfl) rfl ?_
 refine sy_condF (rfl) ?_
 refine sy_skip ?_
 refine sy_seq ?_
 refine sy_tx' [0, 1] rfl ?_
 refine spL rfl rfl (lh sc65 rfl rfl) rfl ?_
 refine sy_pull m ?_
 refine cl rfl cal25 rfl rfl (c_work b hok ab cb bd m _ _) ?_
 rintro v _ _ ⟨n, kv, hn, hfx, hkv, rfl, rfl⟩
 have hst := b.state_sts hok
 have hsi := b.state_inS hok
 have hks := kpt_of hst hn hfx
 have hkg := hkv.get _ hst
 refine sy_seq ?_
 refine sy_tx' [0, 1, 2, 3] rfl ?_
 refine spL rfl rfl (lhA (btl b (b.sl ab cb)) ag27 rfl rfl rfl) rfl ?_
 refine clV rfl cal26 rfl rfl (c_state b ab cb hok _ _) ?_
 refine alc rfl zl69 rfl (fun b6 => ?_)
 refine stoA rfl rfl rfl cn69 rfl (by rw [ints_length]; exact hsi.len) rfl (ints_one _) ?_
 refine sy_seq ?_
 refine sy_seq ?_
 refine sy_draw [0, 1, 3, 7, 0, 31, 63] (.ld 0 (.tk 1 (.tk 2 (.ld 3 (.ld 4 (.ld 5 (.tk 6 .done))))))) mixed (by kernel_rfl) ?_
 refine ld rfl rfl (lh sc65 rfl rfl) rfl ?_
 refine tk rfl (PE.nilCheck rfl) rfl ?_
 refine tk rfl (PE.fieldAddr fo72_3 rfl) rfl ?_
 refine ld rfl rfl (lfB (sz := 18) sc70 (dcs_map hl4 hm4)) rfl ?_
 refine ld rfl rfl (lhA (rest := []) (ints b.state) ag69 rfl (by rw [List.append_nil]; rfl) (by rw [ints_length]; exact hsi.len)) rfl ?_
 refine ldK rfl rfl rfl ((lk_held (b := true) kv b.state mke70 (KeyT.of eqf69 noa69) (run_zv zv3) (b.state_sml hok).len hkv.len false)) rfl ?_
 rw [hkg]
 refine tk rfl (PE.neq rfl rfl) rfl ?_
 refine sy_cond rfl (fun hc1 => ?_) (fun hc1 => ?_)
 try simp only [decide_eq_true_eq, decide_eq_false_iff_not, Bool.and_eq_true, Bool.or_eq_true, Bool.not_eq_true', Int.not_le, Int.not_lt] at hc1
 refine sy_seq ?_
 refine sy_tx' [0, 1, 2] rfl ?_
 refine sp rfl (PE.assign rfl) rfl ?_
 refine sp rfl (PE.assign rfl) rfl ?_
 refine sp rfl (PE.assign rfl) rfl ?_
 refine sy_ret ?_
 exact sy_return (vs := [_, _, _]) rfl (.cons (RV.tmp rfl) (.cons (RV.tmp rfl) (.cons (RV.tmp rfl) .nil))) rfl ⟨rfl, .inr (.inl ⟨hck, ⟨_, hc1, hks⟩, rfl, rfl⟩)⟩ (fun w h => ((((h.del b6).del m).del b5).del b1).ftail)
 try simp only [decide_eq_true_eq, decide_eq_false_iff_not, Bool.and_eq_true, Bool.or_eq_true, Bool.not_eq_true', Int.not_le, Int.not_lt] at hc1
 have hev := ever_of hst hn hfx (by omega)
 refine Sy.heap (fun w h => St.rows (sz := 1) (rows := [[.pointer (some ⟨bd, 0, none⟩)]]) (rest := []) (h.pull b5) (by simp)) ?_
 refine Sy.heap (fun w h => St.kpf (h.pull m)) ?_
 refine sy_skip ?_
 refine sy_seq ?_
 refine sy_tx' [0, 1] rfl ?_
 refine mkm rfl rfl true (fun m33 => ?_)
 refine sp rfl (PE.assign rfl) rfl ?_
 refine sy_seq ?_
 refine sy_tx' [0] rfl ?_
 refine sp rfl (PE.assign rfl) rfl ?_
 refine sy_block ?_
 refine sy_loop (ι := (y : {y : List HSt × List PL × HSt // ∃ p, lls y.2.1 = p.map il ∧ Met b.dsk b.state y.1 p y.2.2}) × OSl 22 1 (plrows y.1.2.1)) (fun y => ⟨[(5, .pointer (some ⟨b5, 0, none⟩)), (6, .pointer (some ⟨b6, 0, none⟩)), (7, .map (some m33)), (8, y.2.fs)], (b6, cel 69 (ints y.1.1.2.2)) :: (m33, mapO true (kvI 0 y.1.1.1)) :: (y.2.G ++ (b1, cel 27 (btl b (b.sl ab cb))) :: H), Inn y.1.1.2.1 :: KpF m kv :: RowsA (some ⟨b5, 0, none⟩) 1 [[.pointer (some ⟨bd, 0, none⟩)]] :: RowsA (some ⟨bd, 0, none⟩) 18 [dcs b (b.sl ab cb) b.lasts b.most m] :: R⟩) (fun y => b.dsk.nst + 1 - y.1.1.1.length) ⟨⟨([], [], b.state), [], rfl, Met.start hsi hev⟩, OSl.nil _ _⟩ ?_ (fun y => ?_)
 exact sy_at (by repeat' first | exact Sub.nil | apply Sub.cons | rfl | (simp [lk]; omega)) (fun w h => (St.inn0 (h.pull b6)).facts (fun g hg => by simp only [List.mem_cons] at hg ⊢; rcases hg with hg | hg | hg | hg | hg <;> simp [hg]))
 obtain ⟨⟨⟨S, pl, s⟩, p, hlp, hmet⟩, o⟩ := y
 dsimp only at hlp hmet o ⊢
 have hs4 := hmet.inS.len
 have hsS := (b.dsk.mem_sts hdk s).2 hmet.inS
 have hfew := hmet.few hdk
 have hn14 := (b.dsk.nst_le hdk).2
 have hSl := hmet.len
 have hpll : pl.length = p.length := by have := congrArg List.length hlp; rw [lls_len, List.length_map] at this; exact this
 have hkl : ∀ e ∈ kvI 0 S, e.1.length = 4 := kvI_len fun t ht => by obtain ⟨j, hj⟩ := List.getElem?_of_mem ht; exact (hmet.at_ j t hj).2.len
 obtain ⟨go, hgo⟩ : ∃ go, (kvI 0 S).get s = go := ⟨_, rfl⟩
 refine sy_block ?_
 refine sy_seq ?_
 refine sy_seq ?_
 refine sy_tx' [0, 1, 2, 3, 4, 5, 6, 7] rfl ?_
 refine sp rfl (PE.move rfl) rfl ?_
 refine spL rfl rfl (lhA (rest := []) (ints s) ag69 rfl (by rw [List.append_nil]; rfl) (by rw [ints_length]; exact hs4)) rfl ?_
 refine spK rfl rfl rfl (lk_held (b := true) (kvI 0 S) s mke70 (KeyT.of eqf69 noa69) (run_zv zv3) hs4 hkl true) rfl ?_
 rw [hgo]
 refine sp rfl (PE.move rfl) rfl ?_
 refine sp rfl (PE.extract rfl rfl) rfl ?_
 refine sp rfl (PE.extract rfl rfl) rfl ?_
 refine sp rfl (PE.assign rfl) rfl ?_
 refine sp rfl (PE.assign rfl) rfl ?_
 refine sy_seq ?_
 refine sy_tx' [0] rfl ?_
 refine sp rfl (PE.move rfl) rfl ?_
 refine sy_cond rfl (fun hc2 => ?_) (fun hc2 => ?_)
 obtain ⟨gv, rfl⟩ : ∃ gv, go = some gv := by cases go with
   | none => cases hc2
   | some gv => exact ⟨gv, rfl⟩
 obtain ⟨j, hj, rfl⟩ := kvI_get hgo
 have hjl := (List.getElem?_eq_some_iff.1 hj).1
 have hdone := hmet.done hok hj
 obtain ⟨br, cr, jr, hrf, hrG, hrj, hrc, hrx⟩ := o.is.resolve_left (fun h => by have := congrArg List.length h.1; rw [plrows_len] at this; simp only [List.length_nil] at this; omega)
 rw [plrows_len] at hrf hrj hrc
 rw [hrf]
 refine Sy.heap (H' := (b6, cel 69 (ints s)) :: (m33, mapO true (kvI 0 S)) :: (b1, cel 27 (btl b (b.sl ab cb))) :: H) (fun w h => St.blkRows (plr_one pl) ((show St ((b6, cel 69 (ints s)) :: (m33, mapO true (kvI 0 S)) :: (br, cel 22 ((plrows pl).flatten ++ jr)) :: (b1, cel 27 (btl b (b.sl ab cb))) :: H) _ w from (by rw [hrG] at h; exact h)).pull br)) ?_
 rw [Nat.zero_add]
 refine sy_seq ?_
 refine sy_draw [0, 0, 0, 7, 0, 0, 48, 15, 255, 511] (.tk 0 (.tk 1 (.tk 2 (.tk 3 (.tk 4 (.tk 5 (.tk 6 (.tk 7 (.tk 8 (.tk 9 .done)))))))))) mixed (by kernel_rfl) ?_
 refine tk rfl (PE.move rfl) rfl ?_
 refine tk rfl (PE.move rfl) rfl ?_
 refine tk rfl (PE.move rfl) rfl ?_
 refine tk rfl (PE.slHM (h := j) (mx := j) sl23 rfl rfl rfl (Nat.le_refl _) (by omega)) rfl ?_
 refine tk rfl (PE.move rfl) rfl ?_
 refine tk rfl (PE.move rfl) rfl ?_
 refine tk rfl (PE.slLoA (l := j) sl23 rfl rfl (by omega)) rfl ?_
 refine tk rfl (PE.assign rfl) rfl ?_
 refine tk rfl (PE.assign rfl) rfl ?_
 refine tk rfl (PE.assign rfl) rfl ?_
 refine sy_ret ?_
 refine Sy.heap (fun w h => (((h.rowsDrop (b := br) (off := 0) (sz := 1) (rows := plrows pl) j).rowsTake (a := some ⟨br, 0, none⟩) (sz := 1) (rows := plrows pl) j).innPart (l := pl) (pl.take j) (fun x hx => List.mem_of_mem_take hx)).innPart (l := pl) (pl.drop j) (fun x hx => List.mem_of_mem_drop hx)) ?_
 have e1 : (pl.take j).length = j := by rw [List.length_take]; omega
 have e2 : (pl.drop j).length = pl.length - j := List.length_drop
 exact sy_return (vs := [_, _, _]) rfl (.cons (RV.tmp rfl) (.cons (RV.tmp rfl) (.cons (RV.tmp rfl) .nil))) rfl ⟨rfl, .inr (.inr ⟨hck, .inl ⟨rfl, hev⟩, p.take j, p.drop j, pl.take j, pl.drop j, some ⟨br, 0, none⟩, some ⟨br, 0 + j * 1, none⟩, j, cr - j, hdone, by unfold lls at hlp ⊢; rw [List.map_take, hlp, List.map_take], by unfold lls at hlp ⊢; rw [List.map_drop, hlp, List.map_drop], by rw [e1, e2, if_neg (by omega)]; simp only [Option.map_some, addr_add]; rfl, rfl⟩)⟩ (fun w h => (((h.del b6).del m33).del b1).facts (fun g hg => by simp only [List.mem_cons] at hg; rcases hg with hg | hg | hg | hg | hg <;> simp [hg, plrows, List.map_take, List.map_drop]))
 obtain rfl : go = none := by cases go with
   | none => rfl
   | some gv => cases hc2
 have hsn := kvI_no hgo
 obtain ⟨a9, c9, he9, _⟩ := o.freeze
 refine sy_skip ?_
 refine sy_seq ?_
 refine sy_tx' [0, 1, 2, 3, 4] rfl ?_
 refine sp rfl (PE.move rfl) rfl ?_
 refine spL rfl rfl (lhA (rest := []) (ints s) ag69 rfl (by rw [List.append_nil]; rfl) (by rw [ints_length]; exact hs4)) rfl ?_
 refine sp rfl (PE.move rfl) rfl ?_
 refine sp rfl (PE.lenSl isl23 (show _ = some (Value.slice a9 (plrows pl).length c9) from congrArg some he9)) rfl ?_
 rw [show (plrows pl).length = 0 + S.length by rw [plrows_len]; omega]
 refine mpu (kvI 0 S) s rfl mke70 (KeyT.of eqf69 noa69) rfl rfl rfl hs4 hkl ?_
 rw [kvI_put hsn]
 refine sy_seq ?_
 refine sy_tx' [0, 1, 2, 3, 4, 5, 6, 7, 8, 9, 10, 11, 12] rfl ?_
 refine spL rfl rfl (lfB (sz := 1) sc65 rfl) rfl ?_
 refine spL rfl rfl (lhA (rest := []) (ints s) ag69 rfl (by rw [List.append_nil]; rfl) (by rw [ints_length]; exact hs4)) rfl ?_
 refine sp rfl (PE.makeFunc rfl rfl) rfl ?_
 refine sp rfl (PE.build (out := [_]) pl94 zl94 rfl rfl) rfl ?_
 refine cl rfl cal37 rfl rfl (c_turn b hok ab cb bd m n hn kv hkv b5 hfx s hsS hmet.ever _ _) ?_
 rintro _ _ R1 ⟨l, t, al, cl, hlm, hnx, hgo2, rfl, rfl, hR1⟩
 obtain rfl := hR1.symm
 clear hR1
 have hti := b.dsk.next_inS hdk hmet.inS (b.dsk.trs_lt hlm) hnx
 have hnm := hmet.next hdk hsn hlm hnx hgo2
 refine sp rfl (PE.move rfl) rfl ?_
 refine sp rfl (PE.extract rfl rfl) rfl ?_
 refine sp rfl (PE.extract rfl rfl) rfl ?_
 refine sp rfl (PE.extract rfl rfl) rfl ?_
 refine alc rfl zl69 rfl (fun b12 => ?_)
 refine sp rfl (PE.assign rfl) rfl ?_
 refine stoA rfl rfl rfl cn69 rfl (by rw [ints_length]; exact hti.len) rfl (ints_one _) ?_
 refine sp rfl (PE.assign rfl) rfl ?_
 refine sy_draw [0, 0, 2, 7, 0, 15, 63] (.tk 0 (.tk 1 (.ld 4 (.big 2 (.big 3 (.tk 5 (.big 6 .done))))))) mixed (by kernel_rfl) ?_
 refine tk rfl (PE.move rfl) rfl ?_
 refine tk rfl (PE.move rfl) rfl ?_
 refine ld rfl rfl (lhA (rest := []) (ints t) ag69 rfl (by rw [List.append_nil]; rfl) (by rw [ints_length]; exact hti.len)) rfl ?_
 refine bsl (out := [_]) rfl sl23 zl22 rfl rfl rfl rfl rfl rfl (fun b63 => ?_)
 refine bg (fun w hs => ⟨(lhA (rest := []) (ints t) ag69 rfl (by rw [List.append_nil]; rfl) (by rw [ints_length]; exact hti.len)) w hs, trivial⟩) ?_
 refine apO (o) rfl ap23 rfl rfl (rowsH (row := [.slice al l.length cl]) rfl) rfl rfl ((by rw [plrows_len]; simp only [List.length_singleton]; omega)) rfl (fun o64 => ?_)
 refine bg (fun w hs => ⟨(lhA (rest := []) (ints t) ag69 rfl (by rw [List.append_nil]; rfl) (by rw [ints_length]; exact hti.len)) w hs, trivial⟩) ?_
 refine tk rfl (PE.assign rfl) rfl ?_
 refine stoA rfl rfl rfl cn69 rfl (by rw [ints_length]; exact hti.len) (by rw [ints_length]; exact hs4) (ints_one _) ?_
 refine bg (fun w hs => ⟨trivial, trivial⟩) ?_
 have hll := il_len l
 exact sy_next ⟨⟨(S ++ [s], pl ++ [⟨al, cl, il l⟩], t), p ++ [l], by rw [lls_snoc, hlp, List.map_append]; rfl, hnm⟩, o64.cast (by rw [plrows_app]; show _ = plrows pl ++ [[Value.slice al (il l).length cl]]; rw [hll])⟩ (by dsimp only; rw [List.length_append, List.length_singleton]; omega) (by repeat' first | exact Sub.nil | apply Sub.cons | rfl | (simp [lk]; omega)) (fun w h => (St.innSnoc (a := al) (c := cl) (l0 := il l) (l := pl) ((h.del b12).del b63)).facts (fun g hg => by simp only [List.mem_cons] at hg ⊢; rcases hg with hg | hg | hg | hg | hg <;> simp [hg]))
end Go.Proofs.YtelegnmfhjfbaaaGreat
namespace Go.Proofs.YtelegnmfhjfbaaaGreat
set_option linter.unusedSimpArgs false
set_option linter.unusedVariables false
open Go
theorem cal9 : cal Tryz.prog 9 = true := by kernel_rfl
theorem pl_onec (l : List PL) : onecells (plrows l) = true := by
  unfold onecells
  rw [List.all_eq_true]
  intro r hr
  obtain ⟨x, _, rfl⟩ := List.mem_map.1 hr
  rfl
theorem St.innApp {l k : List PL} {H : Heap} {R : Facts} {w : World} [m1 : MemF (Inn l) R] [m2 : MemF (Inn k) R] (h : St H R w) : St H (Inn (l ++ k) :: R) w :=
  h.also fun _ hw x hx => by
    rcases List.mem_append.1 hx with hx | hx
    · exact hw _ m1.mem x hx
    · exact hw _ m2.mem x hx
theorem lls_app (l k : List PL) : lls (l ++ k) = lls l ++ lls k := by simp [lls]
theorem brn_iff {b : Barn} {p : List (List Int)} : (brnQ b p).2.2 = false ↔ (b.burnsF b.warms p 0).1 = none := by
  rcases brn_cases b p with ⟨ws, h1, h2⟩ | ⟨d, k, ws, h1, h2⟩ <;> rw [h1, h2] <;> simp
theorem lls_four {b : Barn} (hok : b.ok) {pl : List PL} {p : List (List Nat)} (h : lls pl = p.map il) (ht : ∀ l ∈ p, l ∈ b.dsk.trs false) : ∀ x ∈ pl, x.l.length ≤ 4 := fun x hx => by
  have h1 : x.l ∈ lls pl := List.mem_map.2 ⟨x, hx, rfl⟩
  rw [h] at h1
  obtain ⟨l, hl, e⟩ := List.mem_map.1 h1
  have := b.dsk.trs_four (b.dsk_ok hok) (ht l hl)
  rw [← e, il_len]; exact this
structure RndLaw (b : Barn) (pl ql : List PL) : Prop where
  len : pl.length + ql.length ≤ 14641
  ne : ql.length ≠ 0
  four : ∀ x ∈ pl ++ ql, x.l.length ≤ 4
  p : planErr b.bins.length b.gangs (lls pl) = 0
  q : planErr b.bins.length b.gangs (lls ql) = 0
  goes : b.goes (lls pl) (lls ql)
theorem RndOk.law {b : Barn} (hok : b.ok) {p q : List (List Nat)} (h : RndOk b p q) {pl ql : List PL} (h1 : lls pl = p.map il) (h2 : lls ql = q.map il) : RndLaw b pl ql := by
  have e1 : pl.length = p.length := by have := congrArg List.length h1; rwa [lls_len, List.length_map] at this
  have e2 : ql.length = q.length := by have := congrArg List.length h2; rwa [lls_len, List.length_map] at this
  have hl := h.len
  have tp : ∀ l ∈ p, l ∈ b.dsk.trs false := fun l hl => b.dsk.trs_sub (h.hp l hl)
  have tq : ∀ l ∈ q, l ∈ b.dsk.trs false := fun l hl => b.dsk.trs_sub (h.hq l hl)
  refine ⟨by omega, fun e => h.ne (List.length_eq_zero_iff.1 (by omega)), fun x hx => ?_, ?_, ?_, ?_⟩
  · rcases List.mem_append.1 hx with hx | hx
    · exact lls_four hok h1 tp x hx
    · exact lls_four hok h2 tq x hx
  · rw [h1]; exact plan_of_trs (d := b.dsk) (by omega) tp
  · rw [h2]; exact plan_of_trs (d := b.dsk) (by omega) tq
  · rw [h1, h2]; exact h.goes hok
structure RWant (b : Barn) (p q : List (List Int)) (w u : Int) (g : Bool) : Prop where
  u : u = goesErr b p q
  g : g = true ↔ goesErr b p q = 0 ∧ b.goes p q
  w : (b.check ≠ 0 ∧ w = b.check) ∨ (b.check = 0 ∧ w = 0 ∧ Kpt b.dsk b.state 1000000) ∨ (b.check = 0 ∧ w = 6 ∧ ∃ v, v ≠ 1000000 ∧ Kpt b.dsk b.state v)
theorem RWant.w1 {b : Barn} {p q : List (List Int)} {w u : Int} {g : Bool} (h : RWant b p q w u g) (hc : b.check ≠ 0) : w = b.check := by
  rcases h.w with ⟨_, h2⟩ | ⟨h1, _⟩ | ⟨h1, _⟩
  · exact h2
  · exact absurd h1 hc
  · exact absurd h1 hc
theorem RWant.w2 {b : Barn} {p q : List (List Int)} {w u : Int} {g : Bool} (h : RWant b p q w u g) (hc : b.check = 0) (hk : ∃ v, v ≠ 1000000 ∧ Kpt b.dsk b.state v) : w = 6 := by
  obtain ⟨v, hv, hk⟩ := hk
  rcases h.w with ⟨h1, _⟩ | ⟨_, _, h2⟩ | ⟨_, h2, _⟩
  · exact absurd hc h1
  · exact absurd (kpt_unique hk h2) hv
  · exact h2
theorem RWant.w3 {b : Barn} {p q : List (List Int)} {w u : Int} {g : Bool} (h : RWant b p q w u g) (hc : b.check = 0) (hk : Kpt b.dsk b.state 1000000) : w = 0 := by
  rcases h.w with ⟨h1, _⟩ | ⟨_, h2, _⟩ | ⟨_, _, v, hv, h3⟩
  · exact absurd hc h1
  · exact h2
  · exact absurd (kpt_unique h3 hk) hv
theorem RWant.val {b : Barn} {p q : List (List Int)} {w u : Int} {g : Bool} (h : RWant b p q w u g) {v : Value} (hv : GoesQ b p q v) : v = .tuple #[.bool g, .int .i64 u] := by
  rcases hv with ⟨h1, rfl⟩ | ⟨h1, is, h2, rfl⟩
  · have e : g = false := by
      cases hg : g with
      | false => rfl
      | true => exact absurd (h.g.1 hg).1 h1
    rw [e, h.u]
  · have e : is = g := by
      rw [Bool.eq_iff_iff, h2, h.g]
      exact ⟨fun h3 => ⟨h1, h3⟩, fun h3 => h3.2⟩
    rw [e, h.u, h1]
end Go.Proofs.YtelegnmfhjfbaaaGreat
namespace Go.Proofs.YtelegnmfhjfbaaaGreat
set_option linter.unusedSimpArgs false
set_option linter.unusedVariables false
open Go
theorem cal117 : cal Tryz.prog 117 = true := by kernel_rfl
theorem cal120 : cal Tryz.prog 120 = true := by kernel_rfl
theorem cal121 : cal Tryz.prog 121 = true := by kernel_rfl
theorem cal122 : cal Tryz.prog 122 = true := by kernel_rfl
theorem cal134 : cal Tryz.prog 134 = true := by kernel_rfl
theorem cal143 : cal Tryz.prog 143 = true := by kernel_rfl
theorem cal63 : cal Tryz.prog 63 = true := by kernel_rfl
theorem cal64 : cal Tryz.prog 64 = true := by kernel_rfl
theorem cn123 : cellN Tryz.prog 123 = some 1 := by kernel_rfl
theorem el50 : elN Tryz.prog 50 = some 1 := by kernel_rfl
theorem fo125_0 : fOff Tryz.prog 125 0 = some 0 := by kernel_rfl
theorem fo125_1 : fOff Tryz.prog 125 1 = some 1 := by kernel_rfl
theorem fo125_2 : fOff Tryz.prog 125 2 = some 2 := by kernel_rfl
theorem ik123 : intK Tryz.prog 123 = some .u32 := by kernel_rfl
theorem ik170 : intK Tryz.prog 170 = some .u64 := by kernel_rfl
theorem ik3 : intK Tryz.prog 3 = some .i64 := by kernel_rfl
theorem ik5 : intK Tryz.prog 5 = some .u8 := by kernel_rfl
theorem isl50 : isSl Tryz.prog 50 = true := by kernel_rfl
theorem istr9 : isStr Tryz.prog 9 = true := by kernel_rfl
theorem pl125 : placeL Tryz.prog 125 = some [(0, 1), (1, 1), (2, 1)] := by kernel_rfl
theorem sc123 : scal Tryz.prog 123 = true := by kernel_rfl
theorem sc5 : scal Tryz.prog 5 = true := by kernel_rfl
theorem sc50 : scal Tryz.prog 50 = true := by kernel_rfl
theorem us123 : (Tryz.prog.underlying 123).isSome = true := by kernel_rfl
theorem us192 : (Tryz.prog.underlying 192).isSome = true := by kernel_rfl
theorem us3 : (Tryz.prog.underlying 3).isSome = true := by kernel_rfl
theorem us5 : (Tryz.prog.underlying 5).isSome = true := by kernel_rfl
theorem zl125 : zeroL Tryz.prog 125 = some ([.slice none 0 0, .int .i64 0, .int .u32 0]) := by kernel_rfl
def nn (l : List Int) (k : Nat) : Int := l.getD k 0
theorem nn_set {l : List Int} {i j : Nat} {v : Int} (h : i < l.length) : nn (l.set i v) j = bif i == j then v else nn l j := by
  unfold nn
  rw [List.getD_eq_getElem?_getD, List.getD_eq_getElem?_getD, List.getElem?_set]
  by_cases e : i = j
  · subst e; rw [if_pos rfl, if_pos h]; simp
  · rw [if_neg e, show (i == j) = false from by simpa using e]; rfl
def urow (x : Int) : List Value := [.int .u8 x]
def urows (l : List Int) : List (List Value) := l.map urow
theorem c_Fill (g : List Int) (ag : Option Addr) (cg : Nat) (hgl : g.length ≤ 9223372036854775807) (H : Heap) (R : Facts) :
    Fn Tryz.prog 14 [.slice ag g.length cg] H R (fun v H' R' => ∃ bk, ∃ mx : Int, (0 ≤ mx ∧ mx ≤ 4294967295) ∧ v = .pointer (some ⟨bk, 0, none⟩) ∧ H' = (bk, cel 125 [.slice ag g.length cg, .int .i64 (0), .int .u32 (mx)]) :: H ∧ R' = R) := by
 refine fn_of Tryz.func14 rfl Tryz.ntmps14 rfl ?_
 refine sy_seq ?_
 refine sy_tx' [0] rfl ?_
 refine sp rfl (PE.assign rfl) rfl ?_
 refine sy_seq ?_
 refine sy_tx' [0, 1, 2, 3, 4, 5, 6, 7] rfl ?_
 refine sp rfl (PE.move rfl) rfl ?_
 refine sp rfl (PE.move rfl) rfl ?_
 refine sp rfl (PE.lenSl isl50 rfl) rfl ?_
 refine spE rfl (PE.convU us3 ik123 rfl) rfl ?_
 rintro _ ⟨u6, rfl, hu6⟩
 refine spE rfl (PE.xorU rfl rfl) rfl ?_
 rintro _ ⟨u7, rfl, hu7⟩
 refine sp rfl (PE.build (out := [_, _, _]) pl125 zl125 rfl rfl) rfl ?_
 refine bx rfl rfl rfl (fun b9 => ?_)
 refine sp rfl (PE.assign rfl) rfl ?_
 refine sy_ret ?_
 exact sy_return (vs := [_]) rfl (.cons (RV.tmp rfl) .nil) rfl ⟨b9, u7, hu7, rfl, rfl, rfl⟩ (fun _ h => h)
theorem c_handful (g : List Int) (ag : Option Addr) (cg bk : Nat) (hgl : g.length ≤ 9223372036854775807) (tq mx : Int) (htq : 0 ≤ tq ∧ tq ≤ 1000000000) (hmx : 0 ≤ mx ∧ mx ≤ 4294967295) (H : Heap) (R : Facts) [hG : MemRows ag 1 (urows g) R] :
    Fn Tryz.prog 117 [.pointer (some ⟨bk, 0, none⟩)] ((bk, cel 125 [.slice ag g.length cg, .int .i64 (tq), .int .u32 (mx)]) :: H) R (fun v H' R' => ∃ x m' : Int, (0 ≤ x ∧ x ≤ 65535) ∧ v = .int .i64 x ∧ (0 ≤ m' ∧ m' ≤ 4294967295) ∧ H' = (bk, cel 125 [.slice ag g.length cg, .int .i64 (tq + 1), .int .u32 (m')]) :: H ∧ R' = R) := by
 refine fn_of Tryz.func117 rfl Tryz.ntmps117 rfl ?_
 refine sy_seq ?_
 refine sy_tx' [0] rfl ?_
 refine sp rfl (PE.assign rfl) rfl ?_
 refine sy_seq ?_
 refine sy_seq ?_
 refine sy_tx' [0, 1, 2, 3, 4, 5] rfl ?_
 refine sp rfl (PE.move rfl) rfl ?_
 refine sp rfl (PE.nilCheck rfl) rfl ?_
 refine sp rfl (PE.fieldAddr fo125_0 rfl) rfl ?_
 refine spL rfl rfl (lh sc50 rfl rfl) rfl ?_
 refine sp rfl (PE.lenSl isl50 rfl) rfl ?_
 refine sp rfl (PE.assign rfl) rfl ?_
 refine sy_seq ?_
 refine sy_tx' [0, 1] rfl ?_
 refine sp rfl (PE.move rfl) rfl ?_
 refine sp rfl (PE.gtr rfl rfl) rfl ?_
 refine sy_cond rfl (fun hc0 => ?_) (fun hc0 => ?_)
 try simp only [decide_eq_true_eq, decide_eq_false_iff_not, Bool.and_eq_true, Bool.or_eq_true, Bool.not_eq_true', Int.not_le, Int.not_lt] at hc0
 obtain ⟨y, hy⟩ : ∃ y, g[(tq % g.length).toNat]? = some y := ⟨_, List.getElem?_eq_getElem (by have := Int.emod_lt_of_pos tq hc0; have := Int.emod_nonneg tq (show (g.length : Int) ≠ 0 by omega); omega)⟩
 refine sy_addr (a := ag) (sz := 1) (rows := urows g) (by intro h0; simp [urows] at h0; simp [h0] at hy) (fun bgr ogr he => ?_)
 subst he
 refine sy_draw [0, 0, 2, 6, 14, 0, 32, 96, 224, 0, 512, 1536, 3584, 0, 15872, 32736, 65504, 131040, 262142, 524286, 1048575, 2097151, 4194303] (.tk 0 (.tk 1 (.tk 2 (.tk 3 (.ld 4 (.tk 5 (.tk 6 (.tk 7 (.ld 8 (.tk 9 (.tk 10 (.tk 11 (.ld 12 (.tk 13 (.tk 14 (.tk 15 (.ld 16 (.tk 17 (.tk 18 (.tk 19 (.tk 20 (.tk 21 (.big 22 .done))))))))))))))))))))))) mixed (by kernel_rfl) ?_
 refine tk rfl (PE.move rfl) rfl ?_
 refine tk rfl (PE.move rfl) rfl ?_
 refine tk rfl (PE.nilCheck rfl) rfl ?_
 refine tk rfl (PE.fieldAddr fo125_2 rfl) rfl ?_
 refine ld rfl rfl (lh sc123 rfl rfl) rfl ?_
 refine tk rfl (PE.move rfl) rfl ?_
 refine tk rfl (PE.nilCheck rfl) rfl ?_
 refine tk rfl (PE.fieldAddr fo125_0 rfl) rfl ?_
 refine ld rfl rfl (lh sc50 rfl rfl) rfl ?_
 refine tk rfl (PE.move rfl) rfl ?_
 refine tk rfl (PE.nilCheck rfl) rfl ?_
 refine tk rfl (PE.fieldAddr fo125_1 rfl) rfl ?_
 refine ld rfl rfl (lh sc3 rfl rfl) rfl ?_
 refine tk rfl (PE.move rfl) rfl ?_
 refine tk rfl (PE.rem rfl rfl (by omega)) rfl ?_
 refine tk rfl (PE.indexAddr el50 rfl rfl (by exact Int.emod_nonneg tq (by omega)) (by exact Int.emod_lt_of_pos tq hc0)) rfl ?_
 refine ld rfl rfl (lf0 (x := .int .u8 y) sc5 (by simp [urows, urow, hy]; rfl) rfl) rfl ?_
 refine tkE rfl (PE.convU us5 ik123 rfl) rfl ?_
 rintro _ ⟨u28, rfl, hu28⟩
 refine tkE rfl (PE.xorU rfl rfl) rfl ?_
 rintro _ ⟨u29, rfl, hu29⟩
 refine tkE rfl (PE.mulU rfl rfl) rfl ?_
 rintro _ ⟨u30, rfl, hu30⟩
 refine tk rfl (PE.nilCheck rfl) rfl ?_
 refine tk rfl (PE.fieldAddr fo125_2 rfl) rfl ?_
 refine sto rfl rfl rfl cn123 rfl rfl rfl rfl ?_
 refine bg (fun w hs => ⟨trivial, trivial, trivial, trivial, trivial⟩) ?_
 refine sy_seq ?_
 refine sy_tx' [0, 1, 2, 3, 4, 5, 6, 7] rfl ?_
 refine sp rfl (PE.move rfl) rfl ?_
 refine sp rfl (PE.nilCheck rfl) rfl ?_
 refine sp rfl (PE.fieldAddr fo125_1 rfl) rfl ?_
 refine spL rfl rfl (lh sc3 rfl rfl) rfl ?_
 refine sp rfl (PE.add rfl rfl (by omega)) rfl ?_
 refine sp rfl (PE.nilCheck rfl) rfl ?_
 refine sp rfl (PE.fieldAddr fo125_1 rfl) rfl ?_
 refine sto rfl rfl rfl cn3 rfl rfl rfl rfl ?_
 refine sy_seq ?_
 refine sy_seq ?_
 refine sy_draw [0, 1, 3, 7, 0, 16, 48, 112, 240, 511] (.tk 0 (.tk 1 (.tk 2 (.ld 3 (.tk 4 (.tk 5 (.tk 6 (.ld 7 (.tk 8 (.tk 9 .done)))))))))) mixed (by kernel_rfl) ?_
 refine tk rfl (PE.move rfl) rfl ?_
 refine tk rfl (PE.nilCheck rfl) rfl ?_
 refine tk rfl (PE.fieldAddr fo125_1 rfl) rfl ?_
 refine ld rfl rfl (lh sc3 rfl rfl) rfl ?_
 refine tk rfl (PE.move rfl) rfl ?_
 refine tk rfl (PE.nilCheck rfl) rfl ?_
 refine tk rfl (PE.fieldAddr fo125_0 rfl) rfl ?_
 refine ld rfl rfl (lh sc50 rfl rfl) rfl ?_
 refine tk rfl (PE.lenSl isl50 rfl) rfl ?_
 refine tk rfl (PE.gtr rfl rfl) rfl ?_
 refine sy_cond rfl (fun hc1 => ?_) (fun hc1 => ?_)
 try simp only [decide_eq_true_eq, decide_eq_false_iff_not, Bool.and_eq_true, Bool.or_eq_true, Bool.not_eq_true', Int.not_le, Int.not_lt] at hc1
 refine sy_tx' [0, 1, 2, 3, 4, 5, 6, 7, 8, 9] rfl ?_
 refine sp rfl (PE.move rfl) rfl ?_
 refine sp rfl (PE.move rfl) rfl ?_
 refine sp rfl (PE.nilCheck rfl) rfl ?_
 refine sp rfl (PE.fieldAddr fo125_2 rfl) rfl ?_
 refine spL rfl rfl (lh sc123 rfl rfl) rfl ?_
 refine spE rfl (PE.mulU rfl rfl) rfl ?_
 rintro _ ⟨u55, rfl, hu55⟩
 refine spE rfl (PE.addU rfl rfl) rfl ?_
 rintro _ ⟨u56, rfl, hu56⟩
 refine sp rfl (PE.nilCheck rfl) rfl ?_
 refine sp rfl (PE.fieldAddr fo125_2 rfl) rfl ?_
 refine sto rfl rfl rfl cn123 rfl rfl rfl rfl ?_
 refine sy_seq ?_
 refine sy_draw [0, 1, 3, 7, 0, 16, 48, 112, 240, 511, 1023, 2047, 4095, 8191] (.tk 0 (.tk 1 (.tk 2 (.ld 3 (.tk 4 (.tk 5 (.tk 6 (.ld 7 (.tk 8 (.tk 9 (.tk 10 (.tk 11 (.tk 12 (.tk 13 .done)))))))))))))) mixed (by kernel_rfl) ?_
 refine tk rfl (PE.move rfl) rfl ?_
 refine tk rfl (PE.nilCheck rfl) rfl ?_
 refine tk rfl (PE.fieldAddr fo125_2 rfl) rfl ?_
 refine ld rfl rfl (lh sc123 rfl rfl) rfl ?_
 refine tk rfl (PE.move rfl) rfl ?_
 refine tk rfl (PE.nilCheck rfl) rfl ?_
 refine tk rfl (PE.fieldAddr fo125_2 rfl) rfl ?_
 refine ld rfl rfl (lh sc123 rfl rfl) rfl ?_
 refine tkE rfl (PE.shrU rfl rfl (by decide) (by omega) (by omega)) rfl ?_
 rintro _ ⟨u67, rfl, hu67⟩
 refine tkE rfl (PE.xorU rfl rfl) rfl ?_
 rintro _ ⟨u68, rfl, hu68⟩
 refine tkE rfl (PE.shrU rfl rfl (by decide) (by omega) (by omega)) rfl ?_
 rintro _ ⟨u69, rfl, hu69⟩
 refine tkE rfl (PE.andU rfl rfl (by decide) (by decide)) rfl ?_
 rintro _ ⟨u70, rfl, hu70⟩
 refine tk rfl (PE.conv64 us123 ik3 rfl (by omega)) rfl ?_
 refine tk rfl (PE.assign rfl) rfl ?_
 refine sy_ret ?_
 first
   | exact sy_return (vs := [_]) rfl (.cons (RV.tmp rfl) .nil) rfl ⟨u70, _, hu70, rfl, hu56, rfl, rfl⟩ (fun _ h => h)
   | exact sy_return (vs := [_]) rfl (.cons (RV.tmp rfl) .nil) rfl ⟨u70, _, hu70, rfl, hu30, rfl, rfl⟩ (fun _ h => h)
   | exact sy_return (vs := [_]) rfl (.cons (RV.tmp rfl) .nil) rfl ⟨u70, _, hu70, rfl, hmx, rfl, rfl⟩ (fun _ h => h)
 try simp only [decide_eq_true_eq, decide_eq_false_iff_not, Bool.and_eq_true, Bool.or_eq_true, Bool.not_eq_true', Int.not_le, Int.not_lt] at hc1
 refine sy_skip ?_
 refine sy_seq ?_
 refine sy_draw [0, 1, 3, 7, 0, 16, 48, 112, 240, 511, 1023, 2047, 4095, 8191] (.tk 0 (.tk 1 (.tk 2 (.ld 3 (.tk 4 (.tk 5 (.tk 6 (.ld 7 (.tk 8 (.tk 9 (.tk 10 (.tk 11 (.tk 12 (.tk 13 .done)))))))))))))) mixed (by kernel_rfl) ?_
 refine tk rfl (PE.move rfl) rfl ?_
 refine tk rfl (PE.nilCheck rfl) rfl ?_
 refine tk rfl (PE.fieldAddr fo125_2 rfl) rfl ?_
 refine ld rfl rfl (lh sc123 rfl rfl) rfl ?_
 refine tk rfl (PE.move rfl) rfl ?_
 refine tk rfl (PE.nilCheck rfl) rfl ?_
 refine tk rfl (PE.fieldAddr fo125_2 rfl) rfl ?_
 refine ld rfl rfl (lh sc123 rfl rfl) rfl ?_
 refine tkE rfl (PE.shrU rfl rfl (by decide) (by omega) (by omega)) rfl ?_
 rintro _ ⟨u67, rfl, hu67⟩
 refine tkE rfl (PE.xorU rfl rfl) rfl ?_
 rintro _ ⟨u68, rfl, hu68⟩
 refine tkE rfl (PE.shrU rfl rfl (by decide) (by omega) (by omega)) rfl ?_
 rintro _ ⟨u69, rfl, hu69⟩
 refine tkE rfl (PE.andU rfl rfl (by decide) (by decide)) rfl ?_
 rintro _ ⟨u70, rfl, hu70⟩
 refine tk rfl (PE.conv64 us123 ik3 rfl (by omega)) rfl ?_
 refine tk rfl (PE.assign rfl) rfl ?_
 refine sy_ret ?_
 first
   | exact sy_return (vs := [_]) rfl (.cons (RV.tmp rfl) .nil) rfl ⟨u70, _, hu70, rfl, hu56, rfl, rfl⟩ (fun _ h => h)
   | exact sy_return (vs := [_]) rfl (.cons (RV.tmp rfl) .nil) rfl ⟨u70, _, hu70, rfl, hu30, rfl, rfl⟩ (fun _ h => h)
   | exact sy_return (vs := [_]) rfl (.cons (RV.tmp rfl) .nil) rfl ⟨u70, _, hu70, rfl, hmx, rfl, rfl⟩ (fun _ h => h)
 try simp only [decide_eq_true_eq, decide_eq_false_iff_not, Bool.and_eq_true, Bool.or_eq_true, Bool.not_eq_true', Int.not_le, Int.not_lt] at hc0
 refine sy_skip ?_
 refine sy_seq ?_
 refine sy_tx' [0, 1, 2, 3, 4, 5, 6, 7] rfl ?_
 refine sp rfl (PE.move rfl) rfl ?_
 refine sp rfl (PE.nilCheck rfl) rfl ?_
 refine sp rfl (PE.fieldAddr fo125_1 rfl) rfl ?_
 refine spL rfl rfl (lh sc3 rfl rfl) rfl ?_
 refine sp rfl (PE.add rfl rfl (by omega)) rfl ?_
 refine sp rfl (PE.nilCheck rfl) rfl ?_
 refine sp rfl (PE.fieldAddr fo125_1 rfl) rfl ?_
 refine sto rfl rfl rfl cn3 rfl rfl rfl rfl ?_
 refine sy_seq ?_
 refine sy_seq ?_
 refine sy_draw [0, 1, 3, 7, 0, 16, 48, 112, 240, 511] (.tk 0 (.tk 1 (.tk 2 (.ld 3 (.tk 4 (.tk 5 (.tk 6 (.ld 7 (.tk 8 (.tk 9 .done)))))))))) mixed (by kernel_rfl) ?_
 refine tk rfl (PE.move rfl) rfl ?_
 refine tk rfl (PE.nilCheck rfl) rfl ?_
 refine tk rfl (PE.fieldAddr fo125_1 rfl) rfl ?_
 refine ld rfl rfl (lh sc3 rfl rfl) rfl ?_
 refine tk rfl (PE.move rfl) rfl ?_
 refine tk rfl (PE.nilCheck rfl) rfl ?_
 refine tk rfl (PE.fieldAddr fo125_0 rfl) rfl ?_
 refine ld rfl rfl (lh sc50 rfl rfl) rfl ?_
 refine tk rfl (PE.lenSl isl50 rfl) rfl ?_
 refine tk rfl (PE.gtr rfl rfl) rfl ?_
 refine sy_cond rfl (fun hc1 => ?_) (fun hc1 => ?_)
 try simp only [decide_eq_true_eq, decide_eq_false_iff_not, Bool.and_eq_true, Bool.or_eq_true, Bool.not_eq_true', Int.not_le, Int.not_lt] at hc1
 refine sy_tx' [0, 1, 2, 3, 4, 5, 6, 7, 8, 9] rfl ?_
 refine sp rfl (PE.move rfl) rfl ?_
 refine sp rfl (PE.move rfl) rfl ?_
 refine sp rfl (PE.nilCheck rfl) rfl ?_
 refine sp rfl (PE.fieldAddr fo125_2 rfl) rfl ?_
 refine spL rfl rfl (lh sc123 rfl rfl) rfl ?_
 refine spE rfl (PE.mulU rfl rfl) rfl ?_
 rintro _ ⟨u55, rfl, hu55⟩
 refine spE rfl (PE.addU rfl rfl) rfl ?_
 rintro _ ⟨u56, rfl, hu56⟩
 refine sp rfl (PE.nilCheck rfl) rfl ?_
 refine sp rfl (PE.fieldAddr fo125_2 rfl) rfl ?_
 refine sto rfl rfl rfl cn123 rfl rfl rfl rfl ?_
 refine sy_seq ?_
 refine sy_draw [0, 1, 3, 7, 0, 16, 48, 112, 240, 511, 1023, 2047, 4095, 8191] (.tk 0 (.tk 1 (.tk 2 (.ld 3 (.tk 4 (.tk 5 (.tk 6 (.ld 7 (.tk 8 (.tk 9 (.tk 10 (.tk 11 (.tk 12 (.tk 13 .done)))))))))))))) mixed (by kernel_rfl) ?_
 refine tk rfl (PE.move rfl) rfl ?_
 refine tk rfl (PE.nilCheck rfl) rfl ?_
 refine tk rfl (PE.fieldAddr fo125_2 rfl) rfl ?_
 refine ld rfl rfl (lh sc123 rfl rfl) rfl ?_
 refine tk rfl (PE.move rfl) rfl ?_
 refine tk rfl (PE.nilCheck rfl) rfl ?_
 refine tk rfl (PE.fieldAddr fo125_2 rfl) rfl ?_
 refine ld rfl rfl (lh sc123 rfl rfl) rfl ?_
 refine tkE rfl (PE.shrU rfl rfl (by decide) (by omega) (by omega)) rfl ?_
 rintro _ ⟨u67, rfl, hu67⟩
 refine tkE rfl (PE.xorU rfl rfl) rfl ?_
 rintro _ ⟨u68, rfl, hu68⟩
 refine tkE rfl (PE.shrU rfl rfl (by decide) (by omega) (by omega)) rfl ?_
 rintro _ ⟨u69, rfl, hu69⟩
 refine tkE rfl (PE.andU rfl rfl (by decide) (by decide)) rfl ?_
 rintro _ ⟨u70, rfl, hu70⟩
 refine tk rfl (PE.conv64 us123 ik3 rfl (by omega)) rfl ?_
 refine tk rfl (PE.assign rfl) rfl ?_
 refine sy_ret ?_
 first
   | exact sy_return (vs := [_]) rfl (.cons (RV.tmp rfl) .nil) rfl ⟨u70, _, hu70, rfl, hu56, rfl, rfl⟩ (fun _ h => h)
   | exact sy_return (vs := [_]) rfl (.cons (RV.tmp rfl) .nil) rfl ⟨u70, _, hu70, rfl, hu30, rfl, rfl⟩ (fun _ h => h)
   | exact sy_return (vs := [_]) rfl (.cons (RV.tmp rfl) .nil) rfl ⟨u70, _, hu70, rfl, hmx, rfl, rfl⟩ (fun _ h => h)
 try simp only [decide_eq_true_eq, decide_eq_false_iff_not, Bool.and_eq_true, Bool.or_eq_true, Bool.not_eq_true', Int.not_le, Int.not_lt] at hc1
 refine sy_skip ?_
 refine sy_seq ?_
 refine sy_draw [0, 1, 3, 7, 0, 16, 48, 112, 240, 511, 1023, 2047, 4095, 8191] (.tk 0 (.tk 1 (.tk 2 (.ld 3 (.tk 4 (.tk 5 (.tk 6 (.ld 7 (.tk 8 (.tk 9 (.tk 10 (.tk 11 (.tk 12 (.tk 13 .done)))))))))))))) mixed (by kernel_rfl) ?_
 refine tk rfl (PE.move rfl) rfl ?_
 refine tk rfl (PE.nilCheck rfl) rfl ?_
 refine tk rfl (PE.fieldAddr fo125_2 rfl) rfl ?_
 refine ld rfl rfl (lh sc123 rfl rfl) rfl ?_
 refine tk rfl (PE.move rfl) rfl ?_
 refine tk rfl (PE.nilCheck rfl) rfl ?_
 refine tk rfl (PE.fieldAddr fo125_2 rfl) rfl ?_
 refine ld rfl rfl (lh sc123 rfl rfl) rfl ?_
 refine tkE rfl (PE.shrU rfl rfl (by decide) (by omega) (by omega)) rfl ?_
 rintro _ ⟨u67, rfl, hu67⟩
 refine tkE rfl (PE.xorU rfl rfl) rfl ?_
 rintro _ ⟨u68, rfl, hu68⟩
 refine tkE rfl (PE.shrU rfl rfl (by decide) (by omega) (by omega)) rfl ?_
 rintro _ ⟨u69, rfl, hu69⟩
 refine tkE rfl (PE.andU rfl rfl (by decide) (by decide)) rfl ?_
 rintro _ ⟨u70, rfl, hu70⟩
 refine tk rfl (PE.conv64 us123 ik3 rfl (by omega)) rfl ?_
 refine tk rfl (PE.assign rfl) rfl ?_
 refine sy_ret ?_
 first
   | exact sy_return (vs := [_]) rfl (.cons (RV.tmp rfl) .nil) rfl ⟨u70, _, hu70, rfl, hu56, rfl, rfl⟩ (fun _ h => h)
   | exact sy_return (vs := [_]) rfl (.cons (RV.tmp rfl) .nil) rfl ⟨u70, _, hu70, rfl, hu30, rfl, rfl⟩ (fun _ h => h)
   | exact sy_return (vs := [_]) rfl (.cons (RV.tmp rfl) .nil) rfl ⟨u70, _, hu70, rfl, hmx, rfl, rfl⟩ (fun _ h => h)
theorem c_Below (g : List Int) (ag : Option Addr) (cg bk : Nat) (hgl : g.length ≤ 9223372036854775807) (tq mx : Int) (htq : 0 ≤ tq ∧ tq ≤ 1000000000) (hmx : 0 ≤ mx ∧ mx ≤ 4294967295) (n : Int) (H : Heap) (R : Facts) [hG : MemRows ag 1 (urows g) R] :
    Fn Tryz.prog 63 [.pointer (some ⟨bk, 0, none⟩), .int .i64 n] ((bk, cel 125 [.slice ag g.length cg, .int .i64 (tq), .int .u32 (mx)]) :: H) R (fun v H' R' => ∃ x m' : Int, (0 ≤ x ∧ x < max 1 n) ∧ v = .int .i64 x ∧ (0 ≤ m' ∧ m' ≤ 4294967295) ∧ H' = (bk, cel 125 [.slice ag g.length cg, .int .i64 (tq + 1), .int .u32 (m')]) :: H ∧ R' = R) := by
 refine fn_of Tryz.func63 rfl Tryz.ntmps63 rfl ?_
 refine sy_seq ?_
 refine sy_tx' [0] rfl ?_
 refine sp rfl (PE.assign rfl) rfl ?_
 refine sy_seq ?_
 refine sy_tx' [0, 1, 2, 3, 4, 5] rfl ?_
 refine sp rfl (PE.move rfl) rfl ?_
 refine cl rfl cal117 rfl rfl (c_handful g ag cg bk hgl tq mx htq hmx _ _) ?_
 rintro _ _ _ ⟨x, m', hx, rfl, hm', rfl, rfl⟩
 refine sp rfl (PE.move rfl) rfl ?_
 refine sp rfl (PE.max rfl rfl) rfl ?_
 refine sp rfl (PE.rem rfl rfl (by omega)) rfl ?_
 refine sp rfl (PE.assign rfl) rfl ?_
 refine sy_ret ?_
 exact sy_return (vs := [_]) rfl (.cons (RV.tmp rfl) .nil) rfl ⟨_, m', ⟨Int.emod_nonneg _ (by omega), Int.emod_lt_of_pos _ (by omega)⟩, rfl, hm', rfl, rfl⟩ (fun _ h => h)
theorem c_Among (g : List Int) (ag : Option Addr) (cg bk : Nat) (hgl : g.length ≤ 9223372036854775807) (tq mx : Int) (htq : 0 ≤ tq ∧ tq ≤ 1000000000) (hmx : 0 ≤ mx ∧ mx ≤ 4294967295) (lo hi : Int) (hb : -1000000 ≤ lo ∧ lo ≤ 1000000 ∧ -1000000 ≤ hi ∧ hi ≤ 1000000) (H : Heap) (R : Facts) [hG : MemRows ag 1 (urows g) R] :
    Fn Tryz.prog 64 [.pointer (some ⟨bk, 0, none⟩), .int .i64 lo, .int .i64 hi] ((bk, cel 125 [.slice ag g.length cg, .int .i64 (tq), .int .u32 (mx)]) :: H) R (fun v H' R' => ∃ x m' : Int, (lo ≤ x ∧ x < lo + max 1 (hi - lo + 1)) ∧ v = .int .i64 x ∧ (0 ≤ m' ∧ m' ≤ 4294967295) ∧ H' = (bk, cel 125 [.slice ag g.length cg, .int .i64 (tq + 1), .int .u32 (m')]) :: H ∧ R' = R) := by
 refine fn_of Tryz.func64 rfl Tryz.ntmps64 rfl ?_
 refine sy_seq ?_
 refine sy_tx' [0] rfl ?_
 refine sp rfl (PE.assign rfl) rfl ?_
 refine sy_seq ?_
 refine sy_tx' [0, 1, 2, 3, 4, 5, 6, 7, 8] rfl ?_
 refine sp rfl (PE.move rfl) rfl ?_
 refine sp rfl (PE.move rfl) rfl ?_
 refine sp rfl (PE.move rfl) rfl ?_
 refine sp rfl (PE.move rfl) rfl ?_
 refine sp rfl (PE.sub rfl rfl (by omega)) rfl ?_
 refine sp rfl (PE.add rfl rfl (by omega)) rfl ?_
 refine cl rfl cal63 rfl rfl (c_Below g ag cg bk hgl tq mx htq hmx (hi - lo + 1) _ _) ?_
 rintro _ _ _ ⟨x, m', hx, rfl, hm', rfl, rfl⟩
 refine sp rfl (PE.add rfl rfl (by omega)) rfl ?_
 refine sp rfl (PE.assign rfl) rfl ?_
 refine sy_ret ?_
 exact sy_return (vs := [_]) rfl (.cons (RV.tmp rfl) .nil) rfl ⟨lo + x, m', ⟨by omega, by omega⟩, rfl, hm', rfl, rfl⟩ (fun _ h => h)
theorem c_Rare (g : List Int) (ag : Option Addr) (cg bk : Nat) (hgl : g.length ≤ 9223372036854775807) (tq mx : Int) (htq : 0 ≤ tq ∧ tq ≤ 1000000000) (hmx : 0 ≤ mx ∧ mx ≤ 4294967295) (n : Int) (H : Heap) (R : Facts) [hG : MemRows ag 1 (urows g) R] :
    Fn Tryz.prog 75 [.pointer (some ⟨bk, 0, none⟩), .int .i64 n] ((bk, cel 125 [.slice ag g.length cg, .int .i64 (tq), .int .u32 (mx)]) :: H) R (fun v H' R' => ∃ (x : Bool) (m' : Int), v = .bool x ∧ (0 ≤ m' ∧ m' ≤ 4294967295) ∧ H' = (bk, cel 125 [.slice ag g.length cg, .int .i64 (tq + 1), .int .u32 (m')]) :: H ∧ R' = R) := by
 refine fn_of Tryz.func75 rfl Tryz.ntmps75 rfl ?_
 refine sy_seq ?_
 refine sy_tx' [0] rfl ?_
 refine sp rfl (PE.assign rfl) rfl ?_
 refine sy_seq ?_
 refine sy_tx' [0, 1, 2, 3, 4] rfl ?_
 refine sp rfl (PE.move rfl) rfl ?_
 refine sp rfl (PE.move rfl) rfl ?_
 refine cl rfl cal63 rfl rfl (c_Below g ag cg bk hgl tq mx htq hmx n _ _) ?_
 rintro _ _ _ ⟨x, m', hx, rfl, hm', rfl, rfl⟩
 refine sp rfl (PE.eql rfl rfl) rfl ?_
 refine sp rfl (PE.assign rfl) rfl ?_
 refine sy_ret ?_
 exact sy_return (vs := [_]) rfl (.cons (RV.tmp rfl) .nil) rfl ⟨_, m', rfl, hm', rfl, rfl⟩ (fun _ h => h)
theorem OSl.freezeC {e sz : Nat} {rows : List (List Value)} (o : OSl e sz rows) : ∃ a c, o.fs = .slice a rows.length c ∧ rows.length ≤ c ∧ ∀ {H : Heap} {R : Facts} {w : World}, St (o.G ++ H) R w → St H (RowsA a sz rows :: R) w := by
  obtain ⟨fs, G, hl, his⟩ := o
  rcases his with ⟨rfl, rfl, rfl⟩ | ⟨b, cap, junk, rfl, rfl, _, hc, _⟩
  · exact ⟨none, 0, rfl, Nat.le_refl _, fun {H R w} h => (St.also (H := H) (R := R) h (f := RowsA none sz []) (fun w' _ => fun i row hi => by simp at hi))⟩
  · exact ⟨_, cap, rfl, hc, fun {H R w} h => St.rows (rest := junk) h hl⟩
structure Ord (p : List Nat) (n : Nat) : Prop where
  len : p.length = n
  nd : p.Nodup
  lt : ∀ i ∈ p, i < n
theorem Ord.nil : Ord [] 0 := ⟨rfl, List.nodup_nil, by simp⟩
theorem Ord.ins {p : List Nat} {n j : Nat} (h : Ord p n) (hj : j ≤ n) : Ord (p.take j ++ n :: p.drop j) (n + 1) := by
  have hp : (p.take j ++ n :: p.drop j).Perm (n :: p) := by
    have h1 := List.perm_middle (a := n) (l₁ := p.take j) (l₂ := p.drop j)
    rwa [List.take_append_drop] at h1
  refine ⟨by rw [hp.length_eq]; simp [h.len], hp.nodup_iff.2 (List.nodup_cons.2 ⟨fun h1 => Nat.lt_irrefl _ (h.lt n h1), h.nd⟩), fun i hi => ?_⟩
  rcases List.mem_cons.1 (hp.mem_iff.1 hi) with rfl | h1
  · omega
  · have := h.lt i h1; omega
theorem spl_ins {xs : List Int} {rest : List Value} {i : Nat} {x : Int} (hi : i < xs.length) (hr : 1 ≤ rest.length) : spl (spl (ints xs ++ rest) (0 + (i + 1) * 1) (ints (xs.drop i))) (0 + i * 1) [.int .i64 x] = ints (xs.take i ++ x :: xs.drop i) ++ rest.drop 1 := by
  rw [show 0 + (i + 1) * 1 = i + 1 from by omega, show 0 + i * 1 = i from by omega]
  obtain ⟨A, y, B, rfl, rfl⟩ := cut_at hi
  obtain ⟨r0, r, rfl⟩ : ∃ r0 r, rest = r0 :: r := by cases rest with
    | nil => simp at hr
    | cons a b => exact ⟨a, b, rfl⟩
  rw [List.drop_left, List.take_left]
  have e1 : ints (A ++ y :: B) ++ r0 :: r = (ints A ++ [.int .i64 y]) ++ ((ints B ++ [r0]) ++ r) := by simp [ints]
  have h1 := spl_at (p := ints A ++ [.int .i64 y]) (q := ints B ++ [r0]) (s := r) (vs := ints (y :: B)) (by simp [ints])
  rw [show (ints A ++ [Value.int .i64 y]).length = A.length + 1 by simp [ints]] at h1
  have h2 := spl_at (p := ints A) (q := [.int .i64 y]) (s := ints (y :: B) ++ r) (vs := [.int .i64 x]) rfl
  rw [show (ints A).length = A.length by simp [ints]] at h2
  rw [e1, h1, List.append_assoc, h2]
  simp [ints]
theorem spl_new {xs : List Int} {z junk : List Value} {i : Nat} {x : Int} (hi : i < xs.length) (hz : z.length = xs.length + 1 - i) : spl (spl ((ints (xs.take i)) ++ (z ++ junk)) (0 + i * 1) [.int .i64 x]) (0 + (i + 1) * 1) (ints (xs.drop i)) = ints (xs.take i ++ x :: xs.drop i) ++ junk := by
  rw [show 0 + (i + 1) * 1 = i + 1 from by omega, show 0 + i * 1 = i from by omega]
  obtain ⟨A, y, B, rfl, rfl⟩ := cut_at hi
  obtain ⟨z0, z1, rfl⟩ : ∃ z0 z1, z = z0 :: z1 := by cases z with
    | nil => simp only [List.length_nil, List.length_append, List.length_cons] at hz; omega
    | cons a b => exact ⟨a, b, rfl⟩
  rw [List.drop_left, List.take_left]
  have h1 := spl_at (p := ints A) (q := [z0]) (s := z1 ++ junk) (vs := [.int .i64 x]) rfl
  rw [show (ints A).length = A.length by simp [ints]] at h1
  have h2 := spl_at (p := ints A ++ [.int .i64 x]) (q := z1) (s := junk) (vs := ints (y :: B)) (by simp [ints] at hz ⊢; omega)
  rw [show (ints A ++ [Value.int .i64 x]).length = A.length + 1 by simp [ints]] at h2
  rw [show ints A ++ (z0 :: z1 ++ junk) = ints A ++ ([z0] ++ (z1 ++ junk)) from rfl, h1, ← List.append_assoc, h2]
  simp [ints]
theorem repl_len1 (n : Nat) (v : Value) : (repl n [v]).length = n := by rw [repl1, List.length_replicate]
theorem spl_len {l vs : List Value} {off : Nat} (h : off + vs.length ≤ l.length) : (spl l off vs).length = l.length := by
  unfold spl
  simp only [List.length_append, List.length_take, List.length_drop]; omega
theorem irows_flat' (l : List Int) : (irows l).flatten = ints l := irows_flat l
theorem ir_len (l : List Int) : ∀ r ∈ irows l, r.length = 1 := fun r hr => by obtain ⟨z, _, rfl⟩ := List.mem_map.1 hr; rfl
theorem c_Insert (xs : List Int) (o : OSl 3 1 (irows xs)) (i : Nat) (hi : i ≤ xs.length) (hl : xs.length ≤ 1000000) (x : Int) (bv : Nat) (H : Heap) (R : Facts) :
    Fn Tryz.prog 120 [o.fs, .int .i64 i, .slice (some ⟨bv, 0, none⟩) 1 1] ((bv, cel 3 [.int .i64 x]) :: (o.G ++ H)) R (fun v H' R' => ∃ o' : OSl 3 1 (irows (xs.take i ++ x :: xs.drop i)), v = o'.fs ∧ H' = o'.G ++ H ∧ R' = R) := by
 obtain ⟨a, c, he, hcc, _⟩ := o.freezeC
 rw [show (irows xs).length = xs.length from List.length_map _] at he hcc
 refine fn_of Tryz.func120 rfl Tryz.ntmps120 rfl ?_
 refine sy_seq ?_
 refine sy_tx' [0] rfl ?_
 refine sp rfl (PE.assign rfl) rfl ?_
 refine sy_seq ?_
 refine sy_tx' [0, 1, 2] rfl ?_
 refine sp rfl (PE.move rfl) rfl ?_
 refine sp rfl (PE.move rfl) rfl ?_
 refine sp rfl (PE.slLoA sl22 (congrArg some he) rfl hi) rfl ?_
 refine sy_seq ?_
 refine sy_tx' [0, 1, 2] rfl ?_
 refine sp rfl (PE.move rfl) rfl ?_
 refine sp rfl (PE.lenSl isl22 rfl) rfl ?_
 refine sp rfl (PE.assign rfl) rfl ?_
 refine sy_seq ?_
 refine sy_seq ?_
 refine sy_tx' [0, 1] rfl ?_
 refine sp rfl (PE.move rfl) rfl ?_
 refine sp rfl (PE.eql rfl rfl) rfl ?_
 refine sy_cond rfl (fun hc0 => ?_) (fun hc0 => ?_)
 exact absurd hc0 (by simp)
 refine sy_skip ?_
 refine sy_seq ?_
 refine sy_tx' [0, 1, 2] rfl ?_
 refine sp rfl (PE.move rfl) rfl ?_
 refine sp rfl (PE.lenSl isl22 (congrArg some he)) rfl ?_
 refine sp rfl (PE.assign rfl) rfl ?_
 refine sy_seq ?_
 refine sy_seq ?_
 refine sy_tx' [0, 1, 2] rfl ?_
 refine sp rfl (PE.move rfl) rfl ?_
 refine sp rfl (PE.move rfl) rfl ?_
 refine sp rfl (PE.eql rfl rfl) rfl ?_
 refine sy_cond rfl (fun hc1 => ?_) (fun hc1 => ?_)
 try simp only [decide_eq_true_eq, decide_eq_false_iff_not, Bool.and_eq_true, Bool.or_eq_true, Bool.not_eq_true', Int.not_le, Int.not_lt] at hc1
 obtain rfl : i = xs.length := by omega
 refine sy_seq ?_
 refine sy_tx' [0, 1, 2, 3] rfl ?_
 refine sp rfl (PE.move rfl) rfl ?_
 refine sp rfl (PE.move rfl) rfl ?_
 refine apO (o) rfl ap22 rfl rfl (rowsH (row := [.int .i64 x]) rfl) rfl rfl ((by simp only [irows, List.length_map, List.length_singleton]; omega)) rfl (fun o25 => ?_)
 refine sp rfl (PE.assign rfl) rfl ?_
 refine sy_ret ?_
 exact sy_return (vs := [_]) rfl (.cons (RV.tmp rfl) .nil) rfl ⟨o25.cast (by simp [irows]), rfl, rfl, rfl⟩ (fun w h => h.del bv)
 try simp only [decide_eq_true_eq, decide_eq_false_iff_not, Bool.and_eq_true, Bool.or_eq_true, Bool.not_eq_true', Int.not_le, Int.not_lt] at hc1
 have hin : i < xs.length := by omega
 have hir : (irows xs).length = xs.length := List.length_map _
 obtain ⟨b, cap, junk, hfs, hG, hj, hcap, hmx⟩ := o.is.resolve_left (fun h => by rw [h.1] at hir; simp at hir; omega)
 rw [hir] at hfs hcap hj
 rw [hfs, hG, irows_flat']
 refine Sy.heap (H' := (bv, cel 3 [.int .i64 x]) :: (b, cel 3 (ints xs ++ junk)) :: H) (fun w h => h) ?_
 clear he
 refine sy_skip ?_
 refine sy_seq ?_
 refine sy_seq ?_
 refine sy_tx' [0, 1, 2, 3, 4, 5] rfl ?_
 refine sp rfl (PE.move rfl) rfl ?_
 refine sp rfl (PE.move rfl) rfl ?_
 refine sp rfl (PE.add rfl rfl (by omega)) rfl ?_
 refine sp rfl (PE.move rfl) rfl ?_
 refine sp rfl (PE.capSl isl22 rfl) rfl ?_
 refine sp rfl (PE.gtr rfl rfl) rfl ?_
 refine sy_cond rfl (fun hc2 => ?_) (fun hc2 => ?_)
 try simp only [decide_eq_true_eq, decide_eq_false_iff_not, Bool.and_eq_true, Bool.or_eq_true, Bool.not_eq_true', Int.not_le, Int.not_lt] at hc2
 refine sy_seq ?_
 refine sy_tx' [0, 1, 2, 3, 4, 5, 6, 7, 8, 9] rfl ?_
 refine sp rfl (PE.move rfl) rfl ?_
 refine sp rfl (PE.move rfl) rfl ?_
 refine sp rfl (PE.slHi sl22 rfl rfl (by omega)) rfl ?_
 refine sp rfl (PE.move rfl) rfl ?_
 refine sp rfl (PE.move rfl) rfl ?_
 refine sp rfl (PE.add rfl rfl (by omega)) rfl ?_
 refine sp rfl (PE.move rfl) rfl ?_
 refine sp rfl (PE.sub rfl rfl (by omega)) rfl ?_
 rw [show (xs.length : Int) + ((1 : Nat) : Int) - i = ((xs.length + 1 - i : Nat) : Int) from by omega]
 refine apZ rfl ap22 ik3 zl3 rfl rfl (by omega) (by omega) (by omega) (by omega) (by rw [List.length_append, ints_length]; omega) rfl (fun b2 cap2 jk2 hc1 hc2 hc3 => ?_)
 refine sp rfl (PE.assign rfl) rfl ?_
 refine sy_seq ?_
 refine sy_tx' [0, 1, 2, 3, 4] rfl ?_
 refine sp rfl (PE.move rfl) rfl ?_
 refine sp rfl (PE.move rfl) rfl ?_
 rw [show i + (xs.length + 1 - i) = xs.length + 1 from by omega] at hc1 hc3 ⊢
 rw [show (ints xs ++ junk).take (i * 1) = ints (xs.take i) from by rw [Nat.mul_one, List.take_append_of_le_length (by rw [ints_length]; omega)]; simp [ints, List.map_take]]
 refine sp rfl (PE.slLo sl22 rfl rfl (by omega) (by omega)) rfl ?_
 refine sp rfl (PE.move rfl) rfl ?_
 refine cpyA [.int .i64 x] rfl sl22 rfl rfl (by show 1 = Nat.min 1 (xs.length + 1 - i) * 1; rw [show Nat.min 1 (xs.length + 1 - i) = 1 from Nat.min_eq_left (by omega)]) (heldAt (l := [.int .i64 x]) (e2 := 3) (fun j v h => by simpa using h)) rfl (by simp only [List.length_append, ints_length, List.length_take, repl_len1, List.length_singleton]; omega) rfl ?_
 refine sy_seq ?_
 refine sy_draw [0, 0, 0, 6, 15, 0, 0, 96, 255] (.tk 0 (.tk 1 (.tk 2 (.tk 3 (.tk 4 (.tk 5 (.tk 6 (.tk 7 (.big 8 .done))))))))) mixed (by kernel_rfl) ?_
 refine tk rfl (PE.move rfl) rfl ?_
 refine tk rfl (PE.move rfl) rfl ?_
 refine tk rfl (PE.move rfl) rfl ?_
 refine tk rfl (PE.add rfl rfl (by omega)) rfl ?_
 rw [show (i : Int) + ((1 : Nat) : Int) = ((i + 1 : Nat) : Int) from by omega]
 refine tk rfl (PE.slLo sl22 rfl rfl (by omega) (by omega)) rfl ?_
 refine tk rfl (PE.move rfl) rfl ?_
 refine tk rfl (PE.move rfl) rfl ?_
 refine tk rfl (PE.slLo sl22 rfl rfl (by omega) (by omega)) rfl ?_
 refine cpyA (ints (xs.drop i)) rfl sl22 rfl rfl (by rw [ints_length, List.length_drop, show xs.length + 1 - (i + 1) = xs.length - i from by omega]; simp) (heldAt (l := ints xs ++ junk) (e2 := 3) (fun j v h => by
   have h1 := (List.getElem?_eq_some_iff.1 h).1
   rw [ints_length, List.length_drop] at h1
   rw [show 0 + i * 1 + j = i + j from by omega, List.getElem?_append_left (by rw [ints_length]; omega)]
   simpa [ints] using h)) (ints_one _) (by rw [spl_len (by simp only [List.length_append, ints_length, List.length_take, repl_len1, List.length_singleton, List.length_drop]; omega)]; simp only [List.length_append, ints_length, List.length_take, repl_len1, List.length_singleton, List.length_drop]; omega) rfl ?_
 refine bg (fun w hs => trivial) ?_
 refine sy_seq ?_
 refine sy_tx' [0, 1] rfl ?_
 rw [spl_new hin (by rw [repl_len1])]
 refine sp rfl (PE.move rfl) rfl ?_
 refine sp rfl (PE.assign rfl) rfl ?_
 refine sy_ret ?_
 obtain ⟨ys, hys⟩ : ∃ ys, ys = xs.take i ++ x :: xs.drop i := ⟨_, rfl⟩
 have hyl : ys.length = xs.length + 1 := by rw [hys]; simp; omega
 rw [← hys]
 have hyi : (irows ys).length = xs.length + 1 := by rw [List.length_map, hyl]
 exact sy_return (vs := [_]) rfl (.cons (RV.tmp rfl) .nil) rfl ⟨(⟨.slice (some ⟨b2, 0, none⟩) (irows ys).length cap2, [(b2, cel 3 ((irows ys).flatten ++ jk2))], ir_len _, .inr ⟨b2, cap2, jk2, rfl, rfl, by rw [hyi]; first | omega | (rw [List.length_drop]; omega), by rw [hyi]; omega, hc2⟩⟩ : OSl 3 1 (irows ys)).cast (by rw [hys]), congrArg (fun q => Value.slice (some ⟨b2, 0, none⟩) q cap2) hyi.symm, rfl, rfl⟩ (fun w h => by
   show St ((b2, cel 3 ((irows ys).flatten ++ jk2)) :: H) R w
   rw [irows_flat']
   exact ((h.del bv).del b))
 try simp only [decide_eq_true_eq, decide_eq_false_iff_not, Bool.and_eq_true, Bool.or_eq_true, Bool.not_eq_true', Int.not_le, Int.not_lt] at hc2
 refine sy_skip ?_
 refine sy_seq ?_
 refine sy_tx' [0, 1, 2, 3, 4, 5] rfl ?_
 refine sp rfl (PE.move rfl) rfl ?_
 refine sp rfl (PE.move rfl) rfl ?_
 refine sp rfl (PE.move rfl) rfl ?_
 refine sp rfl (PE.add rfl rfl (by omega)) rfl ?_
 rw [show (xs.length : Int) + ((1 : Nat) : Int) = ((xs.length + 1 : Nat) : Int) from by omega]
 refine sp rfl (PE.slHi sl22 rfl rfl (by omega)) rfl ?_
 refine sp rfl (PE.assign rfl) rfl ?_
 refine sy_seq ?_
 refine sy_seq ?_
 refine sy_tx' [0, 1, 2, 3, 4, 5, 6, 7] rfl ?_
 refine sp rfl (PE.move rfl) rfl ?_
 refine sp rfl (PE.move rfl) rfl ?_
 refine sp rfl (PE.move rfl) rfl ?_
 refine sp rfl (PE.move rfl) rfl ?_
 refine sp rfl (PE.add rfl rfl (by omega)) rfl ?_
 rw [show (i : Int) + ((1 : Nat) : Int) = ((i + 1 : Nat) : Int) from by omega]
 refine sp rfl (PE.slLo sl22 rfl rfl (by omega) (by omega)) rfl ?_
 refine clX rfl rfl rfl (fun w hs => run_ovl (xa := [.int .i64 x]) (xb := ints xs ++ junk) (eA := 3) (eB := 3) (tS := 22) (tR := 4) Tryz.func132 (by kernel_rfl) (by kernel_rfl) (by kernel_rfl) (by kernel_rfl) sl22 (fun e9 => ?_) (by simp [ints]; intro e9 _; rw [e9] at hin; simp at hin) (hs.held (bv, _) (by simp)) (hs.held (b, _) (by simp))) ?_
 · subst e9
   have := hs.nd
   simp at this
 refine sp rfl (PE.not rfl) rfl ?_
 refine sy_condT (rfl) ?_
 refine sy_seq ?_
 refine sy_draw [0, 0, 0, 6, 15, 0, 0, 96, 255] (.tk 0 (.tk 1 (.tk 2 (.tk 3 (.tk 4 (.tk 5 (.tk 6 (.tk 7 (.big 8 .done))))))))) mixed (by kernel_rfl) ?_
 refine tk rfl (PE.move rfl) rfl ?_
 refine tk rfl (PE.move rfl) rfl ?_
 refine tk rfl (PE.move rfl) rfl ?_
 refine tk rfl (PE.add rfl rfl (by omega)) rfl ?_
 rw [show (i : Int) + ((1 : Nat) : Int) = ((i + 1 : Nat) : Int) from by omega]
 refine tk rfl (PE.slLo sl22 rfl rfl (by omega) (by omega)) rfl ?_
 refine tk rfl (PE.move rfl) rfl ?_
 refine tk rfl (PE.move rfl) rfl ?_
 refine tk rfl (PE.slLo sl22 rfl rfl (by omega) (by omega)) rfl ?_
 refine cpyA (ints (xs.drop i)) rfl sl22 rfl rfl (by rw [ints_length, List.length_drop, show xs.length + 1 - (i + 1) = xs.length - i from by omega, show Nat.min (xs.length + 1 - i) (xs.length - i) = xs.length - i from Nat.min_eq_right (by omega)]; omega) (heldAt (l := ints xs ++ junk) (e2 := 3) (fun j v h => by
   have h1 := (List.getElem?_eq_some_iff.1 h).1
   rw [ints_length, List.length_drop] at h1
   rw [show 0 + i * 1 + j = i + j from by omega, List.getElem?_append_left (by rw [ints_length]; omega)]
   simpa [ints] using h)) (ints_one _) (by simp only [List.length_append, ints_length, List.length_drop]; omega) rfl ?_
 refine bg (fun w hs => trivial) ?_
 refine sy_seq ?_
 refine sy_tx' [0, 1, 2, 3, 4] rfl ?_
 refine sp rfl (PE.move rfl) rfl ?_
 refine sp rfl (PE.move rfl) rfl ?_
 refine sp rfl (PE.slLo sl22 rfl rfl (by omega) (by omega)) rfl ?_
 refine sp rfl (PE.move rfl) rfl ?_
 refine cpyA [.int .i64 x] rfl sl22 rfl rfl (by show 1 = Nat.min 1 (xs.length + 1 - i) * 1; rw [show Nat.min 1 (xs.length + 1 - i) = 1 from Nat.min_eq_left (by omega)]) (heldAt (l := [.int .i64 x]) (e2 := 3) (fun j v h => by simpa using h)) rfl (by rw [spl_len (by simp only [List.length_append, ints_length, List.length_singleton, List.length_drop]; omega)]; simp only [List.length_append, ints_length, List.length_singleton, List.length_drop]; omega) rfl ?_
 refine sy_seq ?_
 refine sy_tx' [0, 1] rfl ?_
 rw [spl_ins hin (by omega)]
 refine sp rfl (PE.move rfl) rfl ?_
 refine sp rfl (PE.assign rfl) rfl ?_
 refine sy_ret ?_
 obtain ⟨ys, hys⟩ : ∃ ys, ys = xs.take i ++ x :: xs.drop i := ⟨_, rfl⟩
 have hyl : ys.length = xs.length + 1 := by rw [hys]; simp; omega
 rw [← hys]
 have hyi : (irows ys).length = xs.length + 1 := by rw [List.length_map, hyl]
 exact sy_return (vs := [_]) rfl (.cons (RV.tmp rfl) .nil) rfl ⟨(⟨.slice (some ⟨b, 0, none⟩) (irows ys).length cap, [(b, cel 3 ((irows ys).flatten ++ junk.drop 1))], ir_len _, .inr ⟨b, cap, junk.drop 1, rfl, rfl, by rw [hyi]; first | omega | (rw [List.length_drop]; omega), by rw [hyi]; omega, hmx⟩⟩ : OSl 3 1 (irows ys)).cast (by rw [hys]), congrArg (fun q => Value.slice (some ⟨b, 0, none⟩) q cap) hyi.symm, rfl, rfl⟩ (fun w h => by
   show St ((b, cel 3 ((irows ys).flatten ++ junk.drop 1)) :: H) R w
   rw [irows_flat']
   exact h.del bv)
theorem c_Shuffle (l0 : List Int) (a0 : Option Addr) (c0 bk : Nat) (hgl : l0.length ≤ 9223372036854775807) (tq mx : Int) (htq : 0 ≤ tq ∧ tq ≤ 100000) (hmx : 0 ≤ mx ∧ mx ≤ 4294967295) (n : Nat) (hn : n ≤ 1000) (H : Heap) (R : Facts) [hG : MemRows a0 1 (urows l0) R] :
    Fn Tryz.prog 74 [.pointer (some ⟨bk, 0, none⟩), .int .i64 n] ((bk, cel 125 [.slice a0 l0.length c0, .int .i64 (tq), .int .u32 (mx)]) :: H) R (fun v H' R' => ∃ (p : List Nat) (o : OSl 3 1 (irows (p.map fun (j : Nat) => (j : Int)))) (tq' mx' : Int), Ord p n ∧ v = o.fs ∧ (tq ≤ tq' ∧ tq' ≤ tq + n) ∧ (0 ≤ mx' ∧ mx' ≤ 4294967295) ∧ H' = (bk, cel 125 [.slice a0 l0.length c0, .int .i64 (tq'), .int .u32 (mx')]) :: (o.G ++ H) ∧ R' = R) := by
 refine fn_of Tryz.func74 rfl Tryz.ntmps74 rfl ?_
 refine sy_seq ?_
 refine sy_tx' [0] rfl ?_
 refine sp rfl (PE.assign rfl) rfl ?_
 refine sy_seq ?_
 refine sy_tx' [0] rfl ?_
 refine sp rfl (PE.assign rfl) rfl ?_
 refine sy_seq ?_
 refine sy_seq ?_
 refine sy_tx' [0, 1] rfl ?_
 refine sp rfl (PE.move rfl) rfl ?_
 refine sp rfl (PE.move rfl) rfl ?_
 refine sy_block ?_
 refine sy_loop (ι := (x : {x : Nat × List Nat × Int × Int // x.1 ≤ n ∧ Ord x.2.1 x.1 ∧ (tq ≤ x.2.2.1 ∧ x.2.2.1 ≤ tq + x.1) ∧ (0 ≤ x.2.2.2 ∧ x.2.2.2 ≤ 4294967295)}) × OSl 3 1 (irows (x.1.2.1.map fun (j : Nat) => (j : Int)))) (fun x => ⟨[(0, .pointer (some ⟨bk, 0, none⟩)), (5, x.2.fs), (7, .int .i64 n), (8, .int .i64 x.1.1.1)], (bk, cel 125 [.slice a0 l0.length c0, .int .i64 (x.1.1.2.2.1), .int .u32 (x.1.1.2.2.2)]) :: (x.2.G ++ H), R⟩) (fun x => n - x.1.1.1) ⟨⟨(0, [], tq, mx), by omega, Ord.nil, by dsimp only; omega, by assumption⟩, OSl.nil _ _⟩ ?_ (fun x => ?_)
 exact sy_at (by repeat' first | exact Sub.nil | apply Sub.cons | rfl | (simp [lk]; omega)) (fun _ h => h)
 obtain ⟨⟨⟨k, p, tq2, mx2⟩, hk, hp, htq2, hmx2⟩, o⟩ := x
 dsimp only at hk hp htq2 hmx2 o ⊢
 have hpl := hp.len
 refine sy_seq ?_
 refine sy_tx' [0] rfl ?_
 refine sp rfl (PE.lss rfl rfl) rfl ?_
 refine sy_seq ?_
 refine sy_cond rfl (fun hc0 => ?_) (fun hc0 => ?_)
 try simp only [decide_eq_true_eq, decide_eq_false_iff_not, Bool.and_eq_true, Bool.or_eq_true, Bool.not_eq_true', Int.not_le, Int.not_lt] at hc0
 refine sy_skip ?_
 refine sy_seq ?_
 refine sy_block ?_
 refine sy_seq ?_
 refine sy_tx' [0, 1] rfl ?_
 refine sp rfl (PE.move rfl) rfl ?_
 refine sp rfl (PE.assign rfl) rfl ?_
 refine sy_tx' [0, 1, 2, 3, 4, 5, 6, 7, 8] rfl ?_
 refine sp rfl (PE.move rfl) rfl ?_
 refine sp rfl (PE.move rfl) rfl ?_
 refine sp rfl (PE.move rfl) rfl ?_
 refine sp rfl (PE.add rfl rfl (by omega)) rfl ?_
 refine cl rfl cal63 rfl rfl (c_Below l0 a0 c0 bk hgl _ _ (by omega) (by assumption) ((k : Int) + 1) _ _) ?_
 rintro _ _ R1 ⟨x15, m15, hx15, rfl, hm15, rfl, hR1⟩
 obtain rfl := hR1.symm
 obtain ⟨j, hj⟩ : ∃ j : Nat, x15 = j := ⟨x15.toNat, by omega⟩
 rw [hj]
 have hjk : j ≤ k := by omega
 refine sp rfl (PE.move rfl) rfl ?_
 refine bsl (out := [_]) rfl sl22 zl3 rfl rfl rfl rfl rfl rfl (fun b17 => ?_)
 refine Sy.heap (H' := (b17, cel 3 [.int .i64 (k : Int)]) :: (o.G ++ ((bk, cel 125 [.slice a0 l0.length c0, .int .i64 (tq2 + 1), .int .u32 (m15)]) :: H))) (fun w h => h.perm (List.Perm.cons _ List.perm_middle.symm)) ?_
 refine cl rfl cal120 rfl rfl (c_Insert (p.map fun (j : Nat) => (j : Int)) o j (by simp [hpl]; omega) (by simp [hpl]; omega) (k : Int) b17 _ _) ?_
 rintro _ _ R1 ⟨o18, rfl, rfl, hR1⟩
 obtain rfl := hR1.symm
 clear hR1
 refine sp rfl (PE.assign rfl) rfl ?_
 refine sy_tx' [0, 1] rfl ?_
 refine sp rfl (PE.add rfl rfl (by omega)) rfl ?_
 refine sp rfl (PE.move rfl) rfl ?_
 exact sy_next ⟨⟨(k + 1, p.take j ++ k :: p.drop j, tq2 + 1, m15), by omega, hp.ins hjk, by dsimp only; omega, by assumption⟩, o18.cast (by simp [irows, List.map_take, List.map_drop])⟩ (by dsimp only; omega) (by repeat' first | exact Sub.nil | apply Sub.cons | rfl | (simp [lk]; omega)) (fun w h => h.perm List.perm_middle)
 try simp only [decide_eq_true_eq, decide_eq_false_iff_not, Bool.and_eq_true, Bool.or_eq_true, Bool.not_eq_true', Int.not_le, Int.not_lt] at hc0
 obtain rfl : k = n := by omega
 refine sy_exit ?_
 repeat refine sy_tx ?_
 refine sy_bx ?_
 refine sy_seq ?_
 refine sy_tx' [0, 1] rfl ?_
 refine sp rfl (PE.move rfl) rfl ?_
 refine sp rfl (PE.assign rfl) rfl ?_
 refine sy_ret ?_
 exact sy_return (vs := [_]) rfl (.cons (RV.tmp rfl) .nil) rfl ⟨p, o, tq2, mx2, hp, rfl, by omega, by assumption, rfl, rfl⟩ (fun _ h => h)
structure InsI (l xs : List Int) (i j : Nat) : Prop where
  perm : xs.Perm l
  le : j ≤ i
  at_ : ∀ p q, p < q → q ≤ i → q ≠ j → nn xs p ≤ nn xs q
structure SrtI (l xs : List Int) (i : Nat) : Prop where
  perm : xs.Perm l
  at_ : ∀ p q, p < q → q < i → nn xs p ≤ nn xs q
theorem SrtI.start (l : List Int) : SrtI l l 1 := ⟨.refl _, fun p q h1 h2 => by omega⟩
theorem SrtI.ins {l xs : List Int} {i : Nat} (h : SrtI l xs i) : InsI l xs i i := ⟨h.perm, Nat.le_refl _, fun p q h1 h2 h3 => h.at_ p q h1 (by omega)⟩
theorem InsI.done {l xs : List Int} {i j : Nat} (h : InsI l xs i j) (hj : j = 0 ∨ nn xs (j - 1) ≤ nn xs j) : SrtI l xs (i + 1) := ⟨h.perm, fun p q h1 h2 => by
  by_cases hq : q = j
  · subst hq
    have h3 : nn xs (q - 1) ≤ nn xs q := hj.resolve_left (by omega)
    by_cases hp : p = q - 1
    · subst hp; exact h3
    · have := h.at_ p (q - 1) (by omega) (by omega) (by omega); omega
  · exact h.at_ p q h1 (by omega) hq⟩
theorem nn_at {xs : List Int} {k : Nat} (h : k < xs.length) : nn xs k = xs[k] := by unfold nn; rw [List.getD_eq_getElem?_getD, List.getElem?_eq_getElem h]; rfl
theorem InsI.swap {l xs : List Int} {i j : Nat} (h : InsI l xs i j) (hj : 0 < j) (hi : i < xs.length) (hlt : nn xs j < nn xs (j - 1)) : InsI l ((xs.set j (nn xs (j - 1))).set (j - 1) (nn xs j)) i (j - 1) := by
  have hle := h.le
  have hv : ∀ q, nn ((xs.set j (nn xs (j - 1))).set (j - 1) (nn xs j)) q = if q = j - 1 then nn xs j else if q = j then nn xs (j - 1) else nn xs q := fun q => by
    rw [nn_set (by rw [List.length_set]; omega), nn_set (by omega)]
    by_cases h1 : q = j - 1
    · subst h1; simp
    · have e1 : (j - 1 == q) = false := by simp; omega
      rw [e1, if_neg h1]
      by_cases h2 : q = j
      · subst h2; simp
      · have e2 : (j == q) = false := by simp; omega
        rw [e2, if_neg h2]; rfl
  refine ⟨?_, by omega, fun p q h1 h2 h3 => ?_⟩
  · have e := @List.set_set_perm Int xs j (j - 1) (by omega) (by omega)
    rw [nn_at (k := j - 1) (by omega), nn_at (k := j) (by omega)]
    exact e.trans h.perm
  · rw [hv p, hv q]
    have A := h.at_ p q h1 h2
    have B := h.at_ p (j - 1)
    have C := h.at_ j q
    have E := h.at_ (j - 1) q
    rw [if_neg h3]
    by_cases hq : q = j
    · rw [if_pos hq]
      split
      · omega
      · rw [if_neg (by omega)]; exact B (by omega) (by omega) (by omega)
    · rw [if_neg hq]
      split
      · exact C (by omega) h2 hq
      · split
        · exact E (by omega) h2 hq
        · exact A hq
theorem int_at {xs : List Int} {junk : List Value} {k : Nat} (h : k < xs.length) : (ints xs ++ junk)[0 + ((k : Nat) : Int).toNat * 1]? = some (.int .i64 (nn xs k)) := by
  rw [show 0 + ((k : Nat) : Int).toNat * 1 = k by omega, List.getElem?_append_left (by rw [ints_length]; exact h), nn_at h]
  simp [ints, h]
theorem spl_int {xs : List Int} {junk : List Value} {k : Nat} (h : k < xs.length) (v : Int) : spl (ints xs ++ junk) (0 + ((k : Nat) : Int).toNat * 1) [.int .i64 v] = ints (xs.set k v) ++ junk := by
  rw [show 0 + ((k : Nat) : Int).toNat * 1 = k by omega]
  obtain ⟨A, y, B, rfl, rfl⟩ := cut_at h
  have h1 := spl_at (p := ints A) (q := [.int .i64 y]) (s := ints B ++ junk) (vs := [.int .i64 v]) rfl
  rw [show (ints A).length = A.length by simp [ints]] at h1
  rw [show ints (A ++ y :: B) ++ junk = ints A ++ ([.int .i64 y] ++ (ints B ++ junk)) by simp [ints], h1]
  simp [ints]
theorem c_Less (x y : Int) (H : Heap) (R : Facts) :
    FnV Tryz.prog 111 [.int .i64 x, .int .i64 y] H R (.bool (decide (x < y))) := by
 refine fn_of Tryz.func111 rfl Tryz.ntmps111 rfl ?_
 refine sy_seq ?_
 refine sy_tx' [0] rfl ?_
 refine sp rfl (PE.assign rfl) rfl ?_
 refine sy_seq ?_
 refine sy_tx' [0, 1, 2, 3, 4, 5, 6, 7, 8, 9, 10, 11, 12] rfl ?_
 refine sp rfl (PE.move rfl) rfl ?_
 refine clV rfl cal131 rfl rfl (c_isNaN x _ _) ?_
 refine sp rfl (PE.move rfl) rfl ?_
 repeat refine spN rfl rfl rfl rfl rfl rfl rfl rfl ?_
 refine sp rfl (PE.pick rfl rfl rfl) rfl ?_
 refine sp rfl (PE.move rfl) rfl ?_
 refine spG rfl rfl rfl rfl (PE.move rfl) rfl ?_
 refine spG rfl rfl rfl rfl (PE.move rfl) rfl ?_
 refine spG rfl rfl rfl rfl (PE.lss rfl rfl) rfl ?_
 refine sp rfl (PE.pick rfl rfl rfl) rfl ?_
 refine sp rfl (PE.assign rfl) rfl ?_
 refine sy_ret ?_
 exact sy_return (vs := [_]) rfl (.cons (RV.tmp rfl) .nil) rfl ⟨rfl, rfl, rfl⟩ drp
theorem c_insB (l : List Int) (b cap : Nat) (junk : List Value) (hl : l.length ≤ 12) (H : Heap) (R : Facts) :
    Fn Tryz.prog 134 [.slice (some ⟨b, 0, none⟩) l.length cap, .int .i64 0, .int .i64 l.length] ((b, cel 3 (ints l ++ junk)) :: H) R (fun v H' R' => ∃ ys, SrtI l ys l.length ∧ v = .tuple #[] ∧ H' = (b, cel 3 (ints ys ++ junk)) :: H ∧ R' = R) := by
 refine fn_of Tryz.func134 rfl Tryz.ntmps134 rfl ?_
 refine sy_seq ?_
 refine sy_tx' [0, 1, 2] rfl ?_
 refine sp rfl (PE.move rfl) rfl ?_
 refine sp rfl (PE.add rfl rfl (by omega)) rfl ?_
 refine sp rfl (PE.assign rfl) rfl ?_
 refine sy_block ?_
 refine sy_loop (ι := {x : Nat × List Int // 1 ≤ x.1 ∧ x.1 ≤ 13 ∧ SrtI l x.2 x.1}) (fun x => ⟨[(0, .slice (some ⟨b, 0, none⟩) l.length cap), (1, .int .i64 0), (2, .int .i64 l.length), (6, .int .i64 x.1.1)], (b, cel 3 (ints x.1.2 ++ junk)) :: H, R⟩) (fun x => l.length - x.1.1) ⟨(1, l), by omega, by omega, SrtI.start l⟩ ?_ (fun x => ?_)
 exact sy_at (by repeat' first | exact Sub.nil | apply Sub.cons | rfl | (simp [lk]; omega)) (fun _ h => h)
 ·
  obtain ⟨⟨i, xs⟩, hi1, hi2, hs⟩ := x
  dsimp only at hi1 hi2 hs ⊢
  have hxl := hs.perm.length_eq
  refine sy_seq ?_
  refine sy_seq ?_
  refine sy_tx' [0, 1, 2] rfl ?_
  refine sp rfl (PE.move rfl) rfl ?_
  refine sp rfl (PE.move rfl) rfl ?_
  refine sp rfl (PE.lss rfl rfl) rfl ?_
  refine sy_cond rfl (fun hc0 => ?_) (fun hc0 => ?_)
  ·
   try simp only [decide_eq_true_eq, decide_eq_false_iff_not, Bool.and_eq_true, Bool.or_eq_true, Bool.not_eq_true', Int.not_le, Int.not_lt] at hc0
   refine sy_skip ?_
   refine sy_seq ?_
   refine sy_block ?_
   refine sy_seq ?_
   refine sy_tx' [0, 1] rfl ?_
   refine sp rfl (PE.move rfl) rfl ?_
   refine sp rfl (PE.assign rfl) rfl ?_
   refine sy_block ?_
   refine sy_loop (ι := {x : Nat × List Int // InsI l x.2 i x.1}) (fun x => ⟨[(0, .slice (some ⟨b, 0, none⟩) l.length cap), (1, .int .i64 0), (2, .int .i64 l.length), (6, .int .i64 i), (7, .int .i64 x.1.1)], (b, cel 3 (ints x.1.2 ++ junk)) :: H, R⟩) (fun x => x.1.1) ⟨(i, xs), hs.ins⟩ ?_ (fun x => ?_)
   exact sy_at (by repeat' first | exact Sub.nil | apply Sub.cons | rfl | (simp [lk]; omega)) (fun _ h => h)
   ·
    obtain ⟨⟨j, ys⟩, hy⟩ := x
    dsimp only at hy ⊢
    have hyl := hy.perm.length_eq
    have hyj := hy.le
    refine sy_seq ?_
    refine sy_seq ?_
    refine sy_draw [0, 0, 3, 7, 15, 15, 63, 127, 15, 15, 527, 1807, 3855, 8191, 16383] (.tk 0 (.tk 1 (.tk 2 (.tk 3 (.tk 4 (.tk 5 (.tk 6 (.ld 7 (.tk 8 (.tk 9 (.tk 10 (.tk 11 (.ld 12 (.big 13 (.tk 14 .done))))))))))))))) mixed (by kernel_rfl) ?_
    refine tk rfl (PE.move rfl) rfl ?_
    refine tk rfl (PE.move rfl) rfl ?_
    refine tk rfl (PE.gtr rfl rfl) rfl ?_
    refine tk rfl (PE.move rfl) rfl ?_
    refine sy_case (t := 19) rfl (fun g19 => ?_) (fun g19 => ?_)
    ·
     try simp only [decide_eq_true_eq, decide_eq_false_iff_not, Bool.and_eq_true, Bool.or_eq_true, Bool.not_eq_true', Int.not_le, Int.not_lt] at g19
     refine tkG rfl rfl rfl rfl (PE.move rfl) rfl ?_
     refine tkG rfl rfl rfl rfl (PE.move rfl) rfl ?_
     refine tkG rfl rfl rfl rfl (PE.indexAddr el22 rfl rfl (by omega) (by omega)) rfl ?_
     refine ldG rfl rfl rfl rfl rfl (lh sc3 rfl (int_at (by omega))) rfl ?_
     refine tkG rfl rfl rfl rfl (PE.move rfl) rfl ?_
     refine tkG rfl rfl rfl rfl (PE.move rfl) rfl ?_
     refine tkG rfl rfl rfl rfl (PE.sub rfl rfl (by omega)) rfl ?_
     rw [show (j : Int) - 1 = ((j - 1 : Nat) : Int) from by omega]
     refine tkG rfl rfl rfl rfl (PE.indexAddr el22 rfl rfl (by omega) (by omega)) rfl ?_
     refine ldG rfl rfl rfl rfl rfl (lh sc3 rfl (int_at (by omega))) rfl ?_
     refine clVG rfl rfl rfl rfl cal111 rfl rfl (c_Less _ _ _ _) ?_
     refine bg (fun w hs => ⟨trivial, trivial, trivial⟩) ?_
     refine tk rfl (PE.pick rfl rfl rfl) rfl ?_
     refine sy_cond rfl (fun hc1 => ?_) (fun hc1 => ?_)
     ·
      try simp only [decide_eq_true_eq, decide_eq_false_iff_not, Bool.and_eq_true, Bool.or_eq_true, Bool.not_eq_true', Int.not_le, Int.not_lt] at hc1
      refine sy_skip ?_
      refine sy_seq ?_
      refine sy_block ?_
      refine sy_draw [0, 0, 0, 0, 8, 0, 0, 64, 224, 480, 0, 0, 3072, 7168, 16355, 32739, 65535, 131071] (.tk 0 (.tk 1 (.tk 2 (.tk 3 (.tk 4 (.tk 5 (.tk 6 (.tk 7 (.tk 8 (.ld 9 (.tk 10 (.tk 11 (.tk 12 (.ld 13 (.tk 14 (.big 15 (.tk 16 (.big 17 .done)))))))))))))))))) mixed (by kernel_rfl) ?_
      refine tk rfl (PE.move rfl) rfl ?_
      refine tk rfl (PE.move rfl) rfl ?_
      refine tk rfl (PE.move rfl) rfl ?_
      refine tk rfl (PE.move rfl) rfl ?_
      refine tk rfl (PE.sub rfl rfl (by omega)) rfl ?_
      refine tk rfl (PE.move rfl) rfl ?_
      refine tk rfl (PE.move rfl) rfl ?_
      refine tk rfl (PE.sub rfl rfl (by omega)) rfl ?_
      rw [show (j : Int) - 1 = ((j - 1 : Nat) : Int) from by omega]
      refine tk rfl (PE.indexAddr el22 rfl rfl (by omega) (by omega)) rfl ?_
      refine ld rfl rfl (lh sc3 rfl (int_at (by omega))) rfl ?_
      refine tk rfl (PE.move rfl) rfl ?_
      refine tk rfl (PE.move rfl) rfl ?_
      refine tk rfl (PE.indexAddr el22 rfl rfl (by omega) (by omega)) rfl ?_
      refine ld rfl rfl (lh sc3 rfl (int_at (by omega))) rfl ?_
      refine tk rfl (PE.indexAddr el22 rfl rfl (by omega) (by omega)) rfl ?_
      refine stoE (l' := ints ((ys).set j (nn ys (j - 1))) ++ junk) rfl rfl rfl cn3 rfl rfl rfl (spl_int (show j < ys.length by omega) _) (by rw [List.length_append, ints_length]; show 0 + ((j : Nat) : Int).toNat * 1 + 1 ≤ _; have := (show j < ys.length by omega); omega) ?_
      refine bg (fun w hs => ⟨trivial, trivial, trivial⟩) ?_
      refine tk rfl (PE.indexAddr el22 rfl rfl (by omega) (by omega)) rfl ?_
      refine stoE (l' := ints ((ys.set j (nn ys (j - 1))).set (j - 1) (nn ys j)) ++ junk) rfl rfl rfl cn3 rfl rfl rfl (spl_int (show j - 1 < (ys.set j (nn ys (j - 1))).length by rw [List.length_set]; omega) _) (by rw [List.length_append, ints_length]; show 0 + (((j - 1) : Nat) : Int).toNat * 1 + 1 ≤ _; have := (show j - 1 < (ys.set j (nn ys (j - 1))).length by rw [List.length_set]; omega); omega) ?_
      refine bg (fun w hs => trivial) ?_
      refine sy_tx' [0, 1, 2] rfl ?_
      refine sp rfl (PE.move rfl) rfl ?_
      refine sp rfl (PE.sub rfl rfl (by omega)) rfl ?_
      refine sp rfl (PE.assign rfl) rfl ?_
      rw [show (j : Int) - 1 = ((j - 1 : Nat) : Int) from by omega]
      exact sy_next ⟨(j - 1, (ys.set j (nn ys (j - 1))).set (j - 1) (nn ys j)), hy.swap (by omega) (by omega) (by omega)⟩ (by dsimp only; omega) (by repeat' first | exact Sub.nil | apply Sub.cons | rfl | (simp [lk]; omega)) (fun _ h => h)
     try simp only [decide_eq_true_eq, decide_eq_false_iff_not, Bool.and_eq_true, Bool.or_eq_true, Bool.not_eq_true', Int.not_le, Int.not_lt] at hc1
     have hfd := hy.done (.inr (by omega))
     refine sy_exit ?_
     repeat refine sy_tx ?_
     refine sy_bx ?_
     refine sy_tx' [0, 1, 2] rfl ?_
     refine sp rfl (PE.move rfl) rfl ?_
     refine sp rfl (PE.add rfl rfl (by omega)) rfl ?_
     refine sp rfl (PE.assign rfl) rfl ?_
     exact sy_next ⟨(i + 1, ys), by omega, by omega, hfd⟩ (by dsimp only; omega) (by repeat' first | exact Sub.nil | apply Sub.cons | rfl | (simp [lk]; omega)) (fun _ h => h)
    try simp only [decide_eq_true_eq, decide_eq_false_iff_not, Bool.and_eq_true, Bool.or_eq_true, Bool.not_eq_true', Int.not_le, Int.not_lt] at g19
    have hfd := hy.done (.inl (by omega))
    repeat refine tkN rfl rfl rfl rfl rfl rfl rfl rfl ?_
    refine ldN rfl rfl rfl rfl rfl rfl rfl rfl ?_
    repeat refine tkN rfl rfl rfl rfl rfl rfl rfl rfl ?_
    refine ldN rfl rfl rfl rfl rfl rfl rfl rfl ?_
    refine spN rfl rfl rfl rfl rfl rfl rfl rfl ?_
    refine bg (fun w hs => ⟨trivial, trivial, trivial⟩) ?_
    refine tk rfl (PE.pick rfl rfl rfl) rfl ?_
    refine sy_condF rfl ?_
    refine sy_exit ?_
    repeat refine sy_tx ?_
    refine sy_bx ?_
    refine sy_tx' [0, 1, 2] rfl ?_
    refine sp rfl (PE.move rfl) rfl ?_
    refine sp rfl (PE.add rfl rfl (by omega)) rfl ?_
    refine sp rfl (PE.assign rfl) rfl ?_
    exact sy_next ⟨(i + 1, ys), by omega, by omega, hfd⟩ (by dsimp only; omega) (by repeat' first | exact Sub.nil | apply Sub.cons | rfl | (simp [lk]; omega)) (fun _ h => h)
  try simp only [decide_eq_true_eq, decide_eq_false_iff_not, Bool.and_eq_true, Bool.or_eq_true, Bool.not_eq_true', Int.not_le, Int.not_lt] at hc0
  have hfin : SrtI l xs l.length := ⟨hs.perm, fun p q h1 h2 => hs.at_ p q h1 (by omega)⟩
  refine sy_exit ?_
  repeat refine sy_tx ?_
  refine sy_bx ?_
  exact sy_fall (vs := []) rfl .nil rfl ⟨xs, hfin, rfl, rfl, rfl⟩ (fun _ h => h)
theorem c_insN (H : Heap) (R : Facts) :
    FnV Tryz.prog 134 [.slice none 0 0, .int .i64 0, .int .i64 (([] : List Int).length : Nat)] H R (.tuple #[]) := by
 refine fn_of Tryz.func134 rfl Tryz.ntmps134 rfl ?_
 refine sy_seq ?_
 refine sy_tx' [0, 1, 2] rfl ?_
 refine sp rfl (PE.move rfl) rfl ?_
 refine sp rfl (PE.add rfl rfl (by omega)) rfl ?_
 refine sp rfl (PE.assign rfl) rfl ?_
 refine sy_block ?_
 refine sy_loop (ι := Unit) (fun _ => ⟨[(2, .int .i64 (([] : List Int).length : Nat)), (6, .int .i64 1)], H, R⟩) (fun x => 0) () ?_ (fun x => ?_)
 exact sy_at (by repeat' first | exact Sub.nil | apply Sub.cons | rfl | (simp [lk]; omega)) (fun _ h => h)
 refine sy_seq ?_
 refine sy_seq ?_
 refine sy_tx' [0, 1, 2] rfl ?_
 refine sp rfl (PE.move rfl) rfl ?_
 refine sp rfl (PE.move rfl) rfl ?_
 refine sp rfl (PE.lss rfl rfl) rfl ?_
 refine sy_cond rfl (fun hc0 => ?_) (fun hc0 => ?_)
 exact absurd hc0 (by simp)
 refine sy_exit ?_
 repeat refine sy_tx ?_
 refine sy_bx ?_
 exact sy_fall (vs := []) rfl .nil rfl ⟨rfl, rfl, rfl⟩ (fun _ h => h)
theorem c_ins (l : List Int) (o : OSl 3 1 (irows l)) (hl : l.length ≤ 12) (H : Heap) (R : Facts) : Fn Tryz.prog 134 [o.fs, .int .i64 0, .int .i64 l.length] (o.G ++ H) R (fun v H' R' => ∃ ys, ∃ o' : OSl 3 1 (irows ys), SrtI l ys l.length ∧ o'.fs = o.fs ∧ v = .tuple #[] ∧ H' = o'.G ++ H ∧ R' = R) := by
  have hir : (irows l).length = l.length := List.length_map _
  rcases o.is with ⟨h1, h2, h3⟩ | ⟨b, cap, junk, h2, h3, hj, hc, hm⟩
  · have hx : l = [] := List.map_eq_nil_iff.1 h1
    subst hx
    rw [h2, h3]
    exact Fn.mono (c_insN H R) (by rintro v H' R' ⟨rfl, rfl, rfl⟩; exact ⟨[], OSl.nil _ _, ⟨.refl _, fun p q h4 h5 => by simp at h5⟩, rfl, rfl, rfl, rfl⟩)
  · rw [hir] at h2 hj hc
    rw [h2, h3, irows_flat']
    exact Fn.mono (c_insB l b cap junk hl H R) (by
      rintro v H' R' ⟨ys, hs, rfl, rfl, rfl⟩
      have hyl := hs.perm.length_eq
      have hyi : (irows ys).length = l.length := by rw [List.length_map, hyl]
      exact ⟨ys, ⟨.slice (some ⟨b, 0, none⟩) (irows ys).length cap, [(b, cel 3 ((irows ys).flatten ++ junk))], ir_len _, .inr ⟨b, cap, junk, rfl, rfl, by rw [hyi]; exact hj, by rw [hyi]; exact hc, hm⟩⟩, hs, congrArg (fun q => Value.slice (some ⟨b, 0, none⟩) q cap) hyi, rfl, congrArg (fun q => (b, cel 3 (q ++ junk)) :: H) (irows_flat' ys).symm, rfl⟩)
theorem c_pdq (l : List Int) (o : OSl 3 1 (irows l)) (hl : l.length ≤ 12) (z : Int) (H : Heap) (R : Facts) :
    Fn Tryz.prog 121 [o.fs, .int .i64 0, .int .i64 l.length, .int .i64 z] (o.G ++ H) R (fun v H' R' => ∃ ys, ∃ o' : OSl 3 1 (irows ys), SrtI l ys l.length ∧ o'.fs = o.fs ∧ v = .tuple #[] ∧ H' = o'.G ++ H ∧ R' = R) := by
 refine fn_of Tryz.func121 rfl Tryz.ntmps121 rfl ?_
 refine sy_seq ?_
 refine sy_tx' [0] rfl ?_
 refine sp rfl (PE.assign rfl) rfl ?_
 refine sy_seq ?_
 refine sy_tx' [0] rfl ?_
 refine sp rfl (PE.assign rfl) rfl ?_
 refine sy_block ?_
 refine sy_loop (ι := Unit) (fun _ => ⟨[(0, o.fs), (1, .int .i64 0), (2, .int .i64 l.length)], o.G ++ H, R⟩) (fun x => 0) () ?_ (fun x => ?_)
 exact sy_at (by repeat' first | exact Sub.nil | apply Sub.cons | rfl | (simp [lk]; omega)) (fun _ h => h)
 refine sy_block ?_
 refine sy_seq ?_
 refine sy_tx' [0, 1, 2, 3] rfl ?_
 refine sp rfl (PE.move rfl) rfl ?_
 refine sp rfl (PE.move rfl) rfl ?_
 refine sp rfl (PE.sub rfl rfl (by omega)) rfl ?_
 refine sp rfl (PE.assign rfl) rfl ?_
 refine sy_seq ?_
 refine sy_seq ?_
 refine sy_tx' [0, 1] rfl ?_
 refine sp rfl (PE.move rfl) rfl ?_
 refine sp rfl (PE.leq rfl rfl) rfl ?_
 refine sy_cond rfl (fun hc0 => ?_) (fun hc0 => ?_)
 refine sy_seq ?_
 refine sy_tx' [0, 1, 2, 3] rfl ?_
 refine sp rfl (PE.move rfl) rfl ?_
 refine sp rfl (PE.move rfl) rfl ?_
 refine sp rfl (PE.move rfl) rfl ?_
 refine cl rfl cal134 rfl rfl (c_ins l o hl _ _) ?_
 rintro _ _ R1 ⟨ys, o', hs, hof, rfl, rfl, hR1⟩
 obtain rfl := hR1.symm
 clear hR1
 refine sy_ret ?_
 exact sy_return (vs := []) rfl .nil rfl ⟨ys, o', hs, hof, rfl, rfl, rfl⟩ (fun _ h => h)
 simp only [decide_eq_false_iff_not] at hc0
 omega
theorem c_Len64 (k : Nat) (hk : k ≤ 12) (H : Heap) (R : Facts) :
    Fn Tryz.prog 143 [.int .u64 k] H R (fun v H' R' => ∃ z : Int, v = .int .i64 z ∧ H' = H ∧ R' = R) := by
 refine fn_of Tryz.func143 rfl Tryz.ntmps143 rfl ?_
 refine sy_seq ?_
 refine sy_tx' [0] rfl ?_
 refine sp rfl (PE.assign rfl) rfl ?_
 refine sy_seq ?_
 refine sy_seq ?_
 refine sy_tx' [0, 1] rfl ?_
 refine sp rfl (PE.move rfl) rfl ?_
 refine sp rfl (PE.geq rfl rfl) rfl ?_
 refine sy_cond rfl (fun hc0 => ?_) (fun hc0 => ?_)
 simp only [decide_eq_true_eq] at hc0
 omega
 refine sy_skip ?_
 refine sy_seq ?_
 refine sy_seq ?_
 refine sy_tx' [0, 1] rfl ?_
 refine sp rfl (PE.move rfl) rfl ?_
 refine sp rfl (PE.geq rfl rfl) rfl ?_
 refine sy_cond rfl (fun hc1 => ?_) (fun hc1 => ?_)
 simp only [decide_eq_true_eq] at hc1
 omega
 refine sy_skip ?_
 refine sy_seq ?_
 refine sy_seq ?_
 refine sy_tx' [0, 1] rfl ?_
 refine sp rfl (PE.move rfl) rfl ?_
 refine sp rfl (PE.geq rfl rfl) rfl ?_
 refine sy_cond rfl (fun hc2 => ?_) (fun hc2 => ?_)
 simp only [decide_eq_true_eq] at hc2
 omega
 refine sy_skip ?_
 refine sy_seq ?_
 refine sy_tx' [0, 1, 2, 3, 4, 5, 6] rfl ?_
 refine sp rfl (PE.move rfl) rfl ?_
 refine sp rfl (PE.move rfl) rfl ?_
 refine sp rfl ((PE.convert us192 ik5 rfl).to (by rw [wrap_u8_id (by omega) (by omega)])) rfl ?_
 refine spE rfl (PE.indexS (m := 256) istr9 rfl rfl (by kernel_rfl) (by omega)) rfl ?_
 rintro _ ⟨u22, rfl, hu22⟩
 refine sp rfl (PE.conv64 us5 ik3 rfl (by omega)) rfl ?_
 refine sp rfl (PE.add rfl rfl (by omega)) rfl ?_
 refine sp rfl (PE.assign rfl) rfl ?_
 refine sy_ret ?_
 exact sy_return (vs := [_]) rfl (.cons (RV.tmp rfl) .nil) rfl ⟨_, rfl, rfl, rfl⟩ (fun _ h => h)
theorem c_Len (k : Nat) (hk : k ≤ 12) (H : Heap) (R : Facts) :
    Fn Tryz.prog 122 [.int .u64 k] H R (fun v H' R' => ∃ z : Int, v = .int .i64 z ∧ H' = H ∧ R' = R) := by
 refine fn_of Tryz.func122 rfl Tryz.ntmps122 rfl ?_
 refine sy_seq ?_
 refine sy_tx' [0] rfl ?_
 refine sp rfl (PE.assign rfl) rfl ?_
 refine sy_seq ?_
 refine sy_condF rfl ?_
 refine sy_skip ?_
 refine sy_seq ?_
 refine sy_tx' [0, 1, 2] rfl ?_
 refine sp rfl (PE.move rfl) rfl ?_
 refine cl rfl cal143 rfl rfl (c_Len64 k hk _ _) ?_
 rintro _ _ R1 ⟨z, rfl, rfl, hR1⟩
 obtain rfl := hR1.symm
 clear hR1
 refine sp rfl (PE.assign rfl) rfl ?_
 refine sy_ret ?_
 exact sy_return (vs := [_]) rfl (.cons (RV.tmp rfl) .nil) rfl ⟨_, rfl, rfl, rfl⟩ (fun _ h => h)
theorem c_Sort (l : List Int) (o : OSl 3 1 (irows l)) (hl : l.length ≤ 12) (H : Heap) (R : Facts) :
    Fn Tryz.prog 76 [o.fs] (o.G ++ H) R (fun v H' R' => ∃ ys, ∃ o' : OSl 3 1 (irows ys), SrtI l ys l.length ∧ o'.fs = o.fs ∧ v = .tuple #[] ∧ H' = o'.G ++ H ∧ R' = R) := by
 obtain ⟨a, c, he, hcc, _⟩ := o.freezeC
 rw [show (irows l).length = l.length from List.length_map _] at he hcc
 refine fn_of Tryz.func76 rfl Tryz.ntmps76 rfl ?_
 refine sy_seq ?_
 refine sy_tx' [0, 1, 2] rfl ?_
 refine sp rfl (PE.move rfl) rfl ?_
 refine sp rfl (PE.lenSl isl22 (congrArg some he)) rfl ?_
 refine sp rfl (PE.assign rfl) rfl ?_
 refine sy_tx' [0, 1, 2, 3, 4, 5] rfl ?_
 refine sp rfl (PE.move rfl) rfl ?_
 refine sp rfl (PE.move rfl) rfl ?_
 refine sp rfl (PE.move rfl) rfl ?_
 refine sp rfl ((PE.convert us3 ik170 rfl).to (by rw [wrap_u64_id (by omega) (by omega)])) rfl ?_
 refine cl rfl cal122 rfl rfl (c_Len l.length hl _ _) ?_
 rintro _ _ R1 ⟨z, rfl, rfl, hR1⟩
 obtain rfl := hR1.symm
 clear hR1
 refine cl rfl cal121 rfl rfl (c_pdq l o hl z _ _) ?_
 rintro _ _ R1 ⟨ys, o', hs, hof, rfl, rfl, hR1⟩
 obtain rfl := hR1.symm
 clear hR1
 exact sy_fall (vs := []) rfl .nil rfl ⟨ys, o', hs, hof, rfl, rfl, rfl⟩ (fun _ h => h)
structure RiseI (n c : Nat) (rs : List Int) : Prop where
  len : rs.length = 6
  le : n ≤ c ∧ c ≤ 6 ∧ n ≤ 2
  zero : ∀ j, j < 6 → j < n ∨ c ≤ j → na rs j = 0
  rise : ∀ j, n ≤ j → j < c → 6 ≤ na rs j ∧ na rs j ≤ 20
  up : ∀ j, n ≤ j → j + 1 < c → na rs j ≤ na rs (j + 1)
theorem RiseI.start {n : Nat} (h : n ≤ 2) : RiseI n n [0, 0, 0, 0, 0, 0] := ⟨rfl, ⟨by omega, by omega, h⟩, fun j hj _ => by
  match j, hj with
  | 0, _ | 1, _ | 2, _ | 3, _ | 4, _ | 5, _ => rfl, fun j h1 h2 => by omega, fun j h1 h2 => by omega⟩
theorem RiseI.more {n c : Nat} {rs : List Int} {v : Int} (h : RiseI n c rs) (hc : c < 6) (hv : 6 ≤ v ∧ v ≤ 20) (hu : n < c → na rs (c - 1) ≤ v) : RiseI n (c + 1) (rs.set c v) := by
  have hle := h.le
  have hat : ∀ j, na (rs.set c v) j = if c = j then v else na rs j := fun j => na_set (by rw [h.len]; omega)
  refine ⟨by rw [List.length_set]; exact h.len, ⟨by omega, by omega, hle.2.2⟩, fun j hj h1 => ?_, fun j h1 h2 => ?_, fun j h1 h2 => ?_⟩
  · rw [hat, if_neg (by omega)]; exact h.zero j hj (by omega)
  · rw [hat]
    split
    · exact hv
    · exact h.rise j h1 (by omega)
  · rw [hat, hat, if_neg (show ¬ c = j by omega)]
    split
    · rename_i e
      have := hu (by omega)
      rw [show c - 1 = j by omega] at this
      exact this
    · exact h.up j h1 (by omega)
structure BinH (x : HBin) : Prop where
  mark : 18 ≤ x.mark ∧ x.mark ≤ 60
  warm : 0 ≤ x.warm ∧ x.warm ≤ x.mark
  lo : 0 ≤ x.lo ∧ x.lo ≤ 5
  hi : x.lo ≤ x.hi ∧ x.hi ≤ 5
structure MadeH (b : Barn) (nb ng : Int) : Prop where
  ok : b.ok
  check : b.check = 0
  nb : (b.bins.length : Int) ≤ nb
  ng : b.gangs ≤ ng
  bins : ∀ x ∈ b.bins, BinH x
theorem list6e {l : List Int} (h : l.length = 6) : ∃ a b c d e f, l = [a, b, c, d, e, f] := by
  match l, h with
  | [a, b, c, d, e, f], _ => exact ⟨a, b, c, d, e, f, rfl⟩
theorem made_ok {n : Nat} {rs : List Int} {bl : List HBin} {cool gangs nb ng : Int} (hr : RiseI n 6 rs) (hb : ∀ x ∈ bl, BinH x) (hl : 1 ≤ bl.length ∧ bl.length ≤ 4) (hnb : (bl.length : Int) ≤ nb) (hc : 0 ≤ cool ∧ cool ≤ 60) (hg : 0 ≤ gangs ∧ gangs ≤ 3) (hng : gangs ≤ ng) : MadeH ⟨cool, gangs, rs, bl⟩ nb ng := by
  have hok : Barn.ok ⟨cool, gangs, rs, bl⟩ := by
    refine ⟨hr.len, hl, hc, ⟨hg.1, by show gangs ≤ 4; omega⟩, fun v hv => ?_, fun x hx => ?_, ?_, fun x hx => (hb x hx).hi.1⟩
    · obtain ⟨j, hj⟩ := List.getElem?_of_mem hv
      have hj6 := (List.getElem?_eq_some_iff.1 hj).1
      have hv2 : na rs j = v := by unfold na; rw [List.getD_eq_getElem?_getD, hj]; rfl
      have hlen := hr.len
      have hj6 : j < 6 := by have : (Barn.mk cool gangs rs bl).rise.length = 6 := hlen; omega
      rcases Nat.lt_or_ge j n with h1 | h1
      · left; rw [← hv2]; exact hr.zero j hj6 (.inl h1)
      · right; rw [← hv2]; exact hr.rise j h1 hj6
    · have h1 := hb x hx
      exact ⟨⟨by have := h1.mark; omega, h1.mark.2⟩, h1.warm, h1.lo, by have := h1.lo; have := h1.hi; omega⟩
    · have key : ∀ j, j + 1 < 6 → na rs j ≤ na rs (j + 1) := fun j hj => by
        rcases Nat.lt_or_ge j n with h1 | h1
        · rw [hr.zero j (by omega) (.inl h1)]
          rcases Nat.lt_or_ge (j + 1) n with h2 | h2
          · rw [hr.zero (j + 1) hj (.inl h2)]; exact Int.le_refl _
          · have := hr.rise (j + 1) h2 hj; omega
        · exact hr.up j h1 hj
      show srt rs = true
      have k0 := key 0 (by omega); have k1 := key 1 (by omega); have k2 := key 2 (by omega); have k3 := key 3 (by omega); have k4 := key 4 (by omega)
      obtain ⟨a, b, c, d, e, f, rfl⟩ := list6e hr.len
      simp only [na, List.getD_cons_zero, List.getD_cons_succ] at k0 k1 k2 k3 k4
      simp [srt, k0, k1, k2, k3, k4]
  exact ⟨hok, check_of hok hg.2, hnb, hng, hb⟩
theorem btl_get {c g : Int} {rs : List Int} {bl : List HBin} {sl : Value} {k : Nat} (hk : k < 6) : (btl ⟨c, g, rs, bl⟩ sl)[0 + 2 + ((k : Nat) : Int).toNat * 1]? = some (.int .i64 (na rs k)) := by
  match k, hk with
  | 0, _ | 1, _ | 2, _ | 3, _ | 4, _ | 5, _ => rfl
theorem btl_put {c g : Int} {rs : List Int} {bl : List HBin} {sl : Value} {k : Nat} (hk : k < 6) (hr : rs.length = 6) (v : Int) : spl (btl ⟨c, g, rs, bl⟩ sl) (0 + 2 + ((k : Nat) : Int).toNat * 1) [.int .i64 v] = btl ⟨c, g, rs.set k v, bl⟩ sl := by
  obtain ⟨a, b, c, d, e, f, rfl⟩ := list6e hr
  match k, hk with
  | 0, _ | 1, _ | 2, _ | 3, _ | 4, _ | 5, _ => rfl
theorem c_Made (g : List Int) (ag : Option Addr) (cg bk : Nat) (hgl : g.length ≤ 9223372036854775807) (tq mx : Int) (htq : 0 ≤ tq ∧ tq ≤ 1000000) (hmx : 0 ≤ mx ∧ mx ≤ 4294967295) (nb ng : Int) (hnb : 1 ≤ nb ∧ nb ≤ 4) (hng : 0 ≤ ng ∧ ng ≤ 3) (H : Heap) (R : Facts) [hG : MemRows ag 1 (urows g) R] :
    Fn Tryz.prog 13 [.pointer (some ⟨bk, 0, none⟩), .int .i64 nb, .int .i64 ng] ((bk, cel 125 [.slice ag g.length cg, .int .i64 (tq), .int .u32 (mx)]) :: H) R (fun v H' R' => ∃ (b : Barn) (ab : Option Addr) (cb : Nat) (tq' mx' : Int), MadeH b nb ng ∧ v = b.v (b.sl ab cb) ∧ (tq ≤ tq' ∧ tq' ≤ tq + 40) ∧ (0 ≤ mx' ∧ mx' ≤ 4294967295) ∧
      H' = (bk, cel 125 [.slice ag g.length cg, .int .i64 (tq'), .int .u32 (mx')]) :: H ∧ R' = RowsA ab 4 (brows b.bins) :: R) := by
 refine fn_of Tryz.func13 rfl Tryz.ntmps13 rfl ?_
 refine sy_seq ?_
 refine sy_tx' [0] rfl ?_
 refine alc rfl zl27 rfl (fun b6 => ?_)
 refine sy_seq ?_
 refine sy_tx' [0, 1, 2, 3, 4, 5, 6, 7] rfl ?_
 refine sp rfl (PE.move rfl) rfl ?_
 refine sy_pull bk ?_
 refine cl rfl cal63 rfl rfl (c_Below g ag cg bk hgl _ _ (by omega) (by assumption) (30) _ _) ?_
 rintro _ _ R1 ⟨x13, m13, hx13, rfl, hm13, rfl, hR1⟩
 obtain rfl := hR1.symm
 refine sp rfl (PE.move rfl) rfl ?_
 refine sp rfl (PE.move rfl) rfl ?_
 refine cl rfl cal64 rfl rfl (c_Among g ag cg bk hgl _ _ (by omega) (by assumption) (0) (ng) (by first | omega | (dsimp only; omega)) _ _) ?_
 rintro _ _ R1 ⟨x16, m16, hx16, rfl, hm16, rfl, hR1⟩
 obtain rfl := hR1.symm
 refine sp rfl (PE.build (out := btl ⟨x13, x16, [0, 0, 0, 0, 0, 0], []⟩ (.slice none 0 0)) pl27 zl27 rfl rfl) rfl ?_
 refine alc rfl zl27 rfl (fun b7 => ?_)
 refine sto rfl rfl rfl cn27 rfl rfl rfl rfl ?_
 refine sy_seq ?_
 refine sy_tx' [0, 1, 2] rfl ?_
 refine sp rfl (PE.move rfl) rfl ?_
 refine sy_pull bk ?_
 refine cl rfl cal64 rfl rfl (c_Among g ag cg bk hgl _ _ (by omega) (by assumption) (0) (2) (by first | omega | (dsimp only; omega)) _ _) ?_
 rintro _ _ R1 ⟨x19, m19, hx19, rfl, hm19, rfl, hR1⟩
 obtain rfl := hR1.symm
 refine sp rfl (PE.assign rfl) rfl ?_
 refine sy_seq ?_
 refine sy_seq ?_
 refine sy_tx' [0, 1] rfl ?_
 refine sp rfl (PE.move rfl) rfl ?_
 refine sp rfl (PE.assign rfl) rfl ?_
 refine sy_block ?_
 obtain ⟨n, rfl⟩ : ∃ n : Nat, x19 = n := ⟨x19.toNat, by omega⟩
 refine sy_loop (ι := {x : Nat × List Int × Int × Int // RiseI n x.1 x.2.1 ∧ (tq + 3 ≤ x.2.2.1 ∧ x.2.2.1 ≤ tq + 3 + x.1) ∧ (0 ≤ x.2.2.2 ∧ x.2.2.2 ≤ 4294967295)}) (fun x => ⟨[(0, .pointer (some ⟨bk, 0, none⟩)), (1, .int .i64 nb), (6, .pointer (some ⟨b6, 0, none⟩)), (7, .pointer (some ⟨b7, 0, none⟩)), (8, .int .i64 n), (9, .int .i64 x.1.1)], (bk, cel 125 [.slice ag g.length cg, .int .i64 (x.1.2.2.1), .int .u32 (x.1.2.2.2)]) :: (b7, cel 27 (btl ⟨x13, x16, x.1.2.1, []⟩ (.slice none 0 0))) :: (b6, cel 27 (btl zbarn (.slice none 0 0))) :: H, R⟩) (fun x => 6 - x.1.1) ⟨(n, [0, 0, 0, 0, 0, 0], tq + 1 + 1 + 1, m19), RiseI.start (by omega), by dsimp only; omega, by assumption⟩ ?_ (fun x => ?_)
 exact sy_at (by repeat' first | exact Sub.nil | apply Sub.cons | rfl | (simp [lk]; omega)) (fun _ h => h)
 obtain ⟨⟨c, rs, tq2, mx2⟩, hri, htq2, hmx2⟩ := x
 dsimp only at hri htq2 hmx2 ⊢
 have hle := hri.le
 have hrl := hri.len
 refine sy_seq ?_
 refine sy_seq ?_
 refine sy_tx' [0, 1] rfl ?_
 refine sp rfl (PE.move rfl) rfl ?_
 refine sp rfl (PE.lss rfl rfl) rfl ?_
 refine sy_cond rfl (fun hc0 => ?_) (fun hc0 => ?_)
 try simp only [decide_eq_true_eq, decide_eq_false_iff_not, Bool.and_eq_true, Bool.or_eq_true, Bool.not_eq_true', Int.not_le, Int.not_lt] at hc0
 refine sy_skip ?_
 refine sy_seq ?_
 refine sy_block ?_
 refine sy_seq ?_
 refine sy_tx' [0] rfl ?_
 refine sp rfl (PE.assign rfl) rfl ?_
 refine sy_seq ?_
 refine sy_seq ?_
 refine sy_tx' [0, 1, 2] rfl ?_
 refine sp rfl (PE.move rfl) rfl ?_
 refine sp rfl (PE.move rfl) rfl ?_
 refine sp rfl (PE.gtr rfl rfl) rfl ?_
 refine sy_cond rfl (fun hc1 => ?_) (fun hc1 => ?_)
 try simp only [decide_eq_true_eq, decide_eq_false_iff_not, Bool.and_eq_true, Bool.or_eq_true, Bool.not_eq_true', Int.not_le, Int.not_lt] at hc1
 have hrp := hri.rise (c - 1) (by omega) (by omega)
 refine sy_tx' [0, 1, 2, 3, 4, 5] rfl ?_
 refine sp rfl (PE.move rfl) rfl ?_
 refine sp rfl (PE.sub rfl rfl (by omega)) rfl ?_
 rw [show (c : Int) - 1 = ((c - 1 : Nat) : Int) by omega]
 refine sp rfl (PE.fieldAddr fo27_2 rfl) rfl ?_
 refine sp rfl (PE.indexArr ar24 rfl rfl (by omega) (by omega)) rfl ?_
 refine spL rfl rfl (lh sc3 rfl (btl_get (by omega))) rfl ?_
 refine sp rfl (PE.assign rfl) rfl ?_
 refine sy_tx' [0, 1, 2, 3, 4, 5, 6, 7, 8] rfl ?_
 refine sp rfl (PE.move rfl) rfl ?_
 refine sp rfl (PE.move rfl) rfl ?_
 refine sp rfl (PE.move rfl) rfl ?_
 refine sy_pull bk ?_
 refine cl rfl cal63 rfl rfl (c_Below g ag cg bk hgl _ _ (by omega) (by assumption) (4) _ _) ?_
 rintro _ _ R1 ⟨x36, m36, hx36, rfl, hm36, rfl, hR1⟩
 obtain rfl := hR1.symm
 refine sp rfl (PE.add rfl rfl (by omega)) rfl ?_
 refine sp rfl (PE.min rfl rfl) rfl ?_
 refine sp rfl (PE.fieldAddr fo27_2 rfl) rfl ?_
 refine sp rfl (PE.indexArr ar24 rfl rfl (by omega) (by omega)) rfl ?_
 first | refine stoE (l' := btl ⟨x13, x16, rs.set c (min 20 (na rs (c - 1) + x36)), []⟩ (.slice none 0 0)) rfl rfl rfl cn3 rfl rfl rfl (btl_put (by omega) hrl _) (by show 0 + 2 + ((c : Nat) : Int).toNat * 1 + 1 ≤ 9; omega) ?_ | refine stoE (l' := btl ⟨x13, x16, rs.set c (min 20 (6 + x36)), []⟩ (.slice none 0 0)) rfl rfl rfl cn3 rfl rfl rfl (btl_put (by omega) hrl _) (by show 0 + 2 + ((c : Nat) : Int).toNat * 1 + 1 ≤ 9; omega) ?_
 refine sy_tx' [0, 1, 2] rfl ?_
 refine sp rfl (PE.move rfl) rfl ?_
 refine sp rfl (PE.add rfl rfl (by omega)) rfl ?_
 refine sp rfl (PE.assign rfl) rfl ?_
 first | exact sy_next ⟨(c + 1, rs.set c (min 20 (na rs (c - 1) + x36)), tq2 + 1, m36), hri.more (by omega) (by omega) (fun _ => by omega), by dsimp only; omega, by assumption⟩ (by dsimp only; omega) (by repeat' first | exact Sub.nil | apply Sub.cons | rfl | (simp [lk]; omega)) (fun _ h => h) | exact sy_next ⟨(c + 1, rs.set c (min 20 (6 + x36)), tq2 + 1, m36), hri.more (by omega) (by omega) (fun h => by omega), by dsimp only; omega, by assumption⟩ (by dsimp only; omega) (by repeat' first | exact Sub.nil | apply Sub.cons | rfl | (simp [lk]; omega)) (fun _ h => h)
 try simp only [decide_eq_true_eq, decide_eq_false_iff_not, Bool.and_eq_true, Bool.or_eq_true, Bool.not_eq_true', Int.not_le, Int.not_lt] at hc1
 refine sy_skip ?_
 refine sy_tx' [0, 1, 2, 3, 4, 5, 6, 7, 8] rfl ?_
 refine sp rfl (PE.move rfl) rfl ?_
 refine sp rfl (PE.move rfl) rfl ?_
 refine sp rfl (PE.move rfl) rfl ?_
 refine sy_pull bk ?_
 refine cl rfl cal63 rfl rfl (c_Below g ag cg bk hgl _ _ (by omega) (by assumption) (4) _ _) ?_
 rintro _ _ R1 ⟨x36, m36, hx36, rfl, hm36, rfl, hR1⟩
 obtain rfl := hR1.symm
 refine sp rfl (PE.add rfl rfl (by omega)) rfl ?_
 refine sp rfl (PE.min rfl rfl) rfl ?_
 refine sp rfl (PE.fieldAddr fo27_2 rfl) rfl ?_
 refine sp rfl (PE.indexArr ar24 rfl rfl (by omega) (by omega)) rfl ?_
 first | refine stoE (l' := btl ⟨x13, x16, rs.set c (min 20 (na rs (c - 1) + x36)), []⟩ (.slice none 0 0)) rfl rfl rfl cn3 rfl rfl rfl (btl_put (by omega) hrl _) (by show 0 + 2 + ((c : Nat) : Int).toNat * 1 + 1 ≤ 9; omega) ?_ | refine stoE (l' := btl ⟨x13, x16, rs.set c (min 20 (6 + x36)), []⟩ (.slice none 0 0)) rfl rfl rfl cn3 rfl rfl rfl (btl_put (by omega) hrl _) (by show 0 + 2 + ((c : Nat) : Int).toNat * 1 + 1 ≤ 9; omega) ?_
 refine sy_tx' [0, 1, 2] rfl ?_
 refine sp rfl (PE.move rfl) rfl ?_
 refine sp rfl (PE.add rfl rfl (by omega)) rfl ?_
 refine sp rfl (PE.assign rfl) rfl ?_
 first | exact sy_next ⟨(c + 1, rs.set c (min 20 (na rs (c - 1) + x36)), tq2 + 1, m36), hri.more (by omega) (by omega) (fun _ => by omega), by dsimp only; omega, by assumption⟩ (by dsimp only; omega) (by repeat' first | exact Sub.nil | apply Sub.cons | rfl | (simp [lk]; omega)) (fun _ h => h) | exact sy_next ⟨(c + 1, rs.set c (min 20 (6 + x36)), tq2 + 1, m36), hri.more (by omega) (by omega) (fun h => by omega), by dsimp only; omega, by assumption⟩ (by dsimp only; omega) (by repeat' first | exact Sub.nil | apply Sub.cons | rfl | (simp [lk]; omega)) (fun _ h => h)
 try simp only [decide_eq_true_eq, decide_eq_false_iff_not, Bool.and_eq_true, Bool.or_eq_true, Bool.not_eq_true', Int.not_le, Int.not_lt] at hc0
 obtain rfl : c = 6 := by omega
 refine sy_exit ?_
 repeat refine sy_tx ?_
 refine sy_bx ?_
 refine sy_seq ?_
 refine sy_seq ?_
 refine sy_tx' [0, 1, 2, 3] rfl ?_
 refine sp rfl (PE.move rfl) rfl ?_
 refine sp rfl (PE.move rfl) rfl ?_
 refine cl rfl cal64 rfl rfl (c_Among g ag cg bk hgl _ _ (by omega) (by assumption) (1) (nb) (by first | omega | (dsimp only; omega)) _ _) ?_
 rintro _ _ R1 ⟨x43, m43, hx43, rfl, hm43, rfl, hR1⟩
 obtain rfl := hR1.symm
 refine sp rfl (PE.move rfl) rfl ?_
 refine sy_block ?_
 obtain ⟨n43, rfl⟩ : ∃ n : Nat, x43 = n := ⟨x43.toNat, by omega⟩
 refine sy_loop (ι := (x : {x : Nat × List HBin × Int × Int // x.1 ≤ n43 ∧ x.2.1.length = x.1 ∧ (∀ y ∈ x.2.1, BinH y) ∧ (tq ≤ x.2.2.1 ∧ x.2.2.1 ≤ tq + 10 + 4 * x.1) ∧ (0 ≤ x.2.2.2 ∧ x.2.2.2 ≤ 4294967295)}) × OSl 40 4 (brows x.1.2.1)) (fun x => ⟨[(0, .pointer (some ⟨bk, 0, none⟩)), (1, .int .i64 nb), (6, .pointer (some ⟨b6, 0, none⟩)), (7, .pointer (some ⟨b7, 0, none⟩)), (8, .int .i64 n), (43, .int .i64 n43), (44, .int .i64 x.1.1.1)], (bk, cel 125 [.slice ag g.length cg, .int .i64 (x.1.1.2.2.1), .int .u32 (x.1.1.2.2.2)]) :: (x.2.G ++ (b7, cel 27 (btl ⟨x13, x16, rs, x.1.1.2.1⟩ x.2.fs)) :: (b6, cel 27 (btl zbarn (.slice none 0 0))) :: H), R⟩) (fun x => n43 - x.1.1.1) ⟨⟨(0, [], tq2 + 1, m43), Nat.zero_le _, rfl, by simp, by dsimp only; omega, by assumption⟩, OSl.nil _ _⟩ ?_ (fun x => ?_)
 exact sy_at (by repeat' first | exact Sub.nil | apply Sub.cons | rfl | (simp [lk]; omega)) (fun _ h => h)
 obtain ⟨⟨⟨i, bl, tq3, mx3⟩, hi, hbl, hbh, htq3, hmx3⟩, o⟩ := x
 dsimp only at hi hbl hbh htq3 hmx3 o ⊢
 refine sy_seq ?_
 refine sy_tx' [0] rfl ?_
 refine sp rfl (PE.lss rfl rfl) rfl ?_
 refine sy_seq ?_
 refine sy_cond rfl (fun hc2 => ?_) (fun hc2 => ?_)
 try simp only [decide_eq_true_eq, decide_eq_false_iff_not, Bool.and_eq_true, Bool.or_eq_true, Bool.not_eq_true', Int.not_le, Int.not_lt] at hc2
 refine sy_skip ?_
 refine sy_seq ?_
 refine sy_block ?_
 refine sy_seq ?_
 refine sy_tx' [0, 1, 2, 3, 4, 5, 6, 7] rfl ?_
 refine sp rfl (PE.move rfl) rfl ?_
 refine cl rfl cal64 rfl rfl (c_Among g ag cg bk hgl _ _ (by omega) (by assumption) (18) (60) (by first | omega | (dsimp only; omega)) _ _) ?_
 rintro _ _ R1 ⟨x47, m47, hx47, rfl, hm47, rfl, hR1⟩
 obtain rfl := hR1.symm
 refine sp rfl (PE.move rfl) rfl ?_
 refine cl rfl cal63 rfl rfl (c_Below g ag cg bk hgl _ _ (by omega) (by assumption) (6) _ _) ?_
 rintro _ _ R1 ⟨x49, m49, hx49, rfl, hm49, rfl, hR1⟩
 obtain rfl := hR1.symm
 refine sp rfl (PE.build (out := [_, _]) pl31 zl31 rfl rfl) rfl ?_
 refine sp rfl (PE.build (out := [_, _, _, _]) pl40 zl40 rfl rfl) rfl ?_
 refine alc rfl zl40 rfl (fun b11 => ?_)
 refine sto rfl rfl rfl cn40 rfl rfl rfl rfl ?_
 refine sy_seq ?_
 refine sy_draw [0, 0, 2, 6, 14, 31, 0, 0, 128, 384, 0, 1024, 3072, 7168, 15360, 32767, 8127, 131071, 262143, 524287, 1048575] (.tk 0 (.tk 1 (.ld 2 (.tk 3 (.tk 4 (.tk 6 (.tk 7 (.tk 8 (.ld 9 (.tk 10 (.tk 11 (.ld 12 (.tk 13 (.tk 14 (.big 5 (.tk 16 (.big 15 (.big 17 (.tk 18 (.tk 19 (.big 20 .done))))))))))))))))))))) mixed (by kernel_rfl) ?_
 refine tk rfl (PE.move rfl) rfl ?_
 refine tk rfl (PE.fieldAddr fo40_1 rfl) rfl ?_
 refine ld rfl rfl (lh sc3 rfl rfl) rfl ?_
 refine tk rfl (PE.min rfl rfl) rfl ?_
 refine tk rfl (PE.add rfl rfl (by omega)) rfl ?_
 refine tk rfl (PE.move rfl) rfl ?_
 refine tk rfl (PE.fieldAddr fo40_2 rfl) rfl ?_
 refine tk rfl (PE.fieldAddr fo31_0 rfl) rfl ?_
 refine ld rfl rfl (lh sc3 rfl rfl) rfl ?_
 refine tk rfl (PE.fieldAddr fo40_2 rfl) rfl ?_
 refine tk rfl (PE.fieldAddr fo31_0 rfl) rfl ?_
 refine ld rfl rfl (lh sc3 rfl rfl) rfl ?_
 refine tk rfl (PE.add rfl rfl (by omega)) rfl ?_
 refine tk rfl (PE.min rfl rfl) rfl ?_
 refine sy_pull bk ?_
 refine cl rfl cal63 rfl rfl (c_Below g ag cg bk hgl _ _ (by omega) (by assumption) (min x47 30 + 1) _ _) ?_
 rintro _ _ R1 ⟨x57, m57, hx57, rfl, hm57, rfl, hR1⟩
 obtain rfl := hR1.symm
 refine bg (fun w hs => ⟨(lh sc3 rfl rfl) w hs, (lh sc3 rfl rfl) w hs, trivial, trivial⟩) ?_
 refine tk rfl (PE.fieldAddr fo40_0 rfl) rfl ?_
 refine sy_pull bk ?_
 refine cl rfl cal64 rfl rfl (c_Among g ag cg bk hgl _ _ (by omega) (by assumption) (x49) (min 5 (x49 + 2)) (by first | omega | (dsimp only; omega)) _ _) ?_
 rintro _ _ R1 ⟨x67, m67, hx67, rfl, hm67, rfl, hR1⟩
 obtain rfl := hR1.symm
 refine bg (fun w hs => ⟨trivial, trivial, trivial⟩) ?_
 refine sto rfl rfl rfl cn3 rfl rfl rfl rfl ?_
 refine bg (fun w hs => trivial) ?_
 refine tk rfl (PE.fieldAddr fo40_2 rfl) rfl ?_
 refine tk rfl (PE.fieldAddr fo31_1 rfl) rfl ?_
 refine sto rfl rfl rfl cn3 rfl rfl rfl rfl ?_
 refine bg (fun w hs => trivial) ?_
 refine sy_tx' [0, 1, 2, 3, 4, 5, 6] rfl ?_
 refine sp rfl (PE.fieldAddr fo27_3 rfl) rfl ?_
 refine spL rfl rfl (lh sc25 rfl rfl) rfl ?_
 refine spL rfl rfl (lhA [.int .i64 x57, .int .i64 x47, .int .i64 x49, .int .i64 x67] ag40 rfl rfl rfl) rfl ?_
 refine bsl (out := [_, _, _, _]) rfl sl25 zl40 rfl rfl rfl rfl rfl rfl (fun b74 => ?_)
 refine apO (o) rfl ap25 rfl rfl (rowsH (row := brow ⟨x57, x47, x49, x67⟩) rfl) rfl rfl ((by rw [brows_len]; simp only [List.length_singleton]; omega)) rfl (fun o75 => ?_)
 refine sp rfl (PE.fieldAddr fo27_3 rfl) rfl ?_
 refine stoE (l' := btl ⟨x13, x16, rs, bl ++ [⟨x57, x47, x49, x67⟩]⟩ o75.fs) rfl rfl rfl cn25 rfl (by rw [o75.cells.1]; first | done | rfl) (by rw [o75.cells.1]; simp [o75.cells.2]) (by rw [o75.cells.1]; first | done | rfl) (by rw [o75.cells.1]; first | done | exact Nat.le_of_ble_eq_true rfl) ?_
 refine sy_tx' [0, 1] rfl ?_
 refine sp rfl (PE.add rfl rfl (by omega)) rfl ?_
 refine sp rfl (PE.move rfl) rfl ?_
 exact sy_next ⟨⟨(i + 1, bl ++ [⟨x57, x47, x49, x67⟩], tq3 + 1 + 1 + 1 + 1, m67), by dsimp only; omega, by rw [List.length_append, hbl]; rfl, fun y hy => by
   rcases List.mem_append.1 hy with hy | hy
   · exact hbh y hy
   · rw [List.mem_singleton.1 hy]; exact ⟨by dsimp only; omega, by dsimp only; omega, by dsimp only; omega, by dsimp only; omega⟩, by dsimp only; omega, by assumption⟩, o75.cast (by rw [brows_app]; rfl)⟩ (by dsimp only; omega) (by repeat' first | exact Sub.nil | apply Sub.cons | rfl | (simp [lk]; omega)) (fun w h => (h.del b74).del b11)
 try simp only [decide_eq_true_eq, decide_eq_false_iff_not, Bool.and_eq_true, Bool.or_eq_true, Bool.not_eq_true', Int.not_le, Int.not_lt] at hc2
 obtain rfl : i = n43 := by omega
 obtain ⟨ab, cb, he, hf⟩ := o.freeze
 rw [he, brows_len]
 refine Sy.heap (H' := _) (fun w h => hf (h.perm (List.perm_middle (l₁ := o.G) (a := _)).symm)) ?_
 clear he hf
 have hmade := made_ok (nb := nb) (ng := ng) hri hbh (by omega) (by omega) (show 0 ≤ x13 ∧ x13 ≤ 60 by omega) (show 0 ≤ x16 ∧ x16 ≤ 3 by omega) (by omega)
 refine sy_exit ?_
 repeat refine sy_tx ?_
 refine sy_bx ?_
 refine sy_seq ?_
 refine sy_tx' [0, 1] rfl ?_
 refine spL rfl rfl (lhA (btl ⟨x13, x16, rs, bl⟩ (.slice ab bl.length cb)) ag27 rfl rfl rfl) rfl ?_
 refine sto rfl rfl rfl cn27 rfl rfl rfl rfl ?_
 refine sy_ret ?_
 exact sy_return (vs := [_]) rfl (.cons (RV.cell rfl (lhA (btl ⟨x13, x16, rs, bl⟩ (.slice ab bl.length cb)) ag27 rfl rfl rfl)) .nil) rfl ⟨⟨x13, x16, rs, bl⟩, ab, cb, _, _, hmade, rfl, ⟨by omega, by omega⟩, by assumption, rfl, rfl⟩ (fun w h => ((h.del b7).del b6))
end Go.Proofs.YtelegnmfhjfbaaaGreat
namespace Go.Proofs.YtelegnmfhjfbaaaGreat
set_option linter.unusedSimpArgs false
set_option linter.unusedVariables false
open Go
def isPt (P : Program) (T : Nat) : Bool := match P.underlying T with | some (.pointer _) => true | _ => false
theorem isPt_und {P : Program} {T : Nat} (h : isPt P T = true) : ∃ e, P.underlying T = some (.pointer e) := by
  unfold isPt at h
  split at h
  · exact ⟨_, by assumption⟩
  · cases h
theorem run_equal_ptr {P : Program} {T : TypeId} (hT : isPt P T = true) (a : Option Addr) (w : World) : (Op.equal T (.pointer a) (.pointer none)).run P w = .ok a.isNone w := by
  obtain ⟨e, hu⟩ := isPt_und hT
  show (Op.equalIn (9999 + 1) T (.pointer a) (.pointer none)).run P w = _
  rw [Op.equalIn]
  cases a <;> simp [Sem.run_bind, run_underlying hu, Result.andThen, Sem.run_pure]
section pe
variable {P : Program} {L : Slots} {d : Option Tmp} {ty : TypeId} {pos : String} {af : Array Edge} {g : Option (Nat × Bool)}
theorem PE.neqPtr {T U : TypeId} {x y : Operand} {a : Option Addr} (hT : isPt P T = true) (hx : ev L x = some (.pointer a)) (hy : ev L y = some (.pointer none)) : PE P L ⟨d, .binOp .neq T x y U, ty, pos, af, g⟩ (.bool (!a.isNone)) := fun ρ hρ w => by
  have hg : ∀ w, (eqGuard .neq T x y (.pointer a) (.pointer none)).run P w = .ok () w := fun w => rfl
  have hb : binOp .neq T (.pointer a) (.pointer none) = (do pure (.bool (!(← Op.equal T (.pointer a) (.pointer none))))) := rfl
  simp only [execOp, hρ _ _ hx, hρ _ _ hy, Sem.run_bind, hg, hb, run_equal_ptr hT, Result.andThen, Sem.run_pure]
end pe
end Go.Proofs.YtelegnmfhjfbaaaGreat
