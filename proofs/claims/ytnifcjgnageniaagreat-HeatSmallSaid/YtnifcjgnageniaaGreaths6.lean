/- Walks of the functions of the program, and the laws that join them: what the last theorem of this claim needs, in order. -/
import Derived.Test.YtnifcjgnageniaaGreaths5
namespace Go.Proofs.YtnifcjgnageniaaGreat
set_option linter.unusedSimpArgs false
set_option linter.unusedVariables false
open Go
structure FewC (d : Dsk) (s : HSt) (n c : Nat) : Prop where
  is : ∃ t, d.pth n s t c
  le : ∀ t c', d.pth n s t c' → c ≤ c'
theorem FewC.unique {d : Dsk} {s : HSt} {n c c' : Nat} (h : FewC d s n c) (h' : FewC d s n c') : c = c' := by
  obtain ⟨t, ht⟩ := h.is
  obtain ⟨t', ht'⟩ := h'.is
  have := h.le _ _ ht'
  have := h'.le _ _ ht
  omega
structure Fsp (es : List (HSt × List Int)) (m : MW) : Prop where
  mem : ∀ t w, Z17 m t = some w → (t, w) ∈ es
  has : ∀ t w, (t, w) ∈ es → ∃ w', Z17 m t = some w' ∧ na w' 5 ≤ na w 5
theorem Fsp.nil : Fsp [] [] := ⟨fun t w h => (by cases h), fun t w h => (by cases h)⟩
theorem Fsp.add {es : List (HSt × List Int)} {m : MW} {e : HSt × List Int} (h : Fsp es m) (hz : ∀ f ∈ es, f.2 ≠ zw) : Fsp (es ++ [e]) (Z2S m e) := by
  obtain ⟨k, v⟩ := e
  have key : (Z2S m (k, v) = Z8B m k v ∧ ∀ w, Z17 m k = some w → na v 5 < na w 5) ∨ (Z2S m (k, v) = m ∧ ∃ w, Z17 m k = some w ∧ na w 5 ≤ na v 5) := by
    unfold Z2S
    dsimp only
    cases hk : Z17 m k with
    | none => exact .inl ⟨by rw [Option.getD_none, decide_eq_true rfl]; rfl, fun w h => by cases h⟩
    | some w0 =>
      have h0 : w0 ≠ zw := hz _ (h.mem _ _ hk)
      rw [Option.getD_some, decide_eq_false h0, Bool.false_or]
      by_cases h1 : na v 5 < na w0 5
      · rw [decide_eq_true h1]; exact .inl ⟨rfl, fun w hw => by cases hw; exact h1⟩
      · rw [decide_eq_false h1]; exact .inr ⟨rfl, w0, rfl, by omega⟩
  rcases key with ⟨e1, h1⟩ | ⟨e1, w0, h1, h2⟩
  · rw [e1]
    refine ⟨fun t w hw => ?_, fun t w hw => ?_⟩
    · rw [Z57] at hw
      by_cases hkt : k = t
      · rw [decide_eq_true hkt] at hw; cases hw; subst hkt; simp
      · rw [decide_eq_false hkt] at hw; exact List.mem_append_left _ (h.mem _ _ hw)
    · rw [Z57]
      by_cases hkt : k = t
      · subst hkt
        rw [decide_eq_true rfl]
        refine ⟨v, rfl, ?_⟩
        rcases List.mem_append.1 hw with h3 | h3
        · obtain ⟨w', h4, h5⟩ := h.has _ _ h3
          have := h1 _ h4
          omega
        · cases List.mem_singleton.1 h3; exact Int.le_refl _
      · rw [decide_eq_false hkt]
        rcases List.mem_append.1 hw with h3 | h3
        · exact h.has _ _ h3
        · cases List.mem_singleton.1 h3; exact absurd rfl hkt
  · rw [e1]
    refine ⟨fun t w hw => List.mem_append_left _ (h.mem _ _ hw), fun t w hw => ?_⟩
    rcases List.mem_append.1 hw with h3 | h3
    · exact h.has _ _ h3
    · cases List.mem_singleton.1 h3; exact ⟨w0, h1, h2⟩
theorem Fsp.fold : ∀ {fs es : List (HSt × List Int)} {m : MW}, Fsp es m → (∀ f ∈ es ++ fs, f.2 ≠ zw) → Fsp (es ++ fs) (fs.foldl Z2S m)
  | [], es, m, h, _ => by rw [List.append_nil]; exact h
  | f :: fs, es, m, h, hz => by
    have := Fsp.fold (fs := fs) (h.add (e := f) fun g hg => hz g (List.mem_append_left _ hg)) (fun g hg => hz g (by simpa [List.append_assoc] using hg))
    rw [List.append_assoc] at this
    exact this
theorem mem_ev {d : Dsk} {m : MW} {e : HSt × List Int} : e ∈ (d.sts.take d.nst).flatMap (evW d m) ↔ ∃ s, s ∈ d.sts ∧ ∃ w, Z17 m s = some w ∧ ∃ l, l ∈ d.trs false ∧ ∃ t, d.next s l = some t ∧ e = (t, s ++ [(Z1L l : Int), na w 5 + (l.length : Int)]) := by
  rw [List.take_of_length_le (by rw [d.sts_len]; exact Nat.le_refl _), List.mem_flatMap]
  refine exists_congr fun s => and_congr_right fun _ => ?_
  unfold evW Z6J
  cases Z17 m s with
  | none => simp
  | some w =>
    dsimp only
    rw [List.take_length, List.mem_filterMap]
    constructor
    · rintro ⟨l, hl, he⟩
      unfold Zg8 at he
      rw [Option.map_eq_some_iff] at he
      obtain ⟨t, ht, rfl⟩ := he
      exact ⟨w, rfl, l, hl, t, ht, rfl⟩
    · rintro ⟨w', hw, l, hl, t, ht, rfl⟩
      cases hw
      exact ⟨l, hl, by unfold Zg8; rw [ht]; rfl⟩
theorem Zho {d : Dsk} (hd : d.ok) {s t : HSt} (hs : d.inS s) {l : List Nat} (hl : l ∈ d.trs false) (hn : d.next s l = some t) (c : Int) : s ++ [(Z1L l : Int), c] ≠ zw := by
  intro e
  obtain ⟨s0, s1, s2, s3, rfl⟩ := Z1P hs.len
  have e2 : s0 = 0 ∧ (Z1L l : Int) = 0 := by
    have h1 := congrArg (fun z => na z 0) e
    have h2 := congrArg (fun z => na z 4) e
    exact ⟨h1, h2⟩
  have hn1 := hd.n
  have h2 := ((d.next_at hn1.2 hs.len (d.trs_lt hl) hn).2 0).1 (by omega)
  have h0 : (0 : Nat) ∉ l := fun hm => by
    have h3 := Z5T l 0
    rw [decide_eq_true hm, show Z1L l = 0 by have := e2.2; omega] at h3
    simp at h3
  unfold Dsk.mid at h2
  rw [if_neg h0] at h2
  have h4 : na [s0, s1, s2, s3] 0 = 0 := e2.1
  omega
theorem Z8X {d : Dsk} (hd : d.ok) (s0 : HSt) (i : Nat) : Fsp ((d.sts.take d.nst).flatMap (evW d (Z0N d s0 i))) (Z0N d s0 (i + 1)) := by
  have h := Fsp.fold (fs := (d.sts.take d.nst).flatMap (evW d (Z0N d s0 i))) Fsp.nil (fun f hf => by
    rw [List.nil_append] at hf
    obtain ⟨s, hs, w, _, l, hl, t, ht, rfl⟩ := mem_ev.1 hf
    exact Zho hd ((d.mem_sts hd s).1 hs) hl ht _)
  rw [List.nil_append] at h
  exact h
theorem Z4D {d : Dsk} {s0 : HSt} (s : HSt) : Z17 (Z0N d s0 0) s = bif decide (s0 = s) then some zw else none := by
  unfold Z0N Z17
  rw [List.find?_cons]
  dsimp only
  cases decide (s0 = s) <;> rfl
theorem Z6O {d : Dsk} (hd : d.ok) {s0 : HSt} {i : Nat} {s : HSt} {w : List Int} (h : Z17 (Z0N d s0 (i + 1)) s = some w) :
    ∃ u w' l, u ∈ d.sts ∧ Z17 (Z0N d s0 i) u = some w' ∧ l ∈ d.trs false ∧ d.next u l = some s ∧ w = u ++ [(Z1L l : Int), na w' 5 + (l.length : Int)] := by
  obtain ⟨u, hu, w', hw', l, hl, t, ht, e⟩ := mem_ev.1 ((Z8X hd s0 i).mem _ _ h)
  cases e
  exact ⟨u, w', l, hu, hw', hl, ht, rfl⟩
theorem Z6t {u : HSt} (hu : u.length = 4) (x y : Int) : na (u ++ [x, y]) 5 = y ∧ na (u ++ [x, y]) 4 = x ∧ (u ++ [x, y]).take 4 = u := by
  obtain ⟨a, b, c, e, rfl⟩ := Z1P hu
  exact ⟨rfl, rfl, rfl⟩
theorem Z6X {d : Dsk} (hd : d.ok) {s0 : HSt} (h0 : d.inS s0) : ∀ (i : Nat), (∀ s c, d.pth i s0 s c → ∃ w, Z17 (Z0N d s0 i) s = some w ∧ na w 5 ≤ (c : Int)) ∧ (∀ s w, Z17 (Z0N d s0 i) s = some w → ∃ c : Nat, na w 5 = c ∧ d.pth i s0 s c)
  | 0 => by
    refine ⟨fun s c h => ?_, fun s w h => ?_⟩
    · obtain ⟨rfl, rfl⟩ := h
      exact ⟨zw, by rw [Z4D, decide_eq_true rfl]; rfl, by decide⟩
    · rw [Z4D] at h
      by_cases e : s0 = s
      · rw [decide_eq_true e] at h; cases h; exact ⟨0, by decide, e.symm, rfl⟩
      · rw [decide_eq_false e] at h; cases h
  | i + 1 => by
    obtain ⟨i1, i2⟩ := Z6X hd h0 i
    refine ⟨fun s c h => ?_, fun s w h => ?_⟩
    · obtain ⟨u, a, l, h1, h2, h3, rfl⟩ := h
      obtain ⟨w, hw, hle⟩ := i1 u a h1
      have hu := d.pth_inS hd h0 h1
      obtain ⟨w', hw', hle'⟩ := (Z8X hd s0 i).has s (u ++ [(Z1L l : Int), na w 5 + (l.length : Int)]) (mem_ev.2 ⟨u, (d.mem_sts hd u).2 hu, w, hw, l, h2, s, h3, rfl⟩)
      rw [(Z6t hu.len _ _).1] at hle'
      exact ⟨w', hw', by push_cast; omega⟩
    · obtain ⟨u, w', l, hu, hw', hl, ht, rfl⟩ := Z6O hd h
      obtain ⟨c, hc, hp⟩ := i2 u w' hw'
      have hul := ((d.mem_sts hd u).1 hu).len
      refine ⟨c + l.length, ?_, u, c, l, hp, hl, ht, rfl⟩
      rw [(Z6t hul _ _).1, hc]; push_cast; rfl
def Bsp (m : MW) (D : List HSt) : Option (HSt × Int) → Prop
  | none => ∀ s ∈ D, Z17 m s = none
  | some p => p.1 ∈ D ∧ ∃ w, Z17 m p.1 = some w ∧ p.2 = na w 5 ∧ ∀ s ∈ D, ∀ w', Z17 m s = some w' → p.2 ≤ na w' 5
theorem Bsp.add {m : MW} {D : List HSt} {acc : Option (HSt × Int)} (h : Bsp m D acc) (s : HSt) : Bsp m (D ++ [s]) (Z52 m acc s) := by
  unfold Z52
  cases hs : Z17 m s with
  | none =>
    dsimp only
    cases acc with
    | none => intro t ht; rcases List.mem_append.1 ht with h1 | h1; exact h t h1; rw [List.mem_singleton.1 h1]; exact hs
    | some p =>
      obtain ⟨h1, w, h2, h3, h4⟩ := h
      refine ⟨List.mem_append_left _ h1, w, h2, h3, fun t ht w' hw' => ?_⟩
      rcases List.mem_append.1 ht with h5 | h5
      · exact h4 t h5 w' hw'
      · rw [List.mem_singleton.1 h5, hs] at hw'; cases hw'
  | some w =>
    dsimp only
    cases acc with
    | none =>
      refine ⟨by simp, w, hs, rfl, fun t ht w' hw' => ?_⟩
      rcases List.mem_append.1 ht with h5 | h5
      · rw [h t h5] at hw'; cases hw'
      · rw [List.mem_singleton.1 h5, hs] at hw'; cases hw'; exact Int.le_refl _
    | some p =>
      obtain ⟨q, n⟩ := p
      obtain ⟨h1, w0, h2, h3, h4⟩ := h
      dsimp only at h1 h2 h3 h4 ⊢
      by_cases hlt : na w 5 < n
      · rw [decide_eq_true hlt, cond_true]
        refine ⟨by simp, w, hs, rfl, fun t ht w' hw' => ?_⟩
        dsimp only
        rcases List.mem_append.1 ht with h5 | h5
        · have := h4 t h5 w' hw'; omega
        · rw [List.mem_singleton.1 h5, hs] at hw'; cases hw'; exact Int.le_refl _
      · rw [decide_eq_false hlt, cond_false]
        refine ⟨List.mem_append_left _ h1, w0, h2, h3, fun t ht w' hw' => ?_⟩
        dsimp only
        rcases List.mem_append.1 ht with h5 | h5
        · exact h4 t h5 w' hw'
        · rw [List.mem_singleton.1 h5, hs] at hw'; cases hw'; omega
theorem Bsp.fold {m : MW} : ∀ {l D : List HSt} {acc : Option (HSt × Int)}, Bsp m D acc → Bsp m (D ++ l) (l.foldl (Z52 m) acc)
  | [], D, acc, h => by rw [List.append_nil]; exact h
  | s :: l, D, acc, h => by
    have := Bsp.fold (l := l) (h.add s)
    rw [List.append_assoc] at this
    exact this
theorem Z9G (d : Dsk) (m : MW) : Bsp m d.sts (Z1a d m d.nst) := by
  have h := Bsp.fold (m := m) (l := d.sts) (D := []) (acc := none) (fun s hs => by cases hs)
  unfold Z1a
  rw [List.take_of_length_le (by rw [d.sts_len]; exact Nat.le_refl _)]
  exact h
def Dsk.run (d : Dsk) : HSt → List (List Nat) → Option HSt
  | s, [] => some s
  | s, l :: p => match d.next s l with
    | none => none
    | some t => d.run t p
def Z2W (p : List (List Nat)) : Nat := (p.map List.length).sum
theorem Z5u (p q : List (List Nat)) : Z2W (p ++ q) = Z2W p + Z2W q := by unfold Z2W; rw [List.map_append, List.sum_append]
theorem Dsk.run_app (d : Dsk) : ∀ (p q : List (List Nat)) (s : HSt), d.run s (p ++ q) = match d.run s p with
    | none => none
    | some t => d.run t q
  | [], q, s => rfl
  | l :: p, q, s => by
    have e1 : ∀ r, d.run s (l :: r) = match d.next s l with
      | none => none
      | some t => d.run t r := fun r => rfl
    rw [List.cons_append, e1, e1]
    cases d.next s l with
    | none => rfl
    | some t => exact run_app d p q t
theorem Dsk.run_one (d : Dsk) (s : HSt) (l : List Nat) : d.run s [l] = d.next s l := by
  unfold Dsk.run
  cases d.next s l <;> rfl
theorem Dsk.pth_run {d : Dsk} : ∀ {n : Nat} {s t : HSt} {c : Nat}, d.pth n s t c → ∃ p, p.length = n ∧ (∀ l ∈ p, l ∈ d.trs false) ∧ d.run s p = some t ∧ Z2W p = c
  | 0, s, t, c, h => by obtain ⟨rfl, rfl⟩ := h; exact ⟨[], rfl, by simp, rfl, rfl⟩
  | n + 1, s, t, c, h => by
    obtain ⟨u, a, l, h1, h2, h3, rfl⟩ := h
    obtain ⟨p, i1, i2, i3, i4⟩ := pth_run h1
    refine ⟨p ++ [l], by simp [i1], fun k hk => ?_, by rw [d.run_app, i3]; dsimp only; rw [d.run_one]; exact h3, by rw [Z5u, i4]; rfl⟩
    rcases List.mem_append.1 hk with h4 | h4
    · exact i2 k h4
    · rw [List.mem_singleton.1 h4]; exact h2
theorem Z5z {d : Dsk} (hd : d.ok) {s0 : HSt} : ∀ (i : Nat) (s : HSt) (w : List Int), Z17 (Z0N d s0 i) s = some w → (Z1Q d s0 i s).length = i ∧ (∀ l ∈ Z1Q d s0 i s, l ∈ d.trs false) ∧ d.run s0 (Z1Q d s0 i s) = some s ∧ (Z2W (Z1Q d s0 i s) : Int) = na w 5
  | 0, s, w, h => by
    rw [Z4D] at h
    by_cases e : s0 = s
    · rw [decide_eq_true e] at h; cases h; subst e; exact ⟨rfl, fun l hl => (by cases hl), rfl, rfl⟩
    · rw [decide_eq_false e] at h; cases h
  | i + 1, s, w, h => by
    obtain ⟨u, w', l, hu, hw', hl, ht, rfl⟩ := Z6O hd h
    obtain ⟨a5, a4, aT⟩ := Z6t ((d.mem_sts hd u).1 hu).len (Z1L l : Int) (na w' 5 + (l.length : Int))
    obtain ⟨i1, i2, i3, i4⟩ := Z5z hd i u w' hw'
    have hn := hd.n
    obtain ⟨v, hv, rfl⟩ : ∃ v, v < 2 ^ d.n ∧ l = Z04 d.n v := by obtain ⟨v, hv, e, _⟩ := d.mem_trs.1 hl; exact ⟨v, hv, e⟩
    have hlt : Z1L (Z04 d.n v) < 2 ^ d.n := Z8r fun k hk => Z3X hk
    have hlt4 : Z1L (Z04 d.n v) < 2 ^ 4 := Nat.lt_of_lt_of_le hlt (Nat.pow_le_pow_right (by decide) hn.2)
    have eb : Z1Q d s0 (i + 1) s = Z1Q d s0 i u ++ [Z04 d.n v] := by
      show Z1Q d s0 i (((Z17 (Z0N d s0 (i + 1)) s).getD zw).take 4) ++ [Z04 4 (na ((Z17 (Z0N d s0 (i + 1)) s).getD zw) 4).toNat] = _
      rw [h, Option.getD_some, aT, a4, Int.toNat_natCast, Z6Y hlt4 hlt, ZbB]
    rw [eb, a5]
    refine ⟨by simp [i1], fun k hk => ?_, by rw [d.run_app, i3]; dsimp only; rw [d.run_one]; exact ht, by rw [Z5u]; push_cast; rw [i4]; rfl⟩
    rcases List.mem_append.1 hk with h4 | h4
    · exact i2 k h4
    · rw [List.mem_singleton.1 h4]; exact hl
theorem ZcU {d : Dsk} (hd : d.ok) {s0 : HSt} (h0 : d.inS s0) (days : Nat) : (Z1a d (Z0N d s0 days) d.nst = none ∧ ¬ ∃ t c, d.pth days s0 t c) ∨
    ∃ (s : HSt) (c : Nat), Z1a d (Z0N d s0 days) d.nst = some (s, (c : Int)) ∧ FewC d s0 days c ∧ (Z1Q d s0 days s).length = days ∧ (∀ l ∈ Z1Q d s0 days s, l ∈ d.trs false) ∧ d.run s0 (Z1Q d s0 days s) = some s ∧ Z2W (Z1Q d s0 days s) = c := by
  have hb := Z9G d (Z0N d s0 days)
  obtain ⟨m1, m2⟩ := Z6X hd h0 days
  cases he : Z1a d (Z0N d s0 days) d.nst with
  | none =>
    rw [he] at hb
    refine .inl ⟨rfl, ?_⟩
    rintro ⟨t, c, hp⟩
    obtain ⟨w, hw, _⟩ := m1 t c hp
    rw [hb t ((d.mem_sts hd t).2 (d.pth_inS hd h0 hp))] at hw
    cases hw
  | some p =>
    rw [he] at hb
    obtain ⟨s, n⟩ := p
    obtain ⟨h1, w, h2, h3, h4⟩ := hb
    dsimp only at h1 h2 h3 h4
    obtain ⟨c, hc, hp⟩ := m2 s w h2
    obtain ⟨b1, b2, b3, b4⟩ := Z5z hd days s w h2
    refine .inr ⟨s, c, by rw [h3, hc], ⟨⟨s, hp⟩, fun t c' hp' => ?_⟩, b1, b2, b3, by omega⟩
    obtain ⟨w', hw', hle⟩ := m1 t c' hp'
    have := h4 t ((d.mem_sts hd t).2 (d.pth_inS hd h0 hp')) w' hw'
    omega
def Barn.stw (b : Barn) (ws : List Int) : HSt := pad ((List.range b.bins.length).map fun k => b.days (b.bins.getD k hb0) (na ws k))
theorem Barn.stw_at {b : Barn} {ws : List Int} {k : Nat} (hk : k < b.bins.length) : na (b.stw ws) k = b.days (b.bins.getD k hb0) (na ws k) := by
  unfold Barn.stw
  rw [Z13]
  unfold na
  rw [List.getD_eq_getElem?_getD, List.getElem?_map, List.getElem?_range hk]; rfl
theorem Barn.stw_out {b : Barn} {ws : List Int} {k : Nat} (hk : b.bins.length ≤ k) : na (b.stw ws) k = 0 := by
  unfold Barn.stw
  rw [Z13]
  unfold na
  rw [List.getD_eq_getElem?_getD, List.getElem?_eq_none (by simpa using hk)]; rfl
theorem Barn.stw_len {b : Barn} (hb : b.ok) (ws : List Int) : (b.stw ws).length = 4 := Z0Y (by simpa using hb.many.2)
theorem Barn.state_at {b : Barn} (hb : b.ok) {k : Nat} (hk : k < b.bins.length) : na b.state k = b.days (b.bins.getD k hb0) (b.bins.getD k hb0).warm := by
  obtain ⟨x, hx⟩ : ∃ x, b.bins[k]? = some x := ⟨_, List.getElem?_eq_getElem hk⟩
  rw [Z07 hx]
  exact Z24 (b.map_get hb _ hx)
theorem Barn.lasts_at {b : Barn} (hb : b.ok) {k : Nat} (hk : k < b.bins.length) : na b.lasts k = b.days (b.bins.getD k hb0) b.cool := by
  obtain ⟨x, hx⟩ : ∃ x, b.bins[k]? = some x := ⟨_, List.getElem?_eq_getElem hk⟩
  rw [Z07 hx]
  exact Z24 (b.map_get hb _ hx)
theorem Barn.warms_at {b : Barn} {k : Nat} (hk : k < b.bins.length) : na b.warms k = (b.bins.getD k hb0).warm := by
  obtain ⟨x, hx⟩ : ∃ x, b.bins[k]? = some x := ⟨_, List.getElem?_eq_getElem hk⟩
  rw [Z07 hx]
  unfold na Barn.warms
  rw [List.getD_eq_getElem?_getD, List.getElem?_map, hx]; rfl
theorem Barn.stw_warms {b : Barn} (hb : b.ok) : b.stw b.warms = b.state := Z9s (b.stw_len hb _) (b.state_sml hb).len fun k _ => by
  rcases Nat.lt_or_ge k b.bins.length with h | h
  · rw [Barn.stw_at h, Barn.state_at hb h, Barn.warms_at h]
  · rw [Barn.stw_out h]
    unfold Barn.state
    rw [Z13]
    unfold na
    rw [List.getD_eq_getElem?_getD, List.getElem?_eq_none (by simpa using h)]; rfl
theorem Z5I {r m w v : Int} (hr : 0 ≤ r) (h : w ≤ v) : Z0B r m v ≤ Z0B r m w := by
  unfold Z0B
  by_cases h0 : r = 0
  · rw [decide_eq_true h0]; exact Int.le_refl _
  · rw [decide_eq_false h0, cond_false, cond_false]
    by_cases h1 : m < v
    · rw [decide_eq_true h1, cond_true]
      by_cases h2 : m < w
      · rw [decide_eq_true h2]; exact Int.le_refl _
      · rw [decide_eq_false h2, cond_false]; exact Int.ediv_nonneg (by omega) hr
    · rw [decide_eq_false h1, cond_false, decide_eq_false (by omega), cond_false]
      exact Int.ediv_le_ediv (by omega) (by omega)
theorem Zap {r m w c : Int} (hr : 0 ≤ r) : max (Z0B r m w) (Z0B r m c) = Z0B r m (min w c) := by
  rcases Int.le_total w c with h | h
  · have := Z5I (m := m) hr h
    rw [Int.min_eq_left h]; omega
  · have := Z5I (m := m) hr h
    rw [Int.min_eq_right h]; omega
theorem Zag {r m w : Int} (hr : 0 < r) (hw : w ≤ m) (h : m < w + r) : Z0B r m w = 0 := by
  unfold Z0B
  rw [decide_eq_false (by omega), cond_false, decide_eq_false (by omega), cond_false]
  exact Int.ediv_eq_zero_of_lt (by omega) (by omega)
theorem Z7A {r m w : Int} (hr : 0 < r) (h : w + r ≤ m) : Z0B r m (w + r) = Z0B r m w - 1 ∧ 1 ≤ Z0B r m w := by
  have e : Z0B r m w = Z0B r m (w + r) + 1 := by
    unfold Z0B
    rw [decide_eq_false (by omega), cond_false, cond_false, decide_eq_false (by omega), cond_false, decide_eq_false (by omega), cond_false]
    rw [show m - w = (m - (w + r)) + 1 * r by omega, Int.add_mul_ediv_right _ _ (by omega)]
  have : 0 ≤ Z0B r m (w + r) := by
    unfold Z0B
    rw [decide_eq_false (by omega), cond_false, decide_eq_false (by omega), cond_false]
    exact Int.ediv_nonneg (by omega) (by omega)
  omega
theorem Zgq (l : List Nat) (k : Nat) : Z3J (il l) (k : Int) = decide (k ∈ l) := by
  rw [Bool.eq_iff_iff, decide_eq_true_eq]
  unfold Z3J il
  rw [List.any_eq_true]
  constructor
  · rintro ⟨y, hy, he⟩
    obtain ⟨j, hj, rfl⟩ := List.mem_map.1 hy
    have := of_decide_eq_true he
    obtain rfl : k = j := by omega
    exact hj
  · intro h; exact ⟨(k : Int), List.mem_map.2 ⟨k, h, rfl⟩, decide_eq_true rfl⟩
theorem Barn.bin_at {b : Barn} (hb : b.ok) {k : Nat} (hk : k < b.bins.length) : b.bins.getD k hb0 ∈ b.bins := by
  rw [List.getD_eq_getElem?_getD, List.getElem?_eq_getElem hk]; exact List.getElem_mem hk
theorem Barn.mid_of {b : Barn} (hb : b.ok) {ws : List Int} (l : List Nat) {k : Nat} (hk : k < b.bins.length) : b.dsk.mid (b.stw ws) l k = b.days (b.bins.getD k hb0) (bif Z3J (il l) k then min (na ws k) b.cool else na ws k) := by
  have hr := b.worst_range hb (Barn.bin_at hb hk)
  unfold Dsk.mid
  rw [Zgq, Barn.stw_at hk, show na b.dsk.lasts k = _ from Barn.lasts_at hb hk]
  by_cases h : k ∈ l
  · rw [if_pos h, decide_eq_true h, cond_true]; exact Zap (by omega)
  · rw [if_neg h, decide_eq_false h, cond_false]
theorem Barn.run_day {b : Barn} (hb : b.ok) {ws : List Int} (hw : Cool b ws) {l : List Nat} (hl : ∀ k ∈ l, k < b.bins.length) :
    ((∀ k < b.bins.length, b.hotAt ws (il l) k = false) → b.dsk.next (b.stw ws) l = some (b.stw (b.dayW ws (il l)))) ∧ (∀ k < b.bins.length, b.hotAt ws (il l) k = true → b.dsk.next (b.stw ws) l = none) := by
  have hn := hb.many
  have key : ∀ k < b.bins.length, ∃ r m v, (r = 0 ∨ 6 ≤ r) ∧ v ≤ m ∧ m ≤ 60 ∧ 0 ≤ v ∧ b.dsk.mid (b.stw ws) l k = Z0B r m v ∧ (b.hotAt ws (il l) k = decide (m < v + r)) ∧ na (b.stw (b.dayW ws (il l))) k = Z0B r m (v + r) := fun k hk => by
    have hm := Barn.bin_at hb hk
    have hr := b.worst_range hb hm
    obtain ⟨x, hx⟩ : ∃ x, b.bins[k]? = some x := ⟨_, List.getElem?_eq_getElem hk⟩
    have hc := hw.at_ k x hx
    have hcl := hb.cool
    have hmk := (hb.bins x (List.mem_of_getElem? hx)).1
    have e1 := Barn.mid_of hb (ws := ws) l hk
    rw [Z07 hx] at e1 hr
    refine ⟨b.worst x, x.mark, bif Z3J (il l) k then min (na ws k) b.cool else na ws k, by omega, ?_, by omega, ?_, e1, ?_, ?_⟩
    · cases Z3J (il l) k <;> simp only [cond_true, cond_false] <;> omega
    · cases Z3J (il l) k <;> simp only [cond_true, cond_false] <;> omega
    · unfold Barn.hotAt; rw [Z07 hx, b.wdAt_of hx]; rfl
    · rw [Barn.stw_at hk, Z24 (b.dayW_at hk), b.wdAt_of hx, Z07 hx]; rfl
  constructor
  · intro hcold
    obtain ⟨t, ht⟩ := b.dsk.next_some hn.2 (b.stw_len hb ws) hl (fun k hk => by
      obtain ⟨r, m, v, h1, h2, h3, h4, h5, h6, h7⟩ := key k hk
      rw [h5]
      rcases h1 with rfl | h1
      · exact .inl rfl
      · have h8 := hcold k hk
        rw [h6, decide_eq_false_iff_not] at h8
        exact .inr (Z7A (by omega) (by omega)).2)
    rw [ht]
    congr 1
    obtain ⟨t1, t2⟩ := b.dsk.next_at hn.2 (b.stw_len hb ws) hl ht
    refine Z9s t1 (b.stw_len hb _) fun k _ => ?_
    rw [(t2 k).2]
    rcases Nat.lt_or_ge k b.bins.length with hk | hk
    · obtain ⟨r, m, v, h1, h2, h3, h4, h5, h6, h7⟩ := key k hk
      rw [h7, h5]
      rcases h1 with rfl | h1
      · rw [if_neg (by intro h; exact h.2 rfl)]; rfl
      · have h8 := hcold k hk
        rw [h6, decide_eq_false_iff_not] at h8
        have h9 := Z7A (r := r) (m := m) (w := v) (by omega) (by omega)
        have h10 : Z0B r m v ≤ 60 := by
          unfold Z0B
          rw [decide_eq_false (by omega), cond_false, decide_eq_false (by omega), cond_false]
          exact Int.le_trans (Int.ediv_le_self _ (by omega)) (by omega)
        rw [if_pos ⟨hk, by omega⟩, h9.1]
    · rw [if_neg (by intro h; have : k < b.bins.length := h.1; omega), Barn.stw_out hk]
      unfold Dsk.mid
      rw [if_neg (fun h => by have := hl k h; omega), Barn.stw_out hk]
  · intro k hk hhot
    cases hnx : b.dsk.next (b.stw ws) l with
    | none => rfl
    | some t =>
      exfalso
      have h8 := ((b.dsk.next_at hn.2 (b.stw_len hb ws) hl hnx).2 k).1 hk
      obtain ⟨r, m, v, h1, h2, h3, h4, h5, h6, h7⟩ := key k hk
      rw [h6, decide_eq_true_eq] at hhot
      have h9 := Zag (r := r) (m := m) (w := v) (by omega) h2 hhot
      rw [h5, h9] at h8
      omega
theorem Barn.run_burns {b : Barn} (hb : b.ok) : ∀ (p : List (List Nat)) (ws : List Int) (d0 : Nat), Cool b ws → (∀ l ∈ p, ∀ k ∈ l, k < b.bins.length) →
    (∃ ws', b.burnsF ws (p.map il) d0 = (none, ws') ∧ b.dsk.run (b.stw ws) p = some (b.stw ws') ∧ Cool b ws') ∨ (∃ q ws', b.burnsF ws (p.map il) d0 = (some q, ws') ∧ b.dsk.run (b.stw ws) p = none)
  | [], ws, d0, hc, _ => .inl ⟨ws, rfl, rfl, hc⟩
  | l :: p, ws, d0, hc, hl => by
    obtain ⟨r1, r2⟩ := Barn.run_day hb hc (hl l (by simp))
    rw [List.map_cons, b.burns_cons]
    cases hf : (List.range b.bins.length).find? (b.hotAt ws (il l)) with
    | some k =>
      rw [List.find?_range_eq_some] at hf
      refine .inr ⟨_, _, rfl, ?_⟩
      unfold Dsk.run
      rw [r2 k (List.mem_range.1 hf.2.1) hf.1]
    | none =>
      have hn : ∀ k < b.bins.length, b.hotAt ws (il l) k = false := fun k hk => by
        have := List.find?_eq_none.1 hf k (List.mem_range.2 hk)
        simpa using this
      dsimp only
      unfold Dsk.run
      rw [r1 hn]
      exact run_burns hb p _ (d0 + 1) (hc.next hb hn) (fun m hm => hl m (by simp [hm]))
theorem Zau {l : List Int} (h : l.Pairwise (· < ·)) : ZbM l = true := Z4t fun i x y hx hy => by
  obtain ⟨h1, e1⟩ := List.getElem?_eq_some_iff.1 hx
  obtain ⟨h2, e2⟩ := List.getElem?_eq_some_iff.1 hy
  have := List.pairwise_iff_getElem.1 h i (i + 1) h1 h2 (by omega)
  rw [e1, e2] at this; exact this
theorem Z77 (n u : Nat) : (il (Z04 n u)).Pairwise (· < ·) := by
  unfold il Z04
  rw [List.pairwise_map]
  exact (List.Pairwise.filter _ List.pairwise_lt_range).imp fun h => by omega
theorem Za0 {d : Dsk} {l : List Nat} (h : l ∈ d.trs false) : Z0R d.n d.gangs (il l) = 0 := by
  obtain ⟨u, hu, rfl, h1, _⟩ := d.mem_trs.1 h
  unfold Z0R
  have e1 : ((il (Z04 d.n u)).all fun k => inB k 0 ((d.n : Int) - 1)) = true := by
    rw [List.all_eq_true]
    intro y hy
    obtain ⟨k, hk, rfl⟩ := List.mem_map.1 hy
    have := Z3X hk
    simp [inB]; omega
  rw [e1, Zau (Z77 _ _), Z5A]
  unfold Dsk.g at h1
  rw [decide_eq_false (by omega)]; rfl
theorem Z4x {d : Dsk} : ∀ {p : List (List Nat)}, (∀ l ∈ p, l ∈ d.trs false) → Z0q d.n d.gangs (p.map il) = 0
  | [], _ => rfl
  | l :: p, h => by
    rw [List.map_cons]
    unfold Z0q
    rw [Za0 (h l (by simp))]
    exact Z4x fun m hm => h m (by simp [hm])
theorem Z37 {d : Dsk} {p : List (List Nat)} (hl : p.length ≤ 20000) (h : ∀ l ∈ p, l ∈ d.trs false) : ZX d.n d.gangs (p.map il) = 0 := by
  unfold ZX
  rw [List.length_map, decide_eq_false (by omega)]
  exact Z4x h
theorem Dsk.trs_four {d : Dsk} (hd : d.ok) {l : List Nat} (h : l ∈ d.trs false) : l.length ≤ 4 := Z4n hd h
theorem Dsk.pth_le {d : Dsk} (hd : d.ok) : ∀ {n : Nat} {s t : HSt} {c : Nat}, d.pth n s t c → c ≤ 4 * n
  | 0, s, t, c, h => by obtain ⟨_, rfl⟩ := h; omega
  | n + 1, s, t, c, h => by
    obtain ⟨u, a, l, h1, h2, _, rfl⟩ := h
    have := pth_le hd h1
    have := d.trs_four hd h2
    omega
def Sxc (n : Nat) (g : Int) (la : List Int) (now : List (List Int)) (cs : List Int) (i u : Nat) (t : List Int) (x : Int) : Prop := ∃ j s v a, now[j]? = some s ∧ cs[j]? = some a ∧ (j < i ∨ (j = i ∧ v < u)) ∧ v < 2 ^ n ∧ rS n g la s v = some t ∧ x = a + ((Z04 4 v).length : Int)
theorem Sxc.sx {n : Nat} {g : Int} {la : List Int} {now : List (List Int)} {cs : List Int} {i u : Nat} {t : List Int} {x : Int} (h : Sxc n g la now cs i u t x) : Sx n g la now i u t := by
  obtain ⟨j, s, v, a, h1, _, h3, h4, h5, _⟩ := h
  exact ⟨j, s, v, h1, h3, h4, h5⟩
theorem Sxc.step {n : Nat} {g : Int} {la s t : List Int} {now : List (List Int)} {cs : List Int} {i u : Nat} {a x : Int} (hs : now[i]? = some s) (ha : cs[i]? = some a) (hu : u < 2 ^ n) : Sxc n g la now cs i (u + 1) t x ↔ Sxc n g la now cs i u t x ∨ (rS n g la s u = some t ∧ x = a + ((Z04 4 u).length : Int)) := by
  constructor
  · rintro ⟨j, s', v, a', h1, h2, h3, h4, h5, h6⟩
    rcases h3 with h3 | ⟨rfl, h3⟩
    · exact .inl ⟨j, s', v, a', h1, h2, .inl h3, h4, h5, h6⟩
    · rcases Nat.lt_or_ge v u with h7 | h7
      · exact .inl ⟨j, s', v, a', h1, h2, .inr ⟨rfl, h7⟩, h4, h5, h6⟩
      · obtain rfl : v = u := by omega
        rw [hs] at h1; cases h1; rw [ha] at h2; cases h2; exact .inr ⟨h5, h6⟩
  · rintro (⟨j, s', v, a', h1, h2, h3, h4, h5, h6⟩ | ⟨h5, h6⟩)
    · exact ⟨j, s', v, a', h1, h2, by omega, h4, h5, h6⟩
    · exact ⟨i, s, u, a, hs, ha, by omega, hu, h5, h6⟩
theorem Sxc.next {n : Nat} {g : Int} {la t : List Int} {now : List (List Int)} {cs : List Int} {i : Nat} {x : Int} : Sxc n g la now cs (i + 1) 0 t x ↔ Sxc n g la now cs i (2 ^ n) t x := by
  constructor
  · rintro ⟨j, s', v, a, h1, h2, h3, h4, h5⟩
    exact ⟨j, s', v, a, h1, h2, by omega, h4, h5⟩
  · rintro ⟨j, s', v, a, h1, h2, h3, h4, h5⟩
    exact ⟨j, s', v, a, h1, h2, by omega, h4, h5⟩
structure Bc (n : Nat) (g : Int) (la : List Int) (now : List (List Int)) (cs : List Int) (i u : Nat) (L : List (List Int)) (S : List Int) : Prop where
  bf : Bf n g la now i u L
  len : S.length = L.length
  val : ∀ (j : Nat) (t : List Int) (x : Int), L[j]? = some t → S[j]? = some x → Sxc n g la now cs i u t x ∧ ∀ y, Sxc n g la now cs i u t y → x ≤ y
theorem Bc.start {n : Nat} {g : Int} {la : List Int} {now : List (List Int)} {cs : List Int} : Bc n g la now cs 0 0 [] [] := ⟨Bf.start, rfl, fun j t x h => by simp at h⟩
theorem Bc.next {n : Nat} {g : Int} {la : List Int} {now : List (List Int)} {cs : List Int} {i : Nat} {L : List (List Int)} {S : List Int} (h : Bc n g la now cs i (2 ^ n) L S) : Bc n g la now cs (i + 1) 0 L S :=
  ⟨h.bf.next, h.len, fun j t x h1 h2 => by
    obtain ⟨h3, h4⟩ := h.val j t x h1 h2
    exact ⟨Sxc.next.2 h3, fun y hy => h4 y (Sxc.next.1 hy)⟩⟩
theorem Bc.skip {n : Nat} {g : Int} {la s : List Int} {now : List (List Int)} {cs : List Int} {i u : Nat} {L : List (List Int)} {S : List Int} {a : Int} (h : Bc n g la now cs i u L S) (hs : now[i]? = some s) (ha : cs[i]? = some a) (hu : u < 2 ^ n) (hn : rS n g la s u = none) : Bc n g la now cs i (u + 1) L S :=
  ⟨h.bf.skip hs hu (fun t ht => by rw [hn] at ht; cases ht), h.len, fun j t x h1 h2 => by
    obtain ⟨h3, h4⟩ := h.val j t x h1 h2
    refine ⟨(Sxc.step hs ha hu).2 (.inl h3), fun y hy => ?_⟩
    rcases (Sxc.step hs ha hu).1 hy with h5 | ⟨h5, _⟩
    · exact h4 y h5
    · rw [hn] at h5; cases h5⟩
theorem Bc.add {n : Nat} {g : Int} {la s t : List Int} {now : List (List Int)} {cs : List Int} {i u : Nat} {L : List (List Int)} {S : List Int} {a : Int} (h : Bc n g la now cs i u L S) (hs : now[i]? = some s) (ha : cs[i]? = some a) (hu : u < 2 ^ n) (ht : rS n g la s u = some t) (hn : t ∉ L) :
    Bc n g la now cs i (u + 1) (L ++ [t]) (S ++ [a + ((Z04 4 u).length : Int)]) where
  bf := h.bf.add hs hu ht hn
  len := by rw [List.length_append, List.length_append, h.len]; rfl
  val j t' x h1 h2 := by
    have hl := h.len
    rcases Nat.lt_or_ge j L.length with hj | hj
    · rw [List.getElem?_append_left hj] at h1
      rw [List.getElem?_append_left (by omega)] at h2
      obtain ⟨h3, h4⟩ := h.val j t' x h1 h2
      refine ⟨(Sxc.step hs ha hu).2 (.inl h3), fun y hy => ?_⟩
      rcases (Sxc.step hs ha hu).1 hy with h5 | ⟨h5, _⟩
      · exact h4 y h5
      · rw [ht] at h5; cases h5; exact absurd (List.mem_of_getElem? h1) hn
    · have hj2 := (List.getElem?_eq_some_iff.1 h1).1
      rw [List.length_append, List.length_singleton] at hj2
      obtain rfl : j = L.length := by omega
      rw [List.getElem?_append_right (Nat.le_refl _), Nat.sub_self] at h1
      rw [← hl, List.getElem?_append_right (Nat.le_refl _), Nat.sub_self] at h2
      cases h1; cases h2
      refine ⟨(Sxc.step hs ha hu).2 (.inr ⟨ht, rfl⟩), fun y hy => ?_⟩
      rcases (Sxc.step hs ha hu).1 hy with h5 | ⟨_, h5⟩
      · exact absurd ((h.bf.mem _).2 h5.sx) hn
      · rw [h5]; exact Int.le_refl _
theorem Bc.low {n : Nat} {g : Int} {la s t : List Int} {now : List (List Int)} {cs : List Int} {i u k : Nat} {L : List (List Int)} {S : List Int} {a x : Int} (h : Bc n g la now cs i u L S) (hs : now[i]? = some s) (ha : cs[i]? = some a) (hu : u < 2 ^ n) (ht : rS n g la s u = some t) (hk : L[k]? = some t) (hx : S[k]? = some x) :
    Bc n g la now cs i (u + 1) L (S.set k (min x (a + ((Z04 4 u).length : Int)))) where
  bf := h.bf.skip hs hu (fun t2 ht2 => by rw [ht] at ht2; cases ht2; exact List.mem_of_getElem? hk)
  len := by rw [List.length_set, h.len]
  val j t' y h1 h2 := by
    have hl := h.len
    have hkl := (List.getElem?_eq_some_iff.1 hk).1
    by_cases hj : k = j
    · subst hj
      rw [hk] at h1; cases h1
      rw [List.getElem?_set_self (by omega)] at h2; cases h2
      obtain ⟨h3, h4⟩ := h.val k t x hk hx
      refine ⟨(Sxc.step hs ha hu).2 ?_, fun y hy => ?_⟩
      · rcases Int.le_total x (a + ((Z04 4 u).length : Int)) with h5 | h5
        · rw [Int.min_eq_left h5]; exact .inl h3
        · rw [Int.min_eq_right h5]; exact .inr ⟨ht, rfl⟩
      · rcases (Sxc.step hs ha hu).1 hy with h5 | ⟨_, h5⟩
        · have := h4 y h5; omega
        · omega
    · rw [List.getElem?_set_ne hj] at h2
      obtain ⟨h3, h4⟩ := h.val j t' y h1 h2
      refine ⟨(Sxc.step hs ha hu).2 (.inl h3), fun z hz => ?_⟩
      rcases (Sxc.step hs ha hu).1 hz with h5 | ⟨h5, _⟩
      · exact h4 z h5
      · rw [ht] at h5; cases h5
        exact absurd ((List.getElem?_inj hkl h.bf.nd).1 (hk.trans h1.symm)) hj
structure Lvc (d : Dsk) (s0 : HSt) (day : Nat) (L : List (List Int)) (C : List Int) : Prop where
  lv : Lv d s0 day L
  len : C.length = L.length
  val : ∀ (j : Nat) (t : List Int) (x : Int), L[j]? = some t → C[j]? = some x → ∃ c : Nat, x = c ∧ d.pth day s0 (pad t) c ∧ ∀ c', d.pth day s0 (pad t) c' → c ≤ c'
theorem Lvc.start {d : Dsk} {s : List Int} (hs : s.length = d.n) : Lvc d (pad s) 0 [s] [0] := ⟨Lv.start hs, rfl, fun j t x h1 h2 => by
  cases j with
  | succ j => simp at h1
  | zero => cases h1; cases h2; exact ⟨0, rfl, ⟨rfl, rfl⟩, fun c' _ => Nat.zero_le _⟩⟩
theorem Lvc.next {d : Dsk} (hd : d.ok) {s0 : HSt} (h0 : d.inS s0) {la : List Int} (hla : ∀ k < d.n, na la k = na d.lasts k) {day : Nat} {now L : List (List Int)} {cs S : List Int} (h : Lvc d s0 day now cs) (hb : Bc d.n d.gangs la now cs now.length 0 L S) : Lvc d s0 (day + 1) L S where
  lv := h.lv.next hd h0 hla hb.bf
  len := hb.len
  val j t x h1 h2 := by
    have hn := hd.n
    have htl := hb.bf.len t (List.mem_of_getElem? h1)
    obtain ⟨⟨i, s, v, a, g1, g2, _, g4, g5, rfl⟩, h4⟩ := hb.val j t x h1 h2
    obtain ⟨ca, rfl, hp, _⟩ := h.val i s a g1 g2
    have hsl := h.lv.len s (List.mem_of_getElem? g1)
    obtain ⟨k1, k2⟩ := (Z53 hd hla hsl htl g4).1 g5
    have e4 := Z85 hn.2 g4
    refine ⟨ca + (Z04 d.n v).length, by rw [e4]; push_cast; rfl, ⟨_, ca, _, hp, k1, k2, rfl⟩, fun c' hc' => ?_⟩
    obtain ⟨u, a', l, p1, p2, p3, rfl⟩ := hc'
    have hu := d.pth_inS hd h0 p1
    have eu := Z55 hd hu
    have hul : (u.take d.n).length = d.n := by rw [List.length_take, hu.len]; omega
    have hmem : u.take d.n ∈ now := (h.lv.mem _ hul).2 ⟨a', by rw [eu]; exact p1⟩
    obtain ⟨i2, hi2⟩ := List.getElem?_of_mem hmem
    have hi2l := (List.getElem?_eq_some_iff.1 hi2).1
    obtain ⟨y, hy⟩ : ∃ y, cs[i2]? = some y := ⟨_, List.getElem?_eq_getElem (by rw [h.len]; exact hi2l)⟩
    obtain ⟨cy, rfl, _, hmin⟩ := h.val i2 _ y hi2 hy
    rw [eu] at hmin
    have := hmin a' p1
    obtain ⟨w, hw, rfl, _⟩ := d.mem_trs.1 p2
    have e5 := Z85 hn.2 hw
    have := h4 _ ⟨i2, _, w, _, hi2, hy, .inl hi2l, hw, (Z53 hd hla hul htl hw).2 ⟨p2, by rw [eu]; exact p3⟩, rfl⟩
    omega
theorem Lvc.few {d : Dsk} (hd : d.ok) {s0 : HSt} (h0 : d.inS s0) {day : Nat} {L : List (List Int)} {C : List Int} (h : Lvc d s0 day L C) {j : Nat} {x : Int} (hx : C[j]? = some x) (hm : ∀ (i : Nat) (y : Int), C[i]? = some y → x ≤ y) : ∃ c : Nat, x = c ∧ FewC d s0 day c := by
  have hj := (List.getElem?_eq_some_iff.1 hx).1
  have hl := h.len
  obtain ⟨t, ht⟩ : ∃ t, L[j]? = some t := ⟨_, List.getElem?_eq_getElem (by omega)⟩
  obtain ⟨c, rfl, hp, _⟩ := h.val j t x ht hx
  refine ⟨c, rfl, ⟨_, hp⟩, fun u c' hu => ?_⟩
  have hi := d.pth_inS hd h0 hu
  have eu := Z55 hd hi
  have hn := hd.n
  have hmem : u.take d.n ∈ L := (h.lv.mem _ (by rw [List.length_take, hi.len]; omega)).2 ⟨c', by rw [eu]; exact hu⟩
  obtain ⟨i2, hi2⟩ := List.getElem?_of_mem hmem
  have hi2l := (List.getElem?_eq_some_iff.1 hi2).1
  obtain ⟨y, hy⟩ : ∃ y, C[i2]? = some y := ⟨_, List.getElem?_eq_getElem (by omega)⟩
  obtain ⟨cy, rfl, _, hmin⟩ := h.val i2 _ y hi2 hy
  rw [eu] at hmin
  have := hmin c' hu
  have := hm i2 _ hy
  omega
theorem Lvc.none {d : Dsk} (hd : d.ok) {s0 : HSt} (h0 : d.inS s0) {day : Nat} {L : List (List Int)} {C : List Int} (h : Lvc d s0 day L C) (hc : C = []) : ¬ ∃ t c, d.pth day s0 t c := by
  rintro ⟨u, c', hu⟩
  have hi := d.pth_inS hd h0 hu
  have eu := Z55 hd hi
  have hn := hd.n
  have hmem : u.take d.n ∈ L := (h.lv.mem _ (by rw [List.length_take, hi.len]; omega)).2 ⟨c', by rw [eu]; exact hu⟩
  have hl := h.len
  rw [hc] at hl
  rw [List.length_eq_zero_iff.1 hl.symm] at hmem
  cases hmem
theorem Lvc.bd {d : Dsk} (hd : d.ok) {s0 : HSt} {day : Nat} {L : List (List Int)} {C : List Int} (h : Lvc d s0 day L C) {j : Nat} {x : Int} (hx : C[j]? = some x) : 0 ≤ x ∧ x ≤ 4 * (day : Int) := by
  have hj := (List.getElem?_eq_some_iff.1 hx).1
  have hl := h.len
  obtain ⟨t, ht⟩ : ∃ t, L[j]? = some t := ⟨_, List.getElem?_eq_getElem (by omega)⟩
  obtain ⟨c, rfl, hp, _⟩ := h.val j t x ht hx
  have := d.pth_le hd hp
  omega
def ZdO (b : Barn) (n : Nat) (m : Int) : Prop := (m = -1 ∧ ¬ ∃ t c, b.dsk.pth n b.state t c) ∨ ∃ c : Nat, m = c ∧ FewC b.dsk b.state n c
theorem Zf0 {n : Nat} {g : Int} {la s : List Int} {u : Nat} (h : rNx la s u n = none) : rS n g la s u = none := by
  unfold rS
  cases decide (((Z04 4 u).length : Int) ≤ g) with
  | true => exact h
  | false => rfl
theorem Zcd {l : List (List Int)} {s : List Int} (h : ¬ Zab l s < 0) : ∃ k : Nat, Zab l s = k ∧ l[k]? = some s := by
  unfold Zab at h ⊢
  cases hf : l.findIdx? (fun t => decide (t = s)) with
  | some k =>
    obtain ⟨hk, h1, _⟩ := List.findIdx?_eq_some_iff_getElem.1 hf
    refine ⟨k, rfl, ?_⟩
    rw [List.getElem?_eq_getElem hk, of_decide_eq_true h1]
  | none => rw [hf] at h; exact absurd (by decide) h
def OSl.ofInts {e : Nat} (bs cap : Nat) (S : List Int) (junk : List Value) (h1 : S.length + junk.length = cap) (h3 : cap ≤ 9223372036854775807) : OSl e 1 (Zm S) where
  fs := .slice (some ⟨bs, 0, none⟩) S.length cap
  G := [(bs, cel e (ZI S ++ junk))]
  len := Z3r S
  is := .inr ⟨bs, cap, junk, by rw [Zd], by rw [show (Zm S).flatten = ZI S from Z06 S], by rw [Zd]; omega, by rw [Zd]; omega, h3⟩
def MinI (cs : List Int) (i : Nat) (m : Int) : Prop := (i = 0 ∧ m = -1) ∨ (0 < i ∧ 0 ≤ m ∧ (∃ j : Nat, cs[j]? = some m) ∧ ∀ (j : Nat) (x : Int), j < i → cs[j]? = some x → m ≤ x)
theorem MinI.take {cs : List Int} {i : Nat} {m x : Int} (h : MinI cs i m) (hx : cs[i]? = some x) (h0 : 0 ≤ x) (hc : m < 0 ∨ x < m) : MinI cs (i + 1) x := by
  refine .inr ⟨by omega, h0, ⟨i, hx⟩, fun j y hj hy => ?_⟩
  rcases Nat.lt_or_ge j i with h1 | h1
  · rcases h with ⟨rfl, _⟩ | ⟨_, h2, _, h3⟩
    · omega
    · have := h3 j y h1 hy; omega
  · obtain rfl : j = i := by omega
    rw [hx] at hy; cases hy; exact Int.le_refl _
theorem MinI.keep {cs : List Int} {i : Nat} {m x : Int} (h : MinI cs i m) (hx : cs[i]? = some x) (h0 : ¬ m < 0) (hc : ¬ x < m) : MinI cs (i + 1) m := by
  rcases h with ⟨_, rfl⟩ | ⟨h1, h2, h3, h4⟩
  · omega
  · refine .inr ⟨by omega, h2, h3, fun j y hj hy => ?_⟩
    rcases Nat.lt_or_ge j i with h5 | h5
    · exact h4 j y h5 hy
    · obtain rfl : j = i := by omega
      rw [hx] at hy; cases hy; omega
theorem MinI.done {b : Barn} (hok : b.ok) {n : Nat} {L : List (List Int)} {cs : List Int} (h : Lvc b.dsk b.state n L cs) {m : Int} (hm : MinI cs cs.length m) : ZdO b n m := by
  have hdk := b.dsk_ok hok
  have hst := b.state_inS hok
  rcases hm with ⟨h1, rfl⟩ | ⟨_, _, ⟨j, hj⟩, h4⟩
  · exact .inl ⟨rfl, h.none hdk hst (List.length_eq_zero_iff.1 h1)⟩
  · exact .inr (h.few hdk hst hj fun i y hy => h4 i y (List.getElem?_eq_some_iff.1 hy).1 hy)
theorem Z8v (b : Barn) (ab : Option Addr) (cb : Nat) (hok : b.ok) (days : Nat) (hdy : days ≤ 20) (H : Zg) (R : Z6) [hB : MemRows ab 4 (Z7 b.bins) R] :
    Fn Tryz.prog 71 [b.v (b.sl ab cb), .int .i64 days] H R (fun v H' R' => (∃ m, ZdO b days m ∧ v = .int .i64 m) ∧ H' = H ∧ R' = R) := by
 have hmn := hok.many
 have hdk := b.dsk_ok hok
 have hst := b.state_inS hok
 have hp16 := Z4h hmn.2
 refine Zy Tryz.func71 rfl Tryz.ntmps71 rfl ?_
 refine sqt 2 rfl (bx rfl rfl rfl (fun b2 => pur 1 rfl (sqt 6 rfl (spL rfl rfl (lhA (btl b (b.sl ab cb)) Z1n rfl rfl rfl) rfl ?_))))
 refine cl rfl ZdT rfl rfl (Z6F b ab cb hok _ _) ?_
 rintro _ _ R1 ⟨ax, cx, rfl, rfl, hR1⟩
 obtain rfl := hR1.symm
 clear hR1
 refine bsl (out := [_]) rfl Z6I Z1K rfl rfl rfl rfl rfl rfl (fun b19 => ?_)
 refine bsl (out := [_]) rfl Z1u zl3 rfl rfl rfl rfl rfl rfl (fun b20 => ?_)
 refine pur 2 rfl (Z0 (sqt 1 rfl ?_))
 refine Sy.heap (fun w h => St.intRows (l := [0]) (h.pull b20)) ?_
 refine Sy.heap (H' := (b19, cel 22 ((Z9 [⟨ax, cx, bgL b⟩]).flatten ++ [])) :: (b2, cel 84 (btl b (b.sl ab cb))) :: H) (fun w h => by
   have e : (Z9 [⟨ax, cx, bgL b⟩]).flatten ++ [] = [.slice ax b.bins.length cx] := by show [Value.slice ax (bgL b).length cx] = _; rw [Z2t]
   rw [e]; exact h) ?_
 refine Sy.heap (fun w h => St.inn0 h) ?_
 refine Sy.heap (fun w h => St.innCons (a := ax) (c := cx) (l0 := bgL b) (l := []) h) ?_
 refine Sy.heap (fun w h => St.blkRows (Z0Z [⟨ax, cx, bgL b⟩]) h) ?_
 refine pur 1 rfl (Z3 ?_)
 refine Zj (ι := {y : Nat × List PL × Option Addr × Nat × List Int × Option Addr × Nat // y.1 ≤ days ∧ Lvc b.dsk b.state y.1 (lls y.2.1) y.2.2.2.2.1 ∧ y.2.1.length ≤ 14641}) (fun y => ⟨[(2, .pointer (some ⟨b2, 0, none⟩)), (1, .int .i64 days), (5, .slice y.1.2.2.1 y.1.2.1.length y.1.2.2.2.1), (6, .slice y.1.2.2.2.2.2.1 y.1.2.2.2.2.1.length y.1.2.2.2.2.2.2), (7, .int .i64 y.1.1)], (b2, cel 84 (btl b (b.sl ab cb))) :: H, Z5 y.1.2.2.1 1 (Z9 y.1.2.1) :: Inn y.1.2.1 :: Z5 y.1.2.2.2.2.2.1 1 (Zm y.1.2.2.2.2.1) :: R⟩) (fun y => days + 1 - y.1.1) ⟨(0, [⟨ax, cx, bgL b⟩], some ⟨b19, 0, none⟩, 1, [0], some ⟨b20, 0, none⟩, 1), Nat.zero_le _, Lvc.start (Z2t b), by simp⟩ ?_ (fun y => ?_)
 exact Zr (fun w h => St.sub h)
 obtain ⟨⟨day, nl, an, cn, cs, ac, cc⟩, hday, hlv, hnl⟩ := y
 dsimp only at hday hlv hnl ⊢
 have hcl := hlv.len
 rw [Zo] at hcl
 refine Z0 (sqt 3 rfl (pur 3 rfl ?_))
 refine Z2 rfl ?_ ?_ <;> intro hc0 <;> try simp only [cS] at hc0
 refine Z1 (Z0 (Z3 (sqt 1 rfl (pur 1 rfl (sqt 1 rfl (pur 1 rfl (Z0 (sqt 1 rfl (pur 1 rfl (Z3 ?_))))))))))
 refine Zj (ι := (y : {y : Nat × List PL × List Int // y.1 ≤ nl.length ∧ Bc b.dsk.n b.dsk.gangs (laL b) (lls nl) cs y.1 0 (lls y.2.1) y.2.2}) × (OSl 22 1 (Z9 y.1.2.1) × OSl 3 1 (Zm y.1.2.2))) (fun y => ⟨[(2, .pointer (some ⟨b2, 0, none⟩)), (1, .int .i64 days), (5, .slice an nl.length cn), (6, .slice ac cs.length cc), (7, .int .i64 day), (8, y.2.1.fs), (9, y.2.2.fs), (10, .int .i64 y.1.1.1)], y.2.1.G ++ (y.2.2.G ++ (b2, cel 84 (btl b (b.sl ab cb))) :: H), Inn y.1.1.2.1 :: Z5 an 1 (Z9 nl) :: Inn nl :: Z5 ac 1 (Zm cs) :: R⟩) (fun y => nl.length - y.1.1.1) ⟨⟨(0, [], []), Nat.zero_le _, Bc.start⟩, (OSl.nil _ _, OSl.nil _ _)⟩ ?_ (fun y => ?_)
 exact Zr (fun w h => St.inn0 h)
 obtain ⟨⟨⟨i, q, S⟩, hi, hbc⟩, o, p⟩ := y
 dsimp only at hi hbc o p ⊢
 refine Z0 (sqt 4 rfl (pur 2 rfl (sp rfl (PE.lenSl Z0E rfl) rfl (pur 1 rfl ?_))))
 refine Z2 rfl ?_ ?_ <;> intro hc1 <;> try simp only [cS] at hc1
 obtain ⟨x, hx⟩ : ∃ x, nl[i]? = some x := ⟨_, List.getElem?_eq_getElem (by omega)⟩
 have hxm := List.mem_of_getElem? hx
 have hxl : x.l.length = b.bins.length := hlv.lv.len x.l (List.mem_map.2 ⟨x, hxm, rfl⟩)
 have hxs := hlv.lv.inS hdk hst (List.mem_map.2 ⟨x, hxm, rfl⟩)
 have hxn : ∀ k < b.bins.length, 0 ≤ na x.l k ∧ na x.l k ≤ 1000000 := fun k hk => by have := (b.dsk.inS_sml hdk hxs).at_ k (by omega); rwa [Z13] at this
 obtain ⟨ca, hca⟩ : ∃ ca, cs[i]? = some ca := ⟨_, List.getElem?_eq_getElem (by omega)⟩
 have hcab := hlv.bd hdk hca
 refine Zl (a := an) (sz := 1) (rows := Z9 nl) (ne0 (by rw [Zt]; omega)) (fun ba oa he => ?_)
 subst he
 refine Zl (a := ac) (sz := 1) (rows := Zm cs) (ne0 (by rw [Zd]; omega)) (fun bc oc he => ?_)
 subst he
 refine Sy.heap (fun w h => St.inn (x := x) h hxm) ?_
 refine Z1 (Z0 (Z3 (sqt 1 rfl (pur 1 rfl (Z3 ?_)))))
 refine Zj (ι := (y : {y : Nat × List PL × List Int // y.1 ≤ 2 ^ b.bins.length ∧ Bc b.dsk.n b.dsk.gangs (laL b) (lls nl) cs i y.1 (lls y.2.1) y.2.2}) × (OSl 22 1 (Z9 y.1.2.1) × OSl 3 1 (Zm y.1.2.2))) (fun y => ⟨[(2, .pointer (some ⟨b2, 0, none⟩)), (1, .int .i64 days), (5, .slice (some ⟨ba, oa, none⟩) nl.length cn), (6, .slice (some ⟨bc, oc, none⟩) cs.length cc), (7, .int .i64 day), (8, y.2.1.fs), (9, y.2.2.fs), (10, .int .i64 i), (11, .int .i64 y.1.1.1)], y.2.1.G ++ (y.2.2.G ++ (b2, cel 84 (btl b (b.sl ab cb))) :: H), Inn y.1.1.2.1 :: Z5 x.a 1 (Zm x.l) :: Z5 (some ⟨ba, oa, none⟩) 1 (Z9 nl) :: Inn nl :: Z5 (some ⟨bc, oc, none⟩) 1 (Zm cs) :: R⟩) (fun y => 2 ^ b.bins.length - y.1.1.1) ⟨⟨(0, q, S), Nat.zero_le _, hbc⟩, (o, p)⟩ ?_ (fun y => ?_)
 exact Zr (fun w h => h.facts SubF.sub)
 obtain ⟨⟨⟨u, q2, S2⟩, hu, hbc2⟩, o2, p2⟩ := y
 dsimp only at hu hbc2 o2 p2 ⊢
 have hfew := hbc2.bf.few hdk hst (Z1C b) hlv.lv
 rw [Zo] at hfew
 have hsl2 := hbc2.len
 rw [Zo] at hsl2
 refine Z0 (sqt 4 rfl (pur 1 rfl (spL rfl rfl (lhA (btl b (b.sl ab cb)) Z1n rfl rfl rfl) rfl ?_)))
 refine clV rfl ZeO rfl rfl (Z83 b ab cb hmn.2 _ _) ?_
 refine pur 1 rfl ?_
 refine Z2 rfl ?_ ?_ <;> intro hc2 <;> try simp only [cS] at hc2
 have hu16 : u < 16 := by omega
 have hu2 : u < 2 ^ b.dsk.n := by show u < 2 ^ b.bins.length; omega
 have h4 := Zbp u
 refine Z1 (Z0 (Z3 (Z0 ?_)))
 refine Zi [0, 0, 0, 6, 14, 0, 63, 127] (.ld 0 (tks 1 3 (.ld 4 (.tk 5 (.big 6 (.tk 7 .done)))))) ZH (by kernel_rfl) ?_
 refine ld rfl rfl (lhA (btl b (b.sl ab cb)) Z1n rfl rfl rfl) rfl (Zp 2 rfl (tk rfl (PE.indexAddr Z4l rfl rfl (by omega) (by omega)) rfl (ld rfl rfl (lf0 Z2g (Z14 hx) rfl) rfl (Zp 1 rfl ?_))))
 refine cl rfl ZeE rfl rfl (Z8d b ab cb hok x.l x.a x.c hxl hxn u hu16 _ _) ?_
 rintro _ _ R1 ⟨rfl, (⟨hnx, rfl, hR1⟩ | ⟨t, bo, c, hnx, rfl, hR1⟩)⟩ <;> obtain rfl := hR1.symm <;> clear hR1
 refine bgT (Zp 1 rfl (Z0 (Z0 ?_)))
 refine Zi [0, 1, 3, 7, 15, 7, 39, 127, 255] (tks 0 4 (.tk 5 (.ld 6 (.big 4 (.tk 7 (.tk 8 .done)))))) ZH (by kernel_rfl) ?_
 have hsk := hbc2.skip (Z0a hx) hca hu2 (Zf0 hnx)
 refine Zp 1 rfl (tk rfl (PE.eqlNil Z0n rfl rfl) rfl (Zp 3 rfl ?_))
 refine ldN rfl rfl rfl rfl rfl rfl rfl rfl ?_
 refine spN rfl rfl rfl rfl rfl rfl rfl rfl ?_
 refine bg (fun w hs => ⟨((fun _ _ => True.intro)) w hs, trivial⟩) ?_
 refine Zp 2 rfl ?_
 refine Zq rfl ?_
 refine Zb (Zf (ZB (sqr 3 rfl (pur 1 rfl (sp rfl (PE.add rfl rfl (by omega)) rfl (pur 1 rfl ?_))))))
 first
   | exact Ze ⟨⟨(u + 1, q2 ++ [⟨some ⟨bo, 0, none⟩, c, t⟩], S2 ++ [ca + ((Z04 4 u).length : Int)]), by dsimp only; omega, by rw [Z1v]; exact hadd⟩, (o69.cast (by rw [Z0t]; rfl), o73.cast (by simp [Zm]))⟩ (by dsimp only; omega) (fun w h => (St.innSnoc (a := some ⟨bo, 0, none⟩) (c := c) (l0 := t) (l := q2) ((h.del b72).del b68)).facts SubF.sub)
   | exact ZW ⟨⟨(u + 1, q2, S2.set k (min xv (ca + ((Z04 4 u).length : Int)))), by dsimp only; omega, hlow⟩, (o2, OSl.ofInts bs cap2 (S2.set k (min xv (ca + ((Z04 4 u).length : Int)))) jk (by rw [List.length_set]; omega) hmx2)⟩ (by dsimp only; omega) (by dsimp only [OSl.ofInts]; rw [List.length_set]; exact (by repeat' first | exact Sub.nil | apply Sub.cons | rfl | (simp [lk]; omega))) (fun w h => h.facts SubF.sub)
   | exact Ze ⟨⟨(u + 1, q2, S2), by dsimp only; omega, hsk⟩, (o2, p2)⟩ (by dsimp only; omega) (fun w h => h.facts SubF.sub)
 refine bgT (Zp 1 rfl (Z0 (Z0 ?_)))
 refine Zi [0, 1, 3, 7, 15, 7, 39, 127, 255] (tks 0 4 (.tk 5 (.ld 6 (.big 4 (.tk 7 (.tk 8 .done)))))) ZH (by kernel_rfl) ?_
 have htl : t.length = b.bins.length := Z33 hnx
 have hall : ∀ y ∈ q2, y.l.length = t.length := fun y hy => by rw [htl]; exact hbc2.bf.len y.l (List.mem_map.2 ⟨y, hy, rfl⟩)
 refine Zp 1 rfl (tk rfl (PE.eqlNil Z0n rfl rfl) rfl (Zp 2 rfl ?_))
 refine tkG rfl rfl rfl rfl (PE.fA Z2m rfl) rfl ?_
 refine ldG rfl rfl rfl rfl rfl (lh sc3 rfl rfl) rfl ?_
 refine Z0K rfl rfl rfl rfl Zc0 rfl rfl (Z65 u hu16 _ _) ?_
 refine bg (fun w hs => ⟨(lh sc3 rfl rfl) w hs, trivial⟩) ?_
 refine Zp 2 rfl ?_
 refine Z2 rfl ?_ ?_ <;> intro hc3 <;> try simp only [cS] at hc3
 have hsk := hbc2.skip (Z0a hx) hca hu2 (ZeK (show b.dsk.gangs < _ from hc3))
 refine Zb (Zf (ZB (sqr 3 rfl (pur 1 rfl (sp rfl (PE.add rfl rfl (by omega)) rfl (pur 1 rfl ?_))))))
 first
   | exact Ze ⟨⟨(u + 1, q2 ++ [⟨some ⟨bo, 0, none⟩, c, t⟩], S2 ++ [ca + ((Z04 4 u).length : Int)]), by dsimp only; omega, by rw [Z1v]; exact hadd⟩, (o69.cast (by rw [Z0t]; rfl), o73.cast (by simp [Zm]))⟩ (by dsimp only; omega) (fun w h => (St.innSnoc (a := some ⟨bo, 0, none⟩) (c := c) (l0 := t) (l := q2) ((h.del b72).del b68)).facts SubF.sub)
   | exact ZW ⟨⟨(u + 1, q2, S2.set k (min xv (ca + ((Z04 4 u).length : Int)))), by dsimp only; omega, hlow⟩, (o2, OSl.ofInts bs cap2 (S2.set k (min xv (ca + ((Z04 4 u).length : Int)))) jk (by rw [List.length_set]; omega) hmx2)⟩ (by dsimp only; omega) (by dsimp only [OSl.ofInts]; rw [List.length_set]; exact (by repeat' first | exact Sub.nil | apply Sub.cons | rfl | (simp [lk]; omega))) (fun w h => h.facts SubF.sub)
   | exact Ze ⟨⟨(u + 1, q2, S2), by dsimp only; omega, hsk⟩, (o2, p2)⟩ (by dsimp only; omega) (fun w h => h.facts SubF.sub)
 have hrs : rS b.dsk.n b.dsk.gangs (laL b) x.l u = some t := (Zb5 (show ¬ b.gangs < _ by omega)).trans hnx
 refine Z1 (Z0 ?_)
 refine Zi [0, 0, 3, 7, 0, 16, 63, 127] (tks 0 3 (.ld 3 (.tk 4 (.big 5 (.tk 6 (.tk 7 .done)))))) ZH (by kernel_rfl) ?_
 refine Zp 2 rfl (tk rfl (PE.indexAddr Z28 rfl rfl (by omega) (by omega)) rfl (ld rfl rfl (lf0 sc3 (Z0v hca) rfl) rfl (Zp 1 rfl ?_)))
 refine clV rfl Zc0 rfl rfl (Z65 u hu16 _ _) ?_
 refine bg (fun w hs => ⟨(lf0 sc3 (Z0v hca) rfl) w hs, trivial⟩) ?_
 refine tk rfl (PE.add rfl rfl (by omega)) rfl (Zp 1 rfl (sqt 4 rfl (pur 2 rfl ?_)))
 refine clV rfl Zfb rfl rfl (FnV.lendO o2 (fun v => [v, .slice (some ⟨bo, 0, none⟩) t.length c]) (fun a5 c5 B => by rw [Zt]; exact Z8O q2 a5 c5 (by omega) t (some ⟨bo, 0, none⟩) c (by omega) hall _ _)) ?_
 refine pur 1 rfl (sqt 2 rfl (pur 2 rfl ?_))
 refine Z2 rfl ?_ ?_ <;> intro hc4 <;> try simp only [cS] at hc4
 have hadd := hbc2.add (Z0a hx) hca hu2 hrs (plc_neg.1 hc4)
 refine sqr 10 rfl (pur 2 rfl ?_)
 refine bsl (out := [_]) rfl Z6I Z1K rfl rfl rfl rfl rfl rfl (fun b68 => ?_)
 refine apO (o2) rfl Z2A rfl rfl (Z0W (row := [.slice (some ⟨bo, 0, none⟩) t.length c]) rfl) rfl rfl ((by rw [Zt]; simp only [List.length_singleton]; omega)) rfl (fun o69 => ?_)
 refine pur 2 rfl ?_
 refine bsl (out := [_]) rfl Z1u zl3 rfl rfl rfl rfl rfl rfl (fun b72 => ?_)
 refine apO (p2) rfl Z7F rfl rfl (Z0W (row := [.int .i64 (ca + ((Z04 4 u).length : Int))]) rfl) rfl rfl ((by rw [Zd]; simp only [List.length_singleton]; omega)) rfl (fun o73 => ?_)
 refine pur 2 rfl (sqr 3 rfl (pur 1 rfl (sp rfl (PE.add rfl rfl (by omega)) rfl (pur 1 rfl ?_))))
 first
   | exact Ze ⟨⟨(u + 1, q2 ++ [⟨some ⟨bo, 0, none⟩, c, t⟩], S2 ++ [ca + ((Z04 4 u).length : Int)]), by dsimp only; omega, by rw [Z1v]; exact hadd⟩, (o69.cast (by rw [Z0t]; rfl), o73.cast (by simp [Zm]))⟩ (by dsimp only; omega) (fun w h => (St.innSnoc (a := some ⟨bo, 0, none⟩) (c := c) (l0 := t) (l := q2) ((h.del b72).del b68)).facts SubF.sub)
   | exact ZW ⟨⟨(u + 1, q2, S2.set k (min xv (ca + ((Z04 4 u).length : Int)))), by dsimp only; omega, hlow⟩, (o2, OSl.ofInts bs cap2 (S2.set k (min xv (ca + ((Z04 4 u).length : Int)))) jk (by rw [List.length_set]; omega) hmx2)⟩ (by dsimp only; omega) (by dsimp only [OSl.ofInts]; rw [List.length_set]; exact (by repeat' first | exact Sub.nil | apply Sub.cons | rfl | (simp [lk]; omega))) (fun w h => h.facts SubF.sub)
   | exact Ze ⟨⟨(u + 1, q2, S2), by dsimp only; omega, hsk⟩, (o2, p2)⟩ (by dsimp only; omega) (fun w h => h.facts SubF.sub)
 obtain ⟨k, hpk, hkL⟩ := Zcd (Int.not_lt.2 hc4)
 rw [hpk]
 have hkl := (List.getElem?_eq_some_iff.1 hkL).1
 rw [Zo] at hkl
 obtain ⟨xv, hxv⟩ : ∃ xv, S2[k]? = some xv := ⟨_, List.getElem?_eq_getElem (by omega)⟩
 have hlow := hbc2.low (Z0a hx) hca hu2 hrs hkL hxv
 obtain ⟨bs, cap2, jk, hfs2, hG2, hjk2, _, hmx2⟩ := p2.is.resolve_left (fun h => by have := congrArg List.length h.1; rw [Zd] at this; simp only [List.length_nil] at this; omega)
 rw [Zd] at hfs2 hjk2
 rw [show (Zm S2).flatten = ZI S2 from Z06 S2] at hG2
 rw [hfs2]
 refine Sy.heap (H' := o2.G ++ ((bs, cel 3 (ZI S2 ++ jk)) :: (b2, cel 84 (btl b (b.sl ab cb))) :: H)) (fun w h => by rw [hG2] at h; exact h) ?_
 refine sqr 10 rfl (pur 4 rfl (sp rfl (PE.indexAddr Z28 rfl rfl (by omega) (by omega)) rfl (spL rfl rfl (lh sc3 rfl (Z4v hxv (by show 0 + ((k : Nat) : Int).toNat * 1 = k; omega))) rfl (pur 1 rfl (sp rfl (PE.min rfl rfl) rfl (sp rfl (PE.indexAddr Z28 rfl rfl (by omega) (by omega)) rfl ?_))))))
 refine Z1b (l' := ZI (S2.set k (min xv (ca + ((Z04 4 u).length : Int)))) ++ jk) rfl rfl rfl cn3 rfl rfl rfl (Z9n (by omega) (by show 0 + ((k : Nat) : Int).toNat * 1 = k; omega)) (by rw [List.length_append, Z8]; show 0 + ((k : Nat) : Int).toNat * 1 + 1 ≤ _; omega) ?_
 refine sqr 3 rfl (pur 1 rfl (sp rfl (PE.add rfl rfl (by omega)) rfl (pur 1 rfl ?_)))
 first
   | exact Ze ⟨⟨(u + 1, q2 ++ [⟨some ⟨bo, 0, none⟩, c, t⟩], S2 ++ [ca + ((Z04 4 u).length : Int)]), by dsimp only; omega, by rw [Z1v]; exact hadd⟩, (o69.cast (by rw [Z0t]; rfl), o73.cast (by simp [Zm]))⟩ (by dsimp only; omega) (fun w h => (St.innSnoc (a := some ⟨bo, 0, none⟩) (c := c) (l0 := t) (l := q2) ((h.del b72).del b68)).facts SubF.sub)
   | exact ZW ⟨⟨(u + 1, q2, S2.set k (min xv (ca + ((Z04 4 u).length : Int)))), by dsimp only; omega, hlow⟩, (o2, OSl.ofInts bs cap2 (S2.set k (min xv (ca + ((Z04 4 u).length : Int)))) jk (by rw [List.length_set]; omega) hmx2)⟩ (by dsimp only; omega) (by dsimp only [OSl.ofInts]; rw [List.length_set]; exact (by repeat' first | exact Sub.nil | apply Sub.cons | rfl | (simp [lk]; omega))) (fun w h => h.facts SubF.sub)
   | exact Ze ⟨⟨(u + 1, q2, S2), by dsimp only; omega, hsk⟩, (o2, p2)⟩ (by dsimp only; omega) (fun w h => h.facts SubF.sub)
 obtain rfl : u = 2 ^ b.bins.length := by omega
 refine Zb (Zf (Zf (ZB (sqr 3 rfl (pur 1 rfl (sp rfl (PE.add rfl rfl (by omega)) rfl (pur 1 rfl ?_)))))))
 exact Zn ⟨⟨(i + 1, q2, S2), by dsimp only; omega, hbc2.next⟩, (o2, p2)⟩ (fun w h => h.facts SubF.sub)
 obtain rfl : i = nl.length := by omega
 have hfew := hbc.bf.few hdk hst (Z1C b) hlv.lv
 rw [Zo] at hfew
 have hlv2 := hlv.next hdk hst (Z1C b) (by rw [Zo]; exact hbc)
 obtain ⟨a5, c5, he, hf⟩ := o.freeze
 rw [he, Zt]
 refine Sy.heap (fun w h => hf h) ?_
 clear he hf
 obtain ⟨a6, c6, he, hf⟩ := p.freeze
 rw [he, Zd]
 refine Sy.heap (fun w h => hf h) ?_
 clear he hf
 refine Zb (Zf (Zf (ZB (sqr 4 rfl (pur 4 rfl (sqr 3 rfl (pur 1 rfl (sp rfl (PE.add rfl rfl (by omega)) rfl (pur 1 rfl ?_)))))))))
 exact Zn ⟨(day + 1, q, a5, c5, S, a6, c6), by dsimp only; omega, hlv2, hfew⟩ (fun w h => h.facts SubF.sub)
 obtain rfl : day = days := by omega
 refine Zb (Zf (Zf (ZB (sqt 1 rfl (pur 1 rfl (Z0 (sqt 1 rfl (pur 1 rfl (Z3 ?_)))))))))
 refine Zj (ι := {y : Nat × Int // y.1 ≤ cs.length ∧ MinI cs y.1 y.2}) (fun y => ⟨[(2, .pointer (some ⟨b2, 0, none⟩)), (1, .int .i64 day), (6, .slice ac cs.length cc), (15, .int .i64 y.1.2), (16, .int .i64 y.1.1)], (b2, cel 84 (btl b (b.sl ab cb))) :: H, Z5 ac 1 (Zm cs) :: R⟩) (fun y => cs.length - y.1.1) ⟨(0, -1), Nat.zero_le _, .inl ⟨rfl, rfl⟩⟩ ?_ (fun y => ?_)
 exact Zr (fun w h => St.sub h)
 obtain ⟨⟨i, m⟩, hi, hmi⟩ := y
 dsimp only at hi hmi ⊢
 refine Z0 (sqt 4 rfl (pur 2 rfl (sp rfl (PE.lenSl Z0n rfl) rfl (pur 1 rfl ?_))))
 refine Z2 rfl ?_ ?_ <;> intro hc5 <;> try simp only [cS] at hc5
 obtain ⟨cx2, hcx2⟩ : ∃ c, cs[i]? = some c := ⟨_, List.getElem?_eq_getElem (by omega)⟩
 have hcb := hlv.bd hdk hcx2
 refine Zl (a := ac) (sz := 1) (rows := Zm cs) (ne0 (by rw [Zd]; omega)) (fun bc oc he => ?_)
 subst he
 refine Z1 (Z0 (Z3 (sqt 10 rfl (pur 3 rfl ?_))))
 refine Zh 93 rfl ?_ ?_ <;> intro g93
 try simp only [cS] at g93
 refine pur 7 rfl ?_
 refine Zq rfl ?_
 refine sqr 5 rfl (pur 2 rfl (sp rfl (PE.indexAddr Z28 rfl rfl (by omega) (by omega)) rfl (spL rfl rfl (lf0 sc3 (Z0v hcx2) rfl) rfl (pur 1 rfl (sqr 3 rfl (pur 1 rfl (sp rfl (PE.add rfl rfl (by omega)) rfl (pur 1 rfl ?_))))))))
 first | exact Ze ⟨(i + 1, cx2), by dsimp only; omega, hmt⟩ (by dsimp only; omega) idH | exact Ze ⟨(i + 1, m), by dsimp only; omega, hmt⟩ (by dsimp only; omega) idH | exact Ze ⟨(i + 1, cx2), by dsimp only; omega, hmi.take hcx2 (by omega) (.inl (by omega))⟩ (by dsimp only; omega) idH
 try simp only [cS] at g93
 refine pur 2 rfl ?_
 refine spG rfl rfl rfl rfl (PE.indexAddr Z28 rfl rfl (by omega) (by omega)) rfl ?_
 refine Z0o rfl rfl rfl rfl rfl (lf0 sc3 (Z0v hcx2) rfl) rfl (pur 3 rfl ?_)
 refine Z2 rfl ?_ ?_ <;> intro hc6 <;> try simp only [cS] at hc6
 have hmt := hmi.take hcx2 (by omega) (.inr hc6)
 refine sqr 5 rfl (pur 2 rfl (sp rfl (PE.indexAddr Z28 rfl rfl (by omega) (by omega)) rfl (spL rfl rfl (lf0 sc3 (Z0v hcx2) rfl) rfl (pur 1 rfl (sqr 3 rfl (pur 1 rfl (sp rfl (PE.add rfl rfl (by omega)) rfl (pur 1 rfl ?_))))))))
 first | exact Ze ⟨(i + 1, cx2), by dsimp only; omega, hmt⟩ (by dsimp only; omega) idH | exact Ze ⟨(i + 1, m), by dsimp only; omega, hmt⟩ (by dsimp only; omega) idH | exact Ze ⟨(i + 1, cx2), by dsimp only; omega, hmi.take hcx2 (by omega) (.inl (by omega))⟩ (by dsimp only; omega) idH
 have hmt := hmi.keep hcx2 (by omega) (Int.not_lt.2 hc6)
 refine Z1 (sqr 3 rfl (pur 1 rfl (sp rfl (PE.add rfl rfl (by omega)) rfl (pur 1 rfl ?_))))
 first | exact Ze ⟨(i + 1, cx2), by dsimp only; omega, hmt⟩ (by dsimp only; omega) idH | exact Ze ⟨(i + 1, m), by dsimp only; omega, hmt⟩ (by dsimp only; omega) idH | exact Ze ⟨(i + 1, cx2), by dsimp only; omega, hmi.take hcx2 (by omega) (.inl (by omega))⟩ (by dsimp only; omega) idH
 obtain rfl : i = cs.length := by omega
 have hrt := MinI.done hok hlv hmi
 refine Zb (Zf (Zf (ZB (sqt 2 rfl (pur 2 rfl (Z4 ?_))))))
 exact rtA rfl rfl rfl ⟨⟨_, hrt, rfl⟩, rfl, rfl⟩ (fun w h => (h.del b2).facts (fun g hg => by simp [hg]))
theorem ZhD : cal Tryz.prog 7 = true := by kernel_rfl
theorem Zhx : cal Tryz.prog 71 = true := by kernel_rfl
structure Les (d d' : Dsk) : Prop where
  n : d.n = d'.n
  g : d.gangs ≤ d'.gangs
  lasts : ∀ k < d.n, na d.lasts k ≤ na d'.lasts k
theorem Les.next {d d' : Dsk} (h : Les d d') (hd : d.ok) (hd' : d'.ok) {s s' t : HSt} (hs : d.inS s) (hs' : d'.inS s') (hle : ∀ k < d.n, na s k ≤ na s' k) {l : List Nat} (hl : ∀ k ∈ l, k < d.n) (e : d.next s l = some t) : ∃ t', d'.next s' l = some t' ∧ ∀ k < d.n, na t k ≤ na t' k := by
  have hn := h.n
  obtain ⟨_, h2⟩ := d.next_at hd.n.2 hs.len hl e
  have hl' : ∀ k ∈ l, k < d'.n := fun k hk => by have := hl k hk; omega
  have hm : ∀ k < d.n, d.mid s l k ≤ d'.mid s' l k := fun k hk => by
    have h4 := hle k hk
    have h5 := h.lasts k hk
    unfold Dsk.mid
    by_cases h3 : k ∈ l
    · rw [if_pos h3, if_pos h3]; omega
    · rw [if_neg h3, if_neg h3]; exact h4
  obtain ⟨t', ht'⟩ := d'.next_some hd'.n.2 hs'.len hl' (fun k hk => by
    have hk0 : k < d.n := by omega
    have := hm k hk0; have := (h2 k).1 hk0; have := d.inS_mid hd hs l hk0; have := d'.inS_mid hd' hs' l hk; have := (hd.ever k hk0).2.1; have := (hd'.ever k hk).2.1; omega)
  refine ⟨t', ht', fun k hk => ?_⟩
  have hk' : k < d'.n := by omega
  obtain ⟨_, h3⟩ := d'.next_at hd'.n.2 hs'.len hl' ht'
  have a1 := (h2 k).2; have a2 := (h3 k).2
  have := hm k hk
  have b1 := d.inS_mid hd hs l hk; have b2 := d'.inS_mid hd' hs' l hk'
  have := (hd.ever k hk).2.1; have := (hd'.ever k hk').2.1
  rw [a1, a2]
  split <;> split <;> omega
theorem Les.trs {d d' : Dsk} (h : Les d d') {l : List Nat} (hl : l ∈ d.trs false) : l ∈ d'.trs false := by
  obtain ⟨u, hu, rfl, h1, _⟩ := d.mem_trs.1 hl
  have hn := h.n; have hg := h.g
  refine d'.mem_trs.2 ⟨u, by rw [← hn]; exact hu, by rw [← hn], ?_, fun h => by cases h⟩
  unfold Dsk.g at h1 ⊢
  omega
theorem Les.pth {d d' : Dsk} (h : Les d d') (hd : d.ok) (hd' : d'.ok) {s s' : HSt} (hs : d.inS s) (hs' : d'.inS s') (hle : ∀ k < d.n, na s k ≤ na s' k) : ∀ {n : Nat} {t : HSt} {c : Nat}, d.pth n s t c → ∃ t', d'.pth n s' t' c ∧ ∀ k < d.n, na t k ≤ na t' k
  | 0, t, c, hp => by obtain ⟨rfl, rfl⟩ := hp; exact ⟨s', ⟨rfl, rfl⟩, hle⟩
  | n + 1, t, c, hp => by
    obtain ⟨u, a, l, h1, h2, h3, rfl⟩ := hp
    obtain ⟨u', i1, i2⟩ := Les.pth h hd hd' hs hs' hle h1
    obtain ⟨t', j1, j2⟩ := h.next hd hd' (d.pth_inS hd hs h1) (d'.pth_inS hd' hs' i1) i2 (d.trs_lt h2) h3
    exact ⟨t', ⟨u', a, l, i1, h.trs h2, j1, rfl⟩, j2⟩
theorem Z4w {d : Dsk} (hd : d.ok) {s : HSt} (hs : d.inS s) {v : Int} (h : Kpt d s v) (n : Nat) : (∃ t c, d.pth n s t c) ↔ v = 1000000 ∨ (n : Int) ≤ v := by
  rw [← d.alive_iff hd hs]
  rcases h with ⟨rfl, h1⟩ | ⟨j, hj, rfl, h1, h2⟩
  · exact ⟨fun _ => .inl rfl, fun _ => h1 n⟩
  · constructor
    · intro h3
      right
      rcases Nat.lt_or_ge j n with h4 | h4
      · exact absurd (d.alive_le (by omega) h3) h2
      · omega
    · rintro (h3 | h3)
      · omega
      · exact d.alive_le (by omega) h1
theorem Z2i {d : Dsk} {s : HSt} {v : Int} (h : Kpt d s v) : 0 ≤ v ∧ (v = 1000000 ∨ v ≤ 14641) := by
  rcases h with ⟨rfl, _⟩ | ⟨j, hj, rfl, _⟩ <;> omega
theorem Zgr {d d' : Dsk} (hd : d.ok) (hd' : d'.ok) {s s' : HSt} (hs : d.inS s) (hs' : d'.inS s') (hp : ∀ n, (∃ t c, d.pth n s t c) → ∃ t c, d'.pth n s' t c) {v v' : Int} (h : Kpt d s v) (h' : Kpt d' s' v') : v ≤ v' ∧ (v = 1000000 → v' = 1000000) := by
  have n1 := Z2i h; have n2 := Z2i h'
  have key : ∀ n : Nat, (v = 1000000 ∨ (n : Int) ≤ v) → (v' = 1000000 ∨ (n : Int) ≤ v') := fun n hn => (Z4w hd' hs' h' n).1 (hp n ((Z4w hd hs h n).2 hn))
  rcases Int.lt_or_le v' 1000000 with h1 | h1
  · have h2 := key (v'.toNat + 1)
    have h3 := key v.toNat
    omega
  · omega
theorem Les.kpt {d d' : Dsk} (h : Les d d') (hd : d.ok) (hd' : d'.ok) {s s' : HSt} (hs : d.inS s) (hs' : d'.inS s') (hle : ∀ k < d.n, na s k ≤ na s' k) {v v' : Int} (hv : Kpt d s v) (hv' : Kpt d' s' v') : v ≤ v' ∧ (v = 1000000 → v' = 1000000) :=
  Zgr hd hd' hs hs' (fun _ ⟨_, c, hp⟩ => by obtain ⟨t', i, _⟩ := h.pth hd hd' hs hs' hle hp; exact ⟨t', c, i⟩) hv hv'
structure PlnOk (b : Barn) (n c : Nat) (p : List (List Nat)) : Prop where
  few : FewC b.dsk b.state n c
  len : p.length = n
  trs : ∀ l ∈ p, l ∈ b.dsk.trs false
  run : ∃ t, b.dsk.run b.state p = some t
  sum : Z2W p = c
theorem Z3Q {b : Barn} (hok : b.ok) (hck : b.check = 0) {n : Nat} (hn : n ≤ 20) : (Z09 b n = 6 ∧ Z0l b n = 0 ∧ ¬ ∃ t c, b.dsk.pth n b.state t c) ∨ ∃ (c : Nat) (p : List (List Nat)), Z09 b n = 0 ∧ Z0l b n = c ∧ Z3B b n = p.map il ∧ PlnOk b n c p := by
  have hin : inB (n : Int) 0 20 = true := by simp [inB]; omega
  have he : Z09 b n = bif (Z1a b.dsk (Z0N b.dsk b.state n) b.dsk.nst).isNone then 6 else 0 := by
    unfold Z09; rw [decide_eq_true hck, hin, Int.toNat_natCast]; rfl
  rcases ZcU (b.dsk_ok hok) (b.state_inS hok) n with ⟨h1, h2⟩ | ⟨s, c, h1, h2, h3, h4, h5, h6⟩
  · have e6 : Z09 b n = 6 := by rw [he, h1]; rfl
    exact .inl ⟨e6, by unfold Z0l; rw [e6]; rfl, h2⟩
  · have e0 : Z09 b n = 0 := by rw [he, h1]; rfl
    refine .inr ⟨c, Z1Q b.dsk b.state n s, e0, by unfold Z0l; rw [e0, Int.toNat_natCast, h1]; rfl, by unfold Z3B; rw [Int.toNat_natCast, h1]; rfl, h2, h3, h4, ⟨s, h5⟩, h6⟩
theorem Z7B {b : Barn} {days : Int} (h : b.check ≠ 0) : Z09 b days = b.check ∧ Z0l b days = 0 := by
  have e : Z09 b days = b.check := by unfold Z09; rw [decide_eq_false h]; rfl
  refine ⟨e, ?_⟩
  unfold Z0l; rw [e, decide_eq_false h]; rfl
theorem Z4F {b : Barn} {days : Int} (h : b.check = 0) (hd : days < 0 ∨ 20 < days) : Z09 b days = 3 ∧ Z0l b days = 0 := by
  have e : Z09 b days = 3 := by unfold Z09; rw [decide_eq_true h, show inB days 0 20 = false by simp [inB]; omega]; rfl
  refine ⟨e, ?_⟩
  unfold Z0l; rw [e]; rfl
theorem Z5o {b : Barn} {days : Int} (h : Z09 b days = 0) : b.check = 0 ∧ 0 ≤ days ∧ days ≤ 20 := by
  by_cases h1 : b.check = 0
  · refine ⟨h1, ?_⟩
    apply Classical.byContradiction
    intro hn
    rw [(Z4F h1 (days := days) (by omega)).1] at h
    exact absurd h (by decide)
  · rw [(Z7B h1).1] at h; exact absurd h h1
theorem Z9j {b : Barn} (hok : b.ok) (hck : b.check = 0) {n : Nat} (hn : n ≤ 20) {m : Int} (h : ZdO b n m) : (m < 0 ∧ Z09 b n = 6 ∧ Z0l b n = 0) ∨ (0 ≤ m ∧ Z09 b n = 0 ∧ Z0l b n = m) := by
  rcases Z3Q hok hck hn with ⟨h1, h2, h3⟩ | ⟨c, p, h1, h2, h3, h4⟩
  · rcases h with ⟨rfl, _⟩ | ⟨c, rfl, h5⟩
    · exact .inl ⟨by decide, h1, h2⟩
    · obtain ⟨t, ht⟩ := h5.is; exact absurd ⟨t, c, ht⟩ h3
  · rcases h with ⟨rfl, h5⟩ | ⟨c', rfl, h5⟩
    · obtain ⟨t, ht⟩ := h4.few.is; exact absurd ⟨t, c, ht⟩ h5
    · rw [h5.unique h4.few]; exact .inr ⟨by omega, h1, h2⟩
def Z7v (p : List (List Int)) : Nat := (p.map List.length).sum
theorem ZdW (p : List (List Nat)) : Z7v (p.map il) = Z2W p := by
  unfold Z7v Z2W
  rw [List.map_map]
  congr 1
  exact List.map_congr_left fun l _ => Z5A l
theorem Z8U (p q : List (List Int)) : Z7v (p ++ q) = Z7v p + Z7v q := by unfold Z7v; rw [List.map_append, List.sum_append]
theorem Zaz {p : List (List Int)} {i : Nat} {l : List Int} (h : p[i]? = some l) : Z7v (p.take (i + 1)) = Z7v (p.take i) + l.length := by
  rw [ZK h, Z8U]; simp [Z7v]
theorem Zbv (p : List (List Int)) (i : Nat) : Z7v (p.take i) ≤ Z7v p := by
  have := Z8U (p.take i) (p.drop i)
  rw [List.take_append_drop] at this
  omega
theorem ZcS {p : List (List Int)} (h : p.length ≤ 24) (hl : ∀ l ∈ p, l.length ≤ 8) : Z4f p = false := by
  unfold Z4f
  rw [decide_eq_false (by omega), Bool.false_or, List.any_eq_false]
  intro l hm
  have := hl l hm
  simp; omega
structure PlnLaw (b : Barn) (n : Nat) (c : Int) (p : List (List Int)) : Prop where
  len : p.length = n
  long : Z4f p = false
  err : ZX b.bins.length b.gangs p = 0
  sum : (Z7v p : Int) = c
  burn : Z5b b p = (0, 0, false)
  few : 0 ≤ c ∧ c ≤ 80
theorem PlnOk.law {b : Barn} (hok : b.ok) {n c : Nat} {p : List (List Nat)} (hn : n ≤ 20) (h : PlnOk b n c p) : PlnLaw b n c (p.map il) := by
  have hlt : ∀ l ∈ p, ∀ k ∈ l, k < b.bins.length := fun l hl => b.dsk.trs_lt (h.trs l hl)
  refine ⟨by rw [List.length_map]; exact h.len, ZcS (by rw [List.length_map, h.len]; omega) (fun l hl => ?_), Z37 (d := b.dsk) (by rw [h.len]; omega) h.trs, by rw [ZdW, h.sum], ?_, ?_⟩
  · obtain ⟨m, hm, rfl⟩ := List.mem_map.1 hl
    have := b.dsk.trs_four (b.dsk_ok hok) (h.trs m hm)
    rw [Z5A]; omega
  · obtain ⟨t, ht⟩ := h.run
    rcases Barn.run_burns hok p b.warms 0 (Cool.start hok) hlt with ⟨ws, h1, _⟩ | ⟨x, ws, _, h4⟩
    · exact Z64 (by rw [h1])
    · rw [Barn.stw_warms hok, ht] at h4; cases h4
  · obtain ⟨t, ht⟩ := h.few.is
    have := b.dsk.pth_le (b.dsk_ok hok) ht
    omega
theorem Zd4 {b : Barn} {days : Int} (hok : b.ok) (h : Z09 b days = 0) : PlnLaw b days.toNat (Z0l b days) (Z3B b days) := by
  obtain ⟨hck, h0, h1⟩ := Z5o h
  obtain ⟨n, rfl⟩ : ∃ n : Nat, days = n := ⟨days.toNat, by omega⟩
  rw [Int.toNat_natCast]
  rcases Z3Q hok hck (n := n) (by omega) with ⟨h2, _⟩ | ⟨c, p, _, h3, h4, h5⟩
  · rw [h] at h2; exact absurd h2 (by decide)
  · rw [h3, h4]; exact h5.law hok (by omega)
theorem Z7e (b : Barn) (ab : Option Addr) (cb : Nat) (days : Int) (hl9 : b.bins.length ≤ 4398046511104) (hr : b.rise.length = 6) (H : Zg) (R : Z6) [hB : MemRows ab 4 (Z7 b.bins) R] :
    Fn Tryz.prog 22 [b.v (b.sl ab cb), .int .i64 days] H R (fun v H' R' => v = .bool true ∧ H' = H ∧ R' = R) := by
 have hl : b.bins.length ≤ 9223372036854775807 := by omega
 refine Zy Tryz.func22 rfl Tryz.ntmps22 rfl ?_
 refine sqt 2 rfl (bx rfl rfl rfl (fun b2 => pur 1 rfl (Z0 (sqt 2 rfl (spL rfl rfl (lhA (btl b (b.sl ab cb)) ZD rfl rfl rfl) rfl ?_)))))
 refine clV rfl Zcu rfl rfl (Z98 b ab cb 80 hl9 hr _ _) ?_
 refine Z2 rfl ?_ ?_ <;> intro hc0
 refine sqt 2 rfl ?_
 refine clV rfl Z1d rfl rfl (Z02 _ _) ?_
 refine pur 1 rfl (Z4 ?_)
 exact rtA rfl rfl rfl ⟨rfl, rfl, rfl⟩ (fun w h => by first | exact (((h.del b6).del b5).del b2).facts (fun g hg => by simp [hg]) | exact h.del b2)
 have h8 : ¬ 8 < b.bins.length := by unfold Z5W at hc0; rw [Bool.or_eq_false_iff] at hc0; simpa using hc0.1
 refine Z1 (Z0 ?_)
 refine Z3F [0, 1, 0, 7, 0, 0, 63, 127] [0, 1, 2, 3, 4, 5, 6, 7] ZH (by kernel_rfl) rfl (fun s L H1 R1 => ∃ (a1 : Option Addr) (c1 : Nat) (a2 : Option Addr) (c2 : Nat) (b5 : Nat) (x5 : List Value) (b6 : Nat) (x6 : List Value), Sub [(1, .int .i64 days), (2, .pointer (some ⟨b2, 0, none⟩))] L ∧ (∀ f ∈ (R : Z6), f ∈ R1) ∧ (s 0 = true → lk L 21 = some (b.v (b.sl ab cb))) ∧ (s 1 = true → lk L 22 = some (b.v (b.sl a1 c1)) ∧ (Z5 a1 4 (Z7 b.bins)) ∈ R1) ∧ (s 2 = true → lk L 23 = some (b.v (b.sl ab cb))) ∧ (s 3 = true → lk L 24 = some (b.v (b.sl a2 c2)) ∧ (Z5 a2 4 (Z7 b.bins)) ∈ R1) ∧ (s 4 = true → lk L 5 = some (.pointer (some ⟨b5, 0, none⟩)) ∧ (s 6 = false → x5 = [.int .i64 0, .int .i64 0, .int .i64 0, .int .i64 0, .int .i64 0, .int .i64 0, .int .i64 0, .int .i64 0, .slice none 0 0])) ∧ (s 5 = true → lk L 6 = some (.pointer (some ⟨b6, 0, none⟩)) ∧ (s 7 = false → x6 = [.int .i64 0, .int .i64 0, .int .i64 0, .int .i64 0, .int .i64 0, .int .i64 0, .int .i64 0, .int .i64 0, .slice none 0 0])) ∧ (s 6 = true → x5 = btl b (b.sl a1 c1)) ∧ (s 7 = true → x6 = btl b (b.sl a2 c2)) ∧ ∀ w, St H1 R1 w → St ((bif s 5 then [(b6, cel 84 x6)] else []) ++ ((bif s 4 then [(b5, cel 27 x5)] else []) ++ ((b2, cel 27 (btl b (b.sl ab cb))) :: H))) R1 w) ?_ ?_ ?_
 exact ⟨none, 0, none, 0, 0, [], 0, [], (by repeat' first | exact Sub.nil | apply Sub.cons | rfl | (simp [lk]; omega)), fun _ hf => hf, ff, ff, ff, ff, ff, ff, ff, ff, fun w h => h⟩
 refine ⟨?_, ?_, ?_, ?_, ?_, ?_, ?_, ?_, trivial⟩
 intro s Lz Hz Rz hdn hs hpre hI K hK
 obtain ⟨a1, c1, a2, c2, b5, x5, b6, x6, hL0, hR0, q0, q1, q2, q3, q4, q5, q6, q7, hH⟩ := hI
 refine Sy.heap hH ?_
 refine spL rfl (Sub.lk hL0 _ _ rfl) ((lhA (btl b (b.sl ab cb)) ZD rfl rfl rfl)) rfl ?_
 exact hK _ _ _ ⟨a1, c1, a2, c2, b5, x5, b6, x6, Zw rfl hL0, hR0, fun _ => ZJ, lm2 q1, lm1 q2, lm2 q3, lm2 q4, lm2 q5, q6, q7, fun w h => h⟩
 intro s Lz Hz Rz hdn hs hpre hI K hK
 obtain ⟨a1, c1, a2, c2, b5, x5, b6, x6, hL0, hR0, q0, q1, q2, q3, q4, q5, q6, q7, hH⟩ := hI
 have h0 : s 0 = true := hpre 0 rfl
 refine Sy.heap hH ?_
 haveI m0 : MemRows ab 4 (Z7 b.bins) Rz := ⟨hR0 _ (inferInstance : MemRows ab 4 (Z7 b.bins) (R)).mem⟩
 refine cl rfl Z6T rfl (by simp only [evs, show ev Lz (.tmp 21) = _ from (q0 h0)]) (Z5H b ab cb (by omega) _ _) ?_
 rintro _ _ R1 ⟨a1, c1, rfl, rfl, hR1⟩
 obtain rfl := hR1.symm
 clear hR1
 exact hK _ _ _ ⟨a1, c1, a2, c2, b5, x5, b6, x6, Zw rfl hL0, Z0j (hR0), fun h => Zc rfl (q0 h), fun _ => ⟨ZJ, (by simp)⟩, fun h => Zc rfl (q2 h), fun h => ⟨Zc rfl (q3 h).1, List.mem_cons_of_mem _ ((q3 h).2)⟩, fun h => ⟨Zc rfl (q4 h).1, (q4 h).2⟩, fun h => ⟨Zc rfl (q5 h).1, (q5 h).2⟩, nof hdn hs 6, q7, fun w h => h⟩
 intro s Lz Hz Rz hdn hs hpre hI K hK
 obtain ⟨a1, c1, a2, c2, b5, x5, b6, x6, hL0, hR0, q0, q1, q2, q3, q4, q5, q6, q7, hH⟩ := hI
 refine Sy.heap hH ?_
 refine spL rfl (Sub.lk hL0 _ _ rfl) ((lhA (btl b (b.sl ab cb)) ZD rfl rfl rfl)) rfl ?_
 exact hK _ _ _ ⟨a1, c1, a2, c2, b5, x5, b6, x6, Zw rfl hL0, hR0, lm1 q0, lm2 q1, fun _ => ZJ, lm2 q3, lm2 q4, lm2 q5, q6, q7, fun w h => h⟩
 intro s Lz Hz Rz hdn hs hpre hI K hK
 obtain ⟨a1, c1, a2, c2, b5, x5, b6, x6, hL0, hR0, q0, q1, q2, q3, q4, q5, q6, q7, hH⟩ := hI
 obtain ⟨h0, h1, h2⟩ : s 0 = true ∧ s 1 = true ∧ s 2 = true := ⟨hpre 0 rfl, hpre 1 rfl, hpre 2 rfl⟩
 refine Sy.heap hH ?_
 haveI m0 : MemRows ab 4 (Z7 b.bins) Rz := ⟨hR0 _ (inferInstance : MemRows ab 4 (Z7 b.bins) (R)).mem⟩
 refine cl rfl Z8h rfl (by simp only [evs, show ev Lz (.tmp 23) = _ from (q2 h2)]) (Z2c b ab cb (by omega) _ _) ?_
 rintro _ _ R1 ⟨a2, c2, rfl, rfl, hR1⟩
 obtain rfl := hR1.symm
 clear hR1
 exact hK _ _ _ ⟨a1, c1, a2, c2, b5, x5, b6, x6, Zw rfl hL0, Z0j (hR0), fun h => Zc rfl (q0 h), fun h => ⟨Zc rfl (q1 h).1, List.mem_cons_of_mem _ ((q1 h).2)⟩, fun h => Zc rfl (q2 h), fun _ => ⟨ZJ, (by simp)⟩, fun h => ⟨Zc rfl (q4 h).1, (q4 h).2⟩, fun h => ⟨Zc rfl (q5 h).1, (q5 h).2⟩, q6, nof hdn hs 7, fun w h => h⟩
 intro s Lz Hz Rz hdn hs hpre hI K hK
 obtain ⟨a1, c1, a2, c2, b5, x5, b6, x6, hL0, hR0, q0, q1, q2, q3, q4, q5, q6, q7, hH⟩ := hI
 refine Sy.heap hH ?_
 refine alc rfl Z0w rfl (fun b5 => ?_)
 exact hK _ _ _ ⟨a1, c1, a2, c2, b5, [.int .i64 0, .int .i64 0, .int .i64 0, .int .i64 0, .int .i64 0, .int .i64 0, .int .i64 0, .int .i64 0, .slice none 0 0], b6, x6, Zw rfl hL0, hR0, lm1 q0, lm2 q1, lm1 q2, lm2 q3, fun _ => ⟨ZJ, fun _ => rfl⟩, lm2 q5, nof hdn hs 6, q7, fun w h => by rw [hs] at h; exact h.perm (List.perm_middle.symm.trans (List.Perm.append_left _ (.refl _)))⟩
 intro s Lz Hz Rz hdn hs hpre hI K hK
 obtain ⟨a1, c1, a2, c2, b5, x5, b6, x6, hL0, hR0, q0, q1, q2, q3, q4, q5, q6, q7, hH⟩ := hI
 refine Sy.heap hH ?_
 refine alc rfl ZbL rfl (fun b6 => ?_)
 exact hK _ _ _ ⟨a1, c1, a2, c2, b5, x5, b6, [.int .i64 0, .int .i64 0, .int .i64 0, .int .i64 0, .int .i64 0, .int .i64 0, .int .i64 0, .int .i64 0, .slice none 0 0], Zw rfl hL0, hR0, lm1 q0, lm2 q1, lm1 q2, lm2 q3, lm2 q4, fun _ => ⟨ZJ, fun _ => rfl⟩, q6, nof hdn hs 7, fun w h => by rw [hs] at h; exact h.perm (.refl _)⟩
 intro s Lz Hz Rz hdn hs hpre hI K hK
 obtain ⟨a1, c1, a2, c2, b5, x5, b6, x6, hL0, hR0, q0, q1, q2, q3, q4, q5, q6, q7, hH⟩ := hI
 obtain ⟨h0, h1, h2, h3, h4, h5⟩ : s 0 = true ∧ s 1 = true ∧ s 2 = true ∧ s 3 = true ∧ s 4 = true ∧ s 5 = true := ⟨hpre 0 rfl, hpre 1 rfl, hpre 2 rfl, hpre 3 rfl, hpre 4 rfl, hpre 5 rfl⟩
 refine Sy.heap hH ?_
 obtain rfl := (q4 h4).2 hs
 refine Sy.heap (H' := (bif s 5 then [(b6, cel 84 x6)] else []) ++ ((b5, cel 27 [.int .i64 0, .int .i64 0, .int .i64 0, .int .i64 0, .int .i64 0, .int .i64 0, .int .i64 0, .int .i64 0, .slice none 0 0]) :: ((b2, cel 27 (btl b (b.sl ab cb))) :: H))) (fun w h => by rw [h4] at h; exact h) ?_
 refine Z1b (l' := btl b (b.sl a1 c1)) rfl (q4 h4).1 (q1 h1).1 Z03 rfl rfl rfl rfl (Nat.le_refl _) ?_
 exact hK _ _ _ ⟨a1, c1, a2, c2, b5, btl b (b.sl a1 c1), b6, x6, hL0, hR0, q0, q1, q2, q3, fun h => ⟨(q4 h).1, fun h => by cases (show true = false from h)⟩, q5, fun _ => rfl, q7, fun w h => by show St ((bif s 5 then [(b6, cel 84 x6)] else []) ++ ((bif s 4 then [(b5, cel 27 (btl b (b.sl a1 c1)))] else []) ++ ((b2, cel 27 (btl b (b.sl ab cb))) :: H))) Rz w; rw [h4]; exact h⟩
 intro s Lz Hz Rz hdn hs hpre hI K hK
 obtain ⟨a1, c1, a2, c2, b5, x5, b6, x6, hL0, hR0, q0, q1, q2, q3, q4, q5, q6, q7, hH⟩ := hI
 obtain ⟨h0, h1, h2, h3, h4, h5, h6⟩ : s 0 = true ∧ s 1 = true ∧ s 2 = true ∧ s 3 = true ∧ s 4 = true ∧ s 5 = true ∧ s 6 = true := ⟨hpre 0 rfl, hpre 1 rfl, hpre 2 rfl, hpre 3 rfl, hpre 4 rfl, hpre 5 rfl, hpre 6 rfl⟩
 refine Sy.heap hH ?_
 obtain rfl := (q5 h5).2 hs
 refine Sy.heap (H' := (b6, cel 84 [.int .i64 0, .int .i64 0, .int .i64 0, .int .i64 0, .int .i64 0, .int .i64 0, .int .i64 0, .int .i64 0, .slice none 0 0]) :: ((bif s 4 then [(b5, cel 27 x5)] else []) ++ ((b2, cel 27 (btl b (b.sl ab cb))) :: H))) (fun w h => by rw [h5] at h; exact h) ?_
 refine Z1b (l' := btl b (b.sl a2 c2)) rfl (q5 h5).1 (q3 h3).1 Zd1 rfl rfl rfl rfl (Nat.le_refl _) ?_
 exact hK _ _ _ ⟨a1, c1, a2, c2, b5, x5, b6, btl b (b.sl a2 c2), hL0, hR0, q0, q1, q2, q3, q4, fun h => ⟨(q5 h).1, fun h => by cases (show true = false from h)⟩, q6, fun _ => rfl, fun w h => by show St ((bif s 5 then [(b6, cel 84 (btl b (b.sl a2 c2)))] else []) ++ ((bif s 4 then [(b5, cel 27 x5)] else []) ++ ((b2, cel 27 (btl b (b.sl ab cb))) :: H))) Rz w; rw [h5]; exact h⟩
 intro Lz Hz Rz hI
 obtain ⟨a1, c1, a2, c2, b5, x5, b6, x6, hL0, hR0, q0, q1, q2, q3, q4, q5, q6, q7, hH⟩ := hI
 obtain rfl := q7 rfl
 obtain rfl := q6 rfl
 refine Sy.weak (L' := [(6, .pointer (some ⟨b6, 0, none⟩)), (5, .pointer (some ⟨b5, 0, none⟩)), (1, .int .i64 days), (2, .pointer (some ⟨b2, 0, none⟩))]) (H' := (b6, cel 84 (btl b (b.sl a2 c2))) :: (b5, cel 27 (btl b (b.sl a1 c1))) :: (b2, cel 27 (btl b (b.sl ab cb))) :: H) (R' := Z5 a2 4 (Z7 b.bins) :: Z5 a1 4 (Z7 b.bins) :: R) ?_ (Sub.cons (q5 rfl).1 (Sub.cons (q4 rfl).1 hL0)).lk (fun w h => St.facts (hH w h) (Z0h (q3 rfl).2 (Z0h (q1 rfl).2 hR0)))
 refine sqt 3 rfl (spL rfl rfl (lhA (btl b (b.sl a2 c2)) Z1n rfl rfl rfl) rfl ?_)
 refine clV rfl Z80 rfl rfl (Z27 b a2 c2 hl hr _ _) ?_
 refine pur 1 rfl (sqt 1 rfl (pur 1 rfl (Z0 (sqt 2 rfl (pur 2 rfl ?_)))))
 refine Z15 (ι := Unit) (fun _ => ⟨[(1, .int .i64 days), (2, .pointer (some ⟨b2, 0, none⟩)), (5, .pointer (some ⟨b5, 0, none⟩)), (6, .pointer (some ⟨b6, 0, none⟩)), (7, .int .i64 (Z09 b days)), (8, .int .i64 (Z0l b days))], (b6, cel 84 (btl b (b.sl a2 c2))) :: (b5, cel 27 (btl b (b.sl a1 c1))) :: (b2, cel 27 (btl b (b.sl ab cb))) :: H, Z5 a2 4 (Z7 b.bins) :: Z5 a1 4 (Z7 b.bins) :: R⟩) ?_ ?_
 refine Z2 rfl ?_ ?_ <;> intro hc1 <;> try simp only [cS] at hc1
 have hck : b.check = 0 := hc1
 have hok := Barn.ok_of hr hck
 have hmn := hok.many
 rw [hck]
 refine Z3 (sqt 7 rfl (pur 3 rfl ?_))
 refine Zh 37 rfl ?_ ?_ <;> intro g37
 try simp only [cS] at g37
 refine pur 4 rfl ?_
 refine Zq rfl ?_
 refine sqr 1 rfl ?_
 obtain ⟨e3, e0⟩ := Z4F hck (days := days) (by omega)
 refine pur 1 rfl ?_
 first | exact ZR () (by dsimp only; rw [e3, e0]; exact (by repeat' first | exact Sub.nil | apply Sub.cons | rfl | (simp [lk]; omega))) idH | exact Z4b (ZR () (by dsimp only; rw [e3, e0]; exact (by repeat' first | exact Sub.nil | apply Sub.cons | rfl | (simp [lk]; omega))) idH)
 try simp only [cS] at g37
 refine pur 4 rfl ?_
 refine Z2 rfl ?_ ?_ <;> intro hc2 <;> try simp only [cS] at hc2
 refine sqr 1 rfl ?_
 obtain ⟨e3, e0⟩ := Z4F hck (days := days) (by omega)
 refine pur 1 rfl ?_
 first | exact ZR () (by dsimp only; rw [e3, e0]; exact (by repeat' first | exact Sub.nil | apply Sub.cons | rfl | (simp [lk]; omega))) idH | exact Z4b (ZR () (by dsimp only; rw [e3, e0]; exact (by repeat' first | exact Sub.nil | apply Sub.cons | rfl | (simp [lk]; omega))) idH)
 obtain ⟨n, hdn⟩ : ∃ n : Nat, days = n := ⟨days.toNat, by omega⟩
 have hn20 : n ≤ 20 := by omega
 subst hdn
 refine sqt 4 rfl (spL rfl rfl (lhA (btl b (b.sl a2 c2)) Z1n rfl rfl rfl) rfl (pur 1 rfl ?_))
 refine cl rfl Zhx rfl rfl (Z8v b a2 c2 hok n hn20 _ _) ?_
 rintro _ _ _ ⟨⟨m, hm, rfl⟩, rfl, rfl⟩
 refine pur 1 rfl (sqt 2 rfl (pur 2 rfl ?_))
 refine Z2 rfl ?_ ?_ <;> intro hc3 <;> try simp only [cS] at hc3
 obtain ⟨e3, e0⟩ : Z09 b n = 6 ∧ Z0l b n = 0 := by
   rcases Z9j hok hck hn20 hm with ⟨_, h2, h3⟩ | ⟨h1, _, _⟩
   · exact ⟨h2, h3⟩
   · omega
 refine sqr 2 rfl (pur 2 rfl ?_)
 first | exact ZR () (by dsimp only; rw [e3, e0]; exact (by repeat' first | exact Sub.nil | apply Sub.cons | rfl | (simp [lk]; omega))) idH | exact Z4b (ZR () (by dsimp only; rw [e3, e0]; exact (by repeat' first | exact Sub.nil | apply Sub.cons | rfl | (simp [lk]; omega))) idH)
 obtain ⟨e3, e0⟩ : Z09 b n = 0 ∧ Z0l b n = m := by
   rcases Z9j hok hck hn20 hm with ⟨h1, _, _⟩ | ⟨_, h2, h3⟩
   · omega
   · exact ⟨h2, h3⟩
 refine Z1 ?_
 first | exact ZR () (by dsimp only; rw [e3, e0]; exact (by repeat' first | exact Sub.nil | apply Sub.cons | rfl | (simp [lk]; omega))) idH | exact Z4b (ZR () (by dsimp only; rw [e3, e0]; exact (by repeat' first | exact Sub.nil | apply Sub.cons | rfl | (simp [lk]; omega))) idH)
 obtain ⟨e3, e0⟩ := Z7B (days := days) hc1
 refine Z1 ?_
 first | exact ZR () (by dsimp only; rw [e3, e0]; exact (by repeat' first | exact Sub.nil | apply Sub.cons | rfl | (simp [lk]; omega))) idH | exact Z4b (ZR () (by dsimp only; rw [e3, e0]; exact (by repeat' first | exact Sub.nil | apply Sub.cons | rfl | (simp [lk]; omega))) idH)
 rintro ⟨⟩
 refine sqt 8 rfl (spL rfl rfl (lhA (btl b (b.sl a1 c1)) ZD rfl rfl rfl) rfl (pur 1 rfl ?_))
 refine cl rfl ZhD rfl rfl (Zgp b a1 c1 hl hr days _ _) ?_
 rintro _ _ R1 ⟨rfl, (⟨hpe, rfl, hR1⟩ | ⟨hpe, pl, bp, hpl, rfl, hR1⟩)⟩ <;> obtain rfl := hR1.symm <;> clear hR1
 refine pur 5 rfl (sqt 8 rfl (spL rfl rfl (lhA (btl b (b.sl a1 c1)) ZD rfl rfl rfl) rfl (pur 1 rfl ?_)))
 refine clV rfl Ze7 rfl rfl (Z3M b a1 c1 hl hr days _ _) ?_
 refine pur 5 rfl (Z0 (sqt 13 rfl (pur 4 rfl ?_)))
 refine Zh 56 rfl ?_ ?_ <;> intro g56
 exact absurd g56 (by simp)
 refine pur 5 rfl ?_
 refine Zh 61 rfl ?_ ?_ <;> intro g61
 exact absurd g61 (by simp)
 refine pur 4 rfl ?_
 refine Z2 rfl ?_ ?_ <;> intro hc4
 exact absurd hc4 (by simp)
 refine Z1 (Z0 (sqt 2 rfl (pur 2 rfl ?_)))
 refine Z2 rfl ?_ ?_ <;> intro hc5
 refine sqt 12 rfl (pur 1 rfl (sp rfl (PE.lenSl Z0E rfl) rfl (pur 2 rfl ?_)))
 refine Zh 71 rfl ?_ ?_ <;> intro g71
 refine Z0o rfl rfl rfl rfl rfl (lhA (btl b (b.sl a1 c1)) ZD rfl rfl rfl) rfl (Z0o rfl rfl rfl rfl rfl (lhA (btl b (b.sl ab cb)) ZD rfl rfl rfl) rfl ?_)
 refine Z0K rfl rfl rfl rfl Z1J rfl rfl (Z0S b a1 c1 b ab cb hl hl hr hr _ _) ?_
 refine pur 2 rfl ?_
 refine Zh 76 rfl ?_ ?_ <;> intro g76
 refine Z0K rfl rfl rfl rfl Z1d rfl rfl (Z02 _ _) ?_
 refine pur 2 rfl (Z4 ?_)
 exact rtA rfl rfl rfl ⟨rfl, rfl, rfl⟩ (fun w h => by first | exact (((h.del b6).del b5).del b2).facts (fun g hg => by simp [hg]) | exact h.del b2)
 rw [sameB_iff.2 rfl] at g76; exact absurd g76 (by decide)
 exact absurd g71 (by simp)
 exact absurd hpe (by simpa using hc5)
 obtain ⟨hck, h0, h20⟩ := Z5o hpe
 have hok := Barn.ok_of hr hck
 have hlaw := Zd4 hok hpe
 rw [← hpl] at hlaw
 have hpn := hlaw.len
 rw [Zo] at hpn
 obtain rfl : days = (pl.length : Int) := by omega
 rw [Int.toNat_natCast]
 have hpi : ∀ x ∈ pl, x.l.length ≤ 9223372036854775807 := fun x hx => by have := (Z4q hlaw.long).2 x.l (List.mem_map.2 ⟨x, hx, rfl⟩); omega
 have hplz : ZX (b.bins.length : Int) b.gangs (lls pl) = 0 := hlaw.err
 have hpb := hlaw.burn
 have hfw := hlaw.few
 have hsm := hlaw.sum
 rw [hpe]
 refine pur 5 rfl (sqt 8 rfl (spL rfl rfl (lhA (btl b (b.sl a1 c1)) ZD rfl rfl rfl) rfl (pur 1 rfl ?_)))
 refine clV rfl Ze7 rfl rfl (Z3M b a1 c1 hl hr (pl.length : Int) _ _) ?_
 refine pur 1 rfl ?_
 rw [hpe]
 refine pur 4 rfl (Z0 (sqt 13 rfl (pur 4 rfl ?_)))
 refine Zh 56 rfl ?_ ?_ <;> intro g56
 exact absurd g56 (by simp)
 refine pur 5 rfl ?_
 refine Zh 61 rfl ?_ ?_ <;> intro g61
 exact absurd g61 (by simp)
 refine pur 4 rfl ?_
 refine Z2 rfl ?_ ?_ <;> intro hc4
 exact absurd hc4 (by simp)
 refine Z1 (Z0 (sqt 2 rfl (pur 2 rfl ?_)))
 refine Z2 rfl ?_ ?_ <;> intro hc5
 exact absurd hc5 (by simp)
 refine Z1 (Z0 (sqt 14 rfl (pur 1 rfl (sp rfl (PE.lenSl Z0E rfl) rfl (pur 3 rfl ?_)))))
 refine Zh 83 rfl ?_ ?_ <;> intro g83
 exact absurd g83 (by simp)
 refine pur 1 rfl ?_
 refine Z0K rfl rfl rfl rfl ZcX rfl rfl (Z9t pl (some ⟨bp, 0, none⟩) pl.length (by omega) hpi _ _) ?_
 refine pur 2 rfl ?_
 refine Zh 87 rfl ?_ ?_ <;> intro g87
 rw [hlaw.long] at g87; exact absurd g87 (by decide)
 refine Z0o rfl rfl rfl rfl rfl (lhA (btl b (b.sl a2 c2)) Z1n rfl rfl rfl) rfl (pur 1 rfl ?_)
 refine Z0K rfl rfl rfl rfl Za4 rfl rfl (Z1z b a2 c2 hl pl (some ⟨bp, 0, none⟩) pl.length (by omega) hpi _ _) ?_
 rw [hplz]
 refine pur 2 rfl ?_
 refine Z2 rfl ?_ ?_ <;> intro hc6
 exact absurd hc6 (by simp)
 refine Z1 (Z0 (sqt 3 rfl (pur 1 rfl (sp rfl (PE.lenSl Z0E rfl) rfl (pur 1 rfl (Z3 ?_))))))
 refine Zj (ι := {i : Nat // i ≤ pl.length}) (fun i => ⟨[(1, .int .i64 (pl.length : Int)), (2, .pointer (some ⟨b2, 0, none⟩)), (5, .pointer (some ⟨b5, 0, none⟩)), (6, .pointer (some ⟨b6, 0, none⟩)), (9, .slice (some ⟨bp, 0, none⟩) pl.length pl.length), (8, .int .i64 (Z0l b (pl.length : Int) - (Z7v ((lls pl).take i.1) : Int))), (93, .slice (some ⟨bp, 0, none⟩) pl.length pl.length), (94, .int .i64 pl.length), (95, .int .i64 i.1)], (b6, cel 84 (btl b (b.sl a2 c2))) :: (b5, cel 27 (btl b (b.sl a1 c1))) :: (b2, cel 27 (btl b (b.sl ab cb))) :: H, Z5 (some ⟨bp, 0, none⟩) 1 (Z9 pl) :: Inn pl :: Z5 a2 4 (Z7 b.bins) :: Z5 a1 4 (Z7 b.bins) :: R⟩) (fun i => pl.length - i.1) ⟨0, Nat.zero_le _⟩ ?_ (fun i => ?_)
 exact Zew (by dsimp only; rw [show Z0l b (pl.length : Int) - (Z7v ((lls pl).take 0) : Int) = Z0l b (pl.length : Int) by rw [List.take_zero]; show _ - (0 : Int) = _; omega]; exact (by repeat' first | exact Sub.nil | apply Sub.cons | rfl | (simp [lk]; omega))) idH
 obtain ⟨i, hi⟩ := i
 dsimp only at hi ⊢
 have hle := Zbv (lls pl) i
 refine sqt 1 rfl (pur 1 rfl (Z0 ?_))
 refine Z2 rfl ?_ ?_ <;> intro hc7 <;> try simp only [cS] at hc7
 obtain ⟨x, hx⟩ : ∃ x, pl[i]? = some x := ⟨_, List.getElem?_eq_getElem (by omega)⟩
 have hst := Zaz (Z0a hx)
 have hle2 := Zbv (lls pl) (i + 1)
 refine Z1 (Z0 (Z3 (sqt 3 rfl (sp rfl (PE.indexAddr Z4l rfl rfl (by omega) (by omega)) rfl (spL rfl rfl (lf0 Z2g (Z14 hx) rfl) rfl (pur 1 rfl (sqr 5 rfl (pur 2 rfl (sp rfl (PE.lenSl Z0n rfl) rfl (sp rfl (PE.sub rfl rfl (by omega)) rfl (pur 1 rfl (sqr 2 rfl (sp rfl (PE.add rfl rfl (by omega)) rfl (pur 1 rfl ?_))))))))))))))
 exact ZW ⟨i + 1, by omega⟩ (by dsimp only; omega) (by dsimp only; rw [show Z0l b (pl.length : Int) - (Z7v ((lls pl).take (i + 1)) : Int) = Z0l b (pl.length : Int) - (Z7v ((lls pl).take i) : Int) - (x.l.length : Int) by omega]; exact (by repeat' first | exact Sub.nil | apply Sub.cons | rfl | (simp [lk]; omega))) idH
 obtain rfl : i = pl.length := by omega
 rw [show Z0l b (pl.length : Int) - (Z7v ((lls pl).take pl.length) : Int) = 0 by rw [List.take_of_length_le (by rw [Zo]; exact Nat.le_refl _)]; omega]
 refine Zb (Zf (Zf (ZB (sqt 10 rfl (spL rfl rfl (lhA (btl b (b.sl a2 c2)) Z1n rfl rfl rfl) rfl (pur 1 rfl ?_))))))
 refine clV rfl Zeu rfl rfl (Z5Z b a2 c2 hok pl (some ⟨bp, 0, none⟩) pl.length (by omega) hpi (by omega) _ _) ?_
 rw [hpb]
 refine pur 7 rfl (sqt 15 rfl (pur 3 rfl ?_))
 refine Zh 113 rfl ?_ ?_ <;> intro g113
 refine pur 4 rfl ?_
 refine Zh 117 rfl ?_ ?_ <;> intro g117
 refine Z0o rfl rfl rfl rfl rfl (lhA (btl b (b.sl a1 c1)) ZD rfl rfl rfl) rfl (Z0o rfl rfl rfl rfl rfl (lhA (btl b (b.sl ab cb)) ZD rfl rfl rfl) rfl ?_)
 refine Z0K rfl rfl rfl rfl Z1J rfl rfl (Z0S b a1 c1 b ab cb hl hl hr hr _ _) ?_
 refine pur 2 rfl ?_
 refine Zh 122 rfl ?_ ?_ <;> intro g122
 refine Z0K rfl rfl rfl rfl Z1d rfl rfl (Z02 _ _) ?_
 refine pur 2 rfl (Z4 ?_)
 exact rtA rfl rfl rfl ⟨rfl, rfl, rfl⟩ (fun w h => by first | exact (((h.del b6).del b5).del b2).facts (fun g hg => by simp [hg]) | exact h.del b2)
 rw [sameB_iff.2 rfl] at g122; exact absurd g122 (by decide)
 exact absurd g117 (by simp)
 exact absurd g113 (by decide)
theorem Zh7 : cal Tryz.prog 25 = true := by kernel_rfl
theorem Zhs : cal Tryz.prog 26 = true := by kernel_rfl
theorem Zf7 : Z1h Tryz.prog 50 = some 1 := by kernel_rfl
theorem ZfY : Z2R Tryz.prog 79 0 = some 0 := by kernel_rfl
theorem ZhZ : Z2z Tryz.prog 79 = some [(0, 1)] := by kernel_rfl
theorem Zi2 : Z45 Tryz.prog 77 = true := by kernel_rfl
theorem Zf9 : Z0x Tryz.prog 50 = some ([.pointer none]) := by kernel_rfl
theorem ZhN : Z0x Tryz.prog 79 = some ([.nilFunc]) := by kernel_rfl
theorem Z5q {c r k : Int} (hr : 0 ≤ r) : ∀ (p : List (List Int)), (∀ w, wst c r k w p = w + r * (p.length : Int)) ∨ ∃ C, ∀ w, wst c r k w p = min (w + r * (p.length : Int)) C
  | [] => .inl fun w => by simp [wst]
  | l :: p => by
    have e : r * ((l :: p).length : Int) = r * (p.length : Int) + r := by rw [List.length_cons]; push_cast; rw [Int.mul_add, Int.mul_one]
    rw [e]
    have h0 : 0 ≤ r * (p.length : Int) := Int.mul_nonneg hr (by omega)
    generalize hM : r * (p.length : Int) = M at h0
    have h := Z5q (c := c) (k := k) hr p
    rw [hM] at h
    cases hl : Z3J l k with
    | false =>
      rcases h with h | ⟨C, h⟩
      · exact .inl fun w => by unfold wst; rw [hl, cond_false, h]; omega
      · exact .inr ⟨C, fun w => by unfold wst; rw [hl, cond_false, h]; omega⟩
    | true =>
      rcases h with h | ⟨C, h⟩
      · exact .inr ⟨c + (M + r), fun w => by unfold wst; rw [hl, cond_true, h]; omega⟩
      · exact .inr ⟨min (c + (M + r)) C, fun w => by unfold wst; rw [hl, cond_true, h]; omega⟩
theorem Z5n {b : Barn} (hb : b.ok) : ∀ (p : List (List Int)) (ws us : List Int) (d : Nat), Cool b ws → b.burnsF ws p d = (none, us) → Cool b us
  | [], ws, us, d, hc, h => by cases h; exact hc
  | l :: p, ws, us, d, hc, h => by
    rw [b.burns_cons] at h
    cases hf : (List.range b.bins.length).find? (b.hotAt ws l) with
    | some k => rw [hf] at h; cases h
    | none =>
      rw [hf] at h
      have hn : ∀ k < b.bins.length, b.hotAt ws l k = false := fun k hk => by
        have := List.find?_eq_none.1 hf k (List.mem_range.2 hk)
        simpa using this
      exact Z5n hb p _ us (d + 1) (hc.next hb hn) h
theorem Zbz {x : Nat → Int} {M C : Int} (hM : M = 0 ∨ 6 ≤ M) (hb : ∀ n, n ≤ 12 → 0 ≤ x n ∧ x n ≤ 60) (hs : (∀ n, n < 12 → x (n + 1) = x n + M) ∨ (∀ n, n < 12 → x (n + 1) = min (x n + M) C)) : x 12 = x 11 := by
  rcases hM with rfl | hM
  · rcases hs with hs | hs
    · have h1 : x 12 = x 11 + 0 := hs 11 (by omega)
      omega
    · have h1 : x 12 = min (x 11 + 0) C := hs 11 (by omega)
      have h2 : x 11 = min (x 10 + 0) C := hs 10 (by omega)
      omega
  · rcases hs with hs | hs
    · exfalso
      have key : ∀ n : Nat, n ≤ 12 → 6 * (n : Int) ≤ x n := by
        intro n
        induction n with
        | zero => intro _; have := hb 0 (by omega); omega
        | succ n ih => intro hn; have := ih (by omega); have := hs n (by omega); push_cast; omega
      have := key 12 (by omega); have := hb 12 (by omega); omega
    · have key : ∀ n : Nat, n ≤ 11 → 6 * (n : Int) ≤ x n ∨ x n = C := by
        intro n
        induction n with
        | zero => intro _; have := hb 0 (by omega); omega
        | succ n ih =>
          intro hn
          have h1 := ih (by omega)
          have h2 := hs n (by omega)
          push_cast
          omega
      have h1 := key 11 (by omega); have h2 := hb 11 (by omega)
      have h3 : x 12 = min (x 11 + M) C := hs 11 (by omega)
      omega
theorem ZcY {b : Barn} (hb : b.ok) {p q : List (List Int)} (hq : q ≠ []) (h : ∀ n, n ≤ 12 → (b.burnsF b.warms (p ++ rep n q) 0).1 = none) : b.goes p q := by
  let W : Nat → List Int := fun n => (b.burnsF b.warms (p ++ rep n q) 0).2
  have hW : ∀ n, n ≤ 12 → b.burnsF b.warms (p ++ rep n q) 0 = (none, W n) := fun n hn => by rw [← h n hn]
  have hC : ∀ n, n ≤ 12 → Cool b (W n) := fun n hn => Z5n hb _ _ _ _ (Cool.start hb) (hW n hn)
  have hS : ∀ n, n < 12 → b.burnsF (W n) q 0 = (none, W (n + 1)) := fun n hn => by
    have h1 := hW (n + 1) (by omega)
    rw [Z3q, ← List.append_assoc, b.burns_app, hW n (by omega)] at h1
    exact Z5p h1
  have e : W 12 = W 11 := by
    refine List.ext_getElem? fun k => ?_
    rcases Nat.lt_or_ge k b.bins.length with hk | hk
    · rw [Z0f (l := W 12) (k := k) (by rw [(hC 12 (by omega)).len]; exact hk), Z0f (l := W 11) (k := k) (by rw [(hC 11 (by omega)).len]; exact hk)]
      congr 1
      obtain ⟨x, hx⟩ : ∃ x, b.bins[k]? = some x := ⟨_, List.getElem?_eq_getElem hk⟩
      have hm := List.mem_of_getElem? hx
      have hr := b.worst_range hb hm
      have hmk := (hb.bins x hm).1
      have hat : ∀ n, n < 12 → na (W (n + 1)) k = wst b.cool (b.worst x) k (na (W n) k) q := fun n hn => by
        have := b.burns_at q (W n) (W (n + 1)) 0 (hS n hn) k hk (hC n (by omega)).len
        rw [Z07 hx] at this
        exact this
      have hlq : 1 ≤ q.length := by
        cases q with
        | nil => exact absurd rfl hq
        | cons _ _ => simp
      have hM : b.worst x * (q.length : Int) = 0 ∨ 6 ≤ b.worst x * (q.length : Int) := by
        rcases (show b.worst x = 0 ∨ 6 ≤ b.worst x by omega) with h0 | h0
        · rw [h0]; simp
        · have := Int.mul_le_mul h0 (show (1 : Int) ≤ (q.length : Int) by omega) (by omega) (by omega)
          omega
      rcases Z5q (c := b.cool) (k := (k : Int)) (r := b.worst x) (by omega) q with hs | ⟨C, hs⟩
      · exact Zbz (x := fun n => na (W n) k) (C := 0) hM (fun n hn => by have := (hC n hn).at_ k x hx; omega) (.inl fun n hn => by show na (W (n + 1)) k = _; rw [hat n hn, hs])
      · exact Zbz (x := fun n => na (W n) k) (C := C) hM (fun n hn => by have := (hC n hn).at_ k x hx; omega) (.inr fun n hn => by show na (W (n + 1)) k = _; rw [hat n hn, hs])
    · rw [List.getElem?_eq_none (by rw [(hC 12 (by omega)).len]; exact hk), List.getElem?_eq_none (by rw [(hC 11 (by omega)).len]; exact hk)]
  exact Z6h (i := 11) (hW 11 (by omega)) (by have := hS 11 (by omega); rw [e] at this; exact this)
structure RndOk (b : Barn) (p q : List (List Nat)) : Prop where
  hp : ∀ l ∈ p, l ∈ b.dsk.trs true
  hq : ∀ l ∈ q, l ∈ b.dsk.trs true
  ne : q ≠ []
  len : p.length + q.length ≤ 14641
  run : ∃ u, b.dsk.run b.state p = some u ∧ b.dsk.run u q = some u
theorem Dsk.run_rep {d : Dsk} {u : HSt} {q : List (List Nat)} (h : d.run u q = some u) : ∀ n, d.run u (List.replicate n q).flatten = some u
  | 0 => rfl
  | n + 1 => by
    rw [List.replicate_succ, List.flatten_cons, d.run_app, h]
    exact run_rep h n
theorem RndOk.goes {b : Barn} (hb : b.ok) {p q : List (List Nat)} (h : RndOk b p q) : b.goes (p.map il) (q.map il) := fun n => by
  obtain ⟨u, h1, h2⟩ := h.run
  have e : p.map il ++ rep n (q.map il) = (p ++ (List.replicate n q).flatten).map il := by
    unfold rep
    rw [List.map_append, List.map_flatten, List.map_replicate]
  rw [e]
  have hr : b.dsk.run (b.stw b.warms) (p ++ (List.replicate n q).flatten) = some u := by
    rw [Barn.stw_warms hb, b.dsk.run_app, h1]
    exact Dsk.run_rep h2 n
  rcases Barn.run_burns hb (p ++ (List.replicate n q).flatten) b.warms 0 (Cool.start hb) (fun l hl k hk => by
    rcases List.mem_append.1 hl with hl | hl
    · exact b.dsk.trs_lt (h.hp l hl) k hk
    · obtain ⟨r, hr, hl⟩ := List.mem_flatten.1 hl
      rw [(List.mem_replicate.1 hr).2] at hl
      exact b.dsk.trs_lt (h.hq l hl) k hk) with ⟨ws, h3, _⟩ | ⟨x, ws, _, h4⟩
  · rw [h3]
  · rw [hr] at h4; cases h4
structure Met (d : Dsk) (s0 : HSt) (S : List HSt) (p : List (List Nat)) (s : HSt) : Prop where
  len : S.length = p.length
  nd : S.Nodup
  trs : ∀ l ∈ p, l ∈ d.trs true
  at_ : ∀ j t, S[j]? = some t → d.run s0 (p.take j) = some t ∧ d.inS t
  run : d.run s0 p = some s
  inS : d.inS s
  ever : ∀ m, s ∈ d.alive m
theorem Met.start {d : Dsk} {s : HSt} (h : d.inS s) (he : ∀ m, s ∈ d.alive m) : Met d s [] [] s := ⟨rfl, List.nodup_nil, by simp, by simp, rfl, h, he⟩
theorem Met.few {d : Dsk} (hd : d.ok) {s0 s : HSt} {S : List HSt} {p : List (List Nat)} (h : Met d s0 S p s) : S.length ≤ d.nst := by
  have := Z3y h.nd (m := d.sts) fun t ht => by
    obtain ⟨j, hj⟩ := List.getElem?_of_mem ht
    exact (d.mem_sts hd t).2 (h.at_ j t hj).2
  rw [d.sts_len] at this
  exact this
theorem Met.next {d : Dsk} (hd : d.ok) {s0 s t : HSt} {S : List HSt} {p : List (List Nat)} (h : Met d s0 S p s) (hs : s ∉ S) {l : List Nat} (hl : l ∈ d.trs true) (hn : d.next s l = some t) (he : ∀ m, t ∈ d.alive m) : Met d s0 (S ++ [s]) (p ++ [l]) t where
  len := by rw [List.length_append, List.length_append, h.len]; rfl
  nd := List.nodup_append.2 ⟨h.nd, by simp, fun x hx y hy e => hs (by rw [← List.mem_singleton.1 hy, ← e]; exact hx)⟩
  trs m hm := by
    rcases List.mem_append.1 hm with hm | hm
    · exact h.trs m hm
    · rw [List.mem_singleton.1 hm]; exact hl
  at_ j u hu := by
    have hlen := h.len
    rcases Nat.lt_or_ge j S.length with hj | hj
    · rw [List.getElem?_append_left hj] at hu
      rw [List.take_append_of_le_length (by omega)]
      exact h.at_ j u hu
    · have hj2 := (List.getElem?_eq_some_iff.1 hu).1
      rw [List.length_append, List.length_singleton] at hj2
      obtain rfl : j = S.length := by omega
      rw [List.getElem?_append_right (Nat.le_refl _), Nat.sub_self] at hu
      cases hu
      rw [hlen, List.take_left]
      exact ⟨h.run, h.inS⟩
  run := by rw [d.run_app, h.run]; dsimp only; rw [d.run_one]; exact hn
  inS := d.next_inS hd h.inS (d.trs_lt hl) hn
  ever := he
theorem Zb6 {d : Dsk} (hd : d.ok) {s : HSt} (h : ∀ m, s ∈ d.alive m) : ∃ l ∈ d.trs true, ∃ t, d.next s l = some t ∧ ∀ m, t ∈ d.alive m := by
  obtain ⟨l, hl, t, ht, hm⟩ := d.helped_iff.1 (d.alive_succ.1 (h (d.nst + 1))).2
  exact ⟨l, hl, t, ht, d.alive_ever (Nat.le_refl _) hm⟩
theorem Met.done {b : Barn} (hok : b.ok) {s : HSt} {S : List HSt} {p : List (List Nat)} (h : Met b.dsk b.state S p s) {j : Nat} (hj : S[j]? = some s) : RndOk b (p.take j) (p.drop j) := by
  have hjl := (List.getElem?_eq_some_iff.1 hj).1
  have hlen := h.len
  have hf := h.few (b.dsk_ok hok)
  have hn := (b.dsk.nst_le (b.dsk_ok hok)).2
  refine ⟨fun l hl => h.trs l (List.mem_of_mem_take hl), fun l hl => h.trs l (List.mem_of_mem_drop hl), fun e => ?_, ?_, s, (h.at_ j s hj).1, ?_⟩
  · have := congrArg List.length e
    rw [List.length_drop, List.length_nil] at this; omega
  · rw [List.length_take, List.length_drop]; omega
  · have h1 := h.run
    rw [← List.take_append_drop j p, b.dsk.run_app, (h.at_ j s hj).1] at h1
    exact h1
def KpF (m : Nat) (kv : KV) (w : World) : Prop := w.heap[m]? = some (Z0g true kv)
theorem St.kpf {m : Nat} {kv : KV} {H : Zg} {R : Z6} {w : World} (h : St ((m, Z0g true kv) :: H) R w) : St H (KpF m kv :: R) w := St.freeze h
theorem Zav {d : Dsk} {n : Nat} {s : HSt} (hs : s ∈ d.sts) (hn : n ≤ 14641) (hf : d.alive (n + 1) = d.alive n) (h : d.lvl n s = 1000000) : ∀ m, s ∈ d.alive m := by
  rcases Z1r hs hn hf with ⟨_, h1⟩ | ⟨j, hj, h1, _⟩
  · exact h1
  · omega
theorem ZcE {d : Dsk} {n : Nat} {s : HSt} (hs : s ∈ d.sts) (hn : n ≤ 14641) (hf : d.alive (n + 1) = d.alive n) (h : ∀ m, s ∈ d.alive m) : d.lvl n s = 1000000 := Z08 (Z1r hs hn hf) (.inl ⟨rfl, h⟩)
def Dsk.goodL (d : Dsk) (n : Nat) (s : HSt) (l : List Nat) : Bool := match d.next s l with
  | some t => decide (d.lvl n t = 1000000)
  | none => false
theorem ZcO {d : Dsk} (hd : d.ok) {n : Nat} {s : HSt} (hs : d.inS s) (hn : n ≤ 14641) (hf : d.alive (n + 1) = d.alive n) (h : ∀ m, s ∈ d.alive m) : (d.trs true).any (d.goodL n s) = true := by
  obtain ⟨l, hl, t, ht, he⟩ := Zb6 hd h
  refine List.any_eq_true.2 ⟨l, hl, ?_⟩
  unfold Dsk.goodL
  rw [ht]
  exact decide_eq_true (ZcE ((d.mem_sts hd t).2 (d.next_inS hd hs (d.trs_lt hl) ht)) hn hf he)
def kvI : Nat → List HSt → KV
  | _, [] => []
  | i, s :: l => (s, .int .i64 (i : Int)) :: kvI (i + 1) l
theorem ZbF : ∀ {l : List HSt} {i : Nat}, (∀ s ∈ l, s.length = 4) → ∀ e ∈ kvI i l, e.1.length = 4
  | [], _, _, e, he => by cases he
  | s :: l, i, h, e, he => by
    rcases List.mem_cons.1 he with rfl | he
    · exact h s (by simp)
    · exact ZbF (fun t ht => h t (by simp [ht])) e he
theorem Zbi : ∀ {l : List HSt} {i : Nat} {s : HSt}, s ∉ l → (kvI i l).put s (.int .i64 ((i + l.length : Nat) : Int)) = kvI i (l ++ [s])
  | [], i, s, _ => rfl
  | t :: l, i, s, h => by
    have hne : ¬ t = s := fun e => h (by simp [e])
    have ih := Zbi (l := l) (i := i + 1) (s := s) (fun hm => h (by simp [hm]))
    show KV.put ((t, Value.int .i64 (i : Int)) :: kvI (i + 1) l) s _ = (t, Value.int .i64 (i : Int)) :: kvI (i + 1) (l ++ [s])
    unfold KV.put
    rw [decide_eq_false hne, cond_false, List.length_cons, show i + (l.length + 1) = i + 1 + l.length by omega, ih]
theorem Zb7 : ∀ {l : List HSt} {i : Nat} {s : HSt} {v : Value}, (kvI i l).get s = some v → ∃ j : Nat, l[j]? = some s ∧ v = .int .i64 ((i + j : Nat) : Int)
  | [], _, _, _, h => by cases h
  | t :: l, i, s, v, h => by
    unfold KV.get kvI at h
    rw [List.find?_cons] at h
    dsimp only at h
    by_cases e : t = s
    · rw [decide_eq_true e] at h
      cases h
      exact ⟨0, by rw [e]; rfl, rfl⟩
    · rw [decide_eq_false e] at h
      obtain ⟨j, h1, h2⟩ := Zb7 (l := l) (i := i + 1) (s := s) (v := v) h
      exact ⟨j + 1, h1, by rw [h2]; congr 2; omega⟩
theorem Zdl : ∀ {l : List HSt} {i : Nat} {s : HSt}, (kvI i l).get s = none → s ∉ l
  | [], _, _, _ => by simp
  | t :: l, i, s, h => by
    unfold KV.get kvI at h
    rw [List.find?_cons] at h
    dsimp only at h
    by_cases e : t = s
    · rw [decide_eq_true e] at h; cases h
    · rw [decide_eq_false e] at h
      have ih := Zdl (l := l) (i := i + 1) (s := s) h
      intro hm
      rcases List.mem_cons.1 hm with h1 | h1
      · exact e h1.symm
      · exact ih h1
theorem PE.slHM {P : Program} {L : ZL} {d : Option Tmp} {ty : TypeId} {pos : String} {af : Array Edge} {g : Option (Nat × Bool)} {T e s : Nat} {x y q : Operand} {a : Option Addr} {len cap h mx : Nat} {k k3 : IntKind} (hT : slE P T = some (e, s)) (hx : ev L x = some (.slice a len cap)) (hy : ev L y = some (.int k h)) (hq : ev L q = some (.int k3 mx)) (hh : h ≤ mx) (hm : mx ≤ cap) :
    PE P L ⟨d, .slice T x none (some y) (some q), ty, pos, af, g⟩ (.slice a h mx) := fun ρ hρ w => by
  obtain ⟨i, hu, hi, rfl⟩ := Z35 hT
  have hb : ∀ c w, (Instr.sliceBound (.int k3 (mx : Int)) cap c).run P w = .ok mx w := fun c w => by rw [Z2p (by omega)]; simp
  have hb1 : ∀ c w, (Instr.sliceBound (.int k (h : Int)) mx c).run P w = .ok h w := fun c w => by rw [Z2p (by omega)]; simp
  have e1 : (if mx = 0 then a else a.map (·.add (0 * i.size))) = a := by
    have : a.map (·.add (0 * i.size)) = a := by
      cases a with
      | none => rfl
      | some ad => simp [Addr.add]
    rw [this]; split <;> rfl
  simp only [execOp, hρ _ _ hx, hρ _ _ hy, hρ _ _ hq, Option.map_none, Option.map_some, Instr.sliceAt, Instr.slice, Sem.run_bind, run_underlying hu, Result.andThen, Sem.run_pure, Instr.sliceBounds, hb, hb1, sizeOf, typeInfo, program, hi, Sem.run]
  rw [e1]; simp
theorem ZcP {b off sz : Nat} {rows : List (List Value)} {w : World} (h : Z5 (some ⟨b, off, none⟩) sz rows w) (j : Nat) : Z5 (some ⟨b, off + j * sz, none⟩) sz (rows.drop j) w := fun i row hi => by
  rw [List.getElem?_drop] at hi
  obtain ⟨h1, b', o', he, h2⟩ := h (j + i) row hi
  cases he
  refine ⟨h1, b, off + j * sz, rfl, fun k x hx => ?_⟩
  have := h2 k x hx
  rw [show off + (j + i) * sz + k = off + j * sz + i * sz + k by rw [Nat.add_mul]; omega] at this
  exact this
theorem St.rowsDrop {b off sz : Nat} {rows : List (List Value)} {H : Zg} {R : Z6} {w : World} [m : MemRows (some ⟨b, off, none⟩) sz rows R] (h : St H R w) (n : Nat) : St H (Z5 (some ⟨b, off + n * sz, none⟩) sz (rows.drop n) :: R) w := h.also fun _ hg => ZcP (hg _ m.mem) n
theorem Inn.sub {l k : List PL} (h : ∀ x ∈ k, x ∈ l) {w : World} (hi : Inn l w) : Inn k w := fun x hx => hi x (h x hx)
theorem St.innPart {l : List PL} {H : Zg} {R : Z6} {w : World} [m : MemF (Inn l) R] (h : St H R w) (k : List PL) (hk : ∀ x ∈ k, x ∈ l) : St H (Inn k :: R) w := h.also fun _ hg => Inn.sub hk (hg _ m.mem)
def Zfe (b : Barn) (H : Zg) (R : Z6) : Value → Zg → Z6 → Prop := fun v H' R' => H' = H ∧
  ((b.check ≠ 0 ∧ v = .tuple #[.slice none 0 0, .slice none 0 0, .int .i64 b.check] ∧ R' = R) ∨
   (b.check = 0 ∧ (∃ w, w ≠ 1000000 ∧ Kpt b.dsk b.state w) ∧ v = .tuple #[.slice none 0 0, .slice none 0 0, .int .i64 6] ∧ R' = R) ∨
   (b.check = 0 ∧ Kpt b.dsk b.state 1000000 ∧ ∃ (p q : List (List Nat)) (pl ql : List PL) (ap aq : Option Addr) (cp cq : Nat), RndOk b p q ∧ lls pl = p.map il ∧ lls ql = q.map il ∧ v = .tuple #[.slice ap pl.length cp, .slice aq ql.length cq, .int .i64 0] ∧
      R' = Z5 ap 1 (Z9 pl) :: Inn pl :: Z5 aq 1 (Z9 ql) :: Inn ql :: R))
theorem Zcc (b : Barn) (hok : b.ok) (ab : Option Addr) (cb bd m : Nat) (n : Nat) (hn : n ≤ 14641) (kv : KV) (hkv : KvOk b.dsk n kv) (x5 : Nat) (t : HSt) (ht : t ∈ b.dsk.sts) (H : Zg) (R : Z6) [hD : MemRows (some ⟨bd, 0, none⟩) 18 [dcs b (b.sl ab cb) b.lasts b.most m] R] [hX : MemRows (some ⟨x5, 0, none⟩) 1 [[.pointer (some ⟨bd, 0, none⟩)]] R] [hK : MemF (KpF m kv) R] :
    FnV Tryz.prog 26 [stv t, .pointer (some ⟨x5, 0, none⟩)] H R (.bool (decide (b.dsk.lvl n t = 1000000))) := by
 have hdk := b.dsk_ok hok
 have hti := (b.dsk.mem_sts hdk t).1 ht
 have hl4 := hdk.lasts.len
 have hm4 := hdk.most.len
 refine Zy Tryz.func26 rfl Tryz.ntmps26 rfl ?_
 refine sqt 2 rfl (bx rfl rfl rfl (fun b2 => pur 1 rfl (Z0 ?_)))
 refine Zi [0, 1, 3, 7, 0, 31, 63, 127] (.ld 0 (.tk 1 (.tk 2 (.ld 3 (.ld 4 (.ld 5 (.tk 6 (.tk 7 .done)))))))) ZH (by kernel_rfl) ?_
 refine ld rfl rfl (lfB (sz := 1) Z0U rfl) rfl (tk rfl (PE.nilCheck rfl) rfl (tk rfl (PE.fA Z16 rfl) rfl (ld rfl rfl (lfB (sz := 18) Z1s (ZU hl4 hm4)) rfl (ld rfl rfl (lhI t ZV rfl rfl (hti.len)) rfl ?_))))
 refine ldK rfl rfl rfl (Z59 (b := true) kv t Z1g (KeyT.of Z0L Z0P) (Z1O zv3) hti.len hkv.len (fun w hs => hs.now hK.mem) false) rfl ?_
 rw [hkv.get t ht]
 refine Zp 2 rfl (Z4 ?_)
 exact rtA rfl rfl rfl ⟨rfl, rfl, rfl⟩ (fun w h => h.del b2)
theorem Zgi (b : Barn) (hok : b.ok) (ab : Option Addr) (cb bd m : Nat) (n : Nat) (hn : n ≤ 14641) (kv : KV) (hkv : KvOk b.dsk n kv) (x5 : Nat) (hfx : b.dsk.alive (n + 1) = b.dsk.alive n) (s : HSt) (hs : s ∈ b.dsk.sts) (hev : ∀ m, s ∈ b.dsk.alive m) (H : Zg) (R : Z6) [hD : MemRows (some ⟨bd, 0, none⟩) 18 [dcs b (b.sl ab cb) b.lasts b.most m] R] [hX : MemRows (some ⟨x5, 0, none⟩) 1 [[.pointer (some ⟨bd, 0, none⟩)]] R] [hK : MemF (KpF m kv) R] :
    Fn Tryz.prog 25 [.pointer (some ⟨bd, 0, none⟩), stv s, .agg #[.func (.func 26) #[] #[.pointer (some ⟨x5, 0, none⟩)]]] H R (fun v H' R' => ∃ (l : List Nat) (t : HSt) (a : Option Addr) (c : Nat), l ∈ b.dsk.trs true ∧ b.dsk.next s l = some t ∧ (∀ m, t ∈ b.dsk.alive m) ∧ v = .tuple #[.slice a l.length c, stv t, .bool true] ∧ H' = H ∧ R' = Z5 a 1 (Zm (il l)) :: R) := by
 refine Z5C Tryz.func25 rfl Tryz.ntmps25 rfl ?_
 refine sqt 6 rfl (bx rfl rfl rfl (fun b3 => bx rfl rfl rfl (fun b4 => bx rfl rfl rfl (fun b5 => alc rfl Z1K rfl (fun b6 => alc rfl Z1G rfl (fun b7 => alc rfl zl4 rfl (fun b8 => Z0 (sqt 2 rfl (spL rfl rfl (lh Z0U rfl rfl) rfl ?_)))))))))
 refine cl rfl Z8o rfl rfl (Z1j bd true _ _) ?_
 rintro _ _ _ ⟨xb, xf, rfl, rfl, rfl⟩
 have hdk := b.dsk_ok hok
 have hsi := (b.dsk.mem_sts hdk s).1 hs
 have hsm := b.dsk.inS_sml hdk hsi
 have hl4 := hdk.lasts.len
 have hm4 := hdk.most.len
 refine Z3 ?_
 refine Z1x rfl Z8s (fun c0 bl0 bd0 hcp0 hca0 hcb0 hck0 => ?_)
 refine ⟨fun st pend T R' => (st = .ready ∧ pend = none ∧ (b.dsk.trs true).any (b.dsk.goodL n s) = false ∧ T = (bd0, .deferred (some [])) :: (b8, cel 4 [.bool false]) :: (b7, cel 54 [.int .i64 0, .int .i64 0, .int .i64 0, .int .i64 0]) :: (b6, cel 22 [.slice none 0 0]) :: (b5, cel 79 [.func (.func 26) #[] #[.pointer (some ⟨x5, 0, none⟩)]]) :: (b4, cel 54 (ZI s)) :: (b3, cel 50 [.pointer (some ⟨bd, 0, none⟩)]) :: H ∧ R' = Z5 (some ⟨xf, 0, none⟩) 1 [[.bool true]] :: Z5 (some ⟨xb, 0, none⟩) 1 [[.pointer (some ⟨bd, 0, none⟩)]] :: R) ∨
     (st = .done ∧ pend = some .ret ∧ ∃ (l : List Nat) (t : HSt) (a : Option Addr) (c : Nat), l ∈ b.dsk.trs true ∧ b.dsk.next s l = some t ∧ (∀ m, t ∈ b.dsk.alive m) ∧ T = (bd0, .deferred (some [])) :: (b8, cel 4 [.bool true]) :: (b7, cel 54 (ZI t)) :: (b6, cel 22 [.slice a l.length c]) :: (b5, cel 79 [.func (.func 26) #[] #[.pointer (some ⟨x5, 0, none⟩)]]) :: (b4, cel 54 (ZI s)) :: (b3, cel 50 [.pointer (some ⟨bd, 0, none⟩)]) :: H ∧ R' = Z5 a 1 (Zm (il l)) :: Z5 (some ⟨xf, 0, none⟩) 1 [[.bool true]] :: Z5 (some ⟨xb, 0, none⟩) 1 [[.pointer (some ⟨bd, 0, none⟩)]] :: R),
   Fn.mono (Z10 b hok ab cb bd m true xb xf bl0 (fun k H' R' => (∀ i l, i < k → (b.dsk.trs true)[i]? = some l → b.dsk.goodL n s l = false) ∧ H' = (bl0, lob c0 .ready none) :: (bd0, .deferred (some [])) :: (b8, cel 4 [.bool false]) :: (b7, cel 54 [.int .i64 0, .int .i64 0, .int .i64 0, .int .i64 0]) :: (b6, cel 22 [.slice none 0 0]) :: (b5, cel 79 [.func (.func 26) #[] #[.pointer (some ⟨x5, 0, none⟩)]]) :: (b4, cel 54 (ZI s)) :: (b3, cel 50 [.pointer (some ⟨bd, 0, none⟩)]) :: H ∧ R' = Z5 (some ⟨xf, 0, none⟩) 1 [[.bool true]] :: Z5 (some ⟨xb, 0, none⟩) 1 [[.pointer (some ⟨bd, 0, none⟩)]] :: R)
     (fun H' R' => ∃ (l : List Nat) (t : HSt) (a : Option Addr) (c : Nat), l ∈ b.dsk.trs true ∧ b.dsk.next s l = some t ∧ (∀ m, t ∈ b.dsk.alive m) ∧ H' = (bl0, lob c0 .done (some .ret)) :: (bd0, .deferred (some [])) :: (b8, cel 4 [.bool true]) :: (b7, cel 54 (ZI t)) :: (b6, cel 22 [.slice a l.length c]) :: (b5, cel 79 [.func (.func 26) #[] #[.pointer (some ⟨x5, 0, none⟩)]]) :: (b4, cel 54 (ZI s)) :: (b3, cel 50 [.pointer (some ⟨bd, 0, none⟩)]) :: H ∧ R' = Z5 a 1 (Zm (il l)) :: Z5 (some ⟨xf, 0, none⟩) 1 [[.bool true]] :: Z5 (some ⟨xb, 0, none⟩) 1 [[.pointer (some ⟨bd, 0, none⟩)]] :: R)
     (fun k H' R' h => by obtain ⟨_, _, rfl⟩ := h; exact ⟨by simp, by simp, List.mem_cons_of_mem _ (List.mem_cons_of_mem _ hD.mem)⟩) (fun k l a c H' R' hk hI => ?_) _ _ ⟨fun _ _ h => absurd h (Nat.not_lt_zero _), rfl, rfl⟩) (fun v H' R' h => ?_), ?_⟩
 rotate_left
 · rcases h with ⟨hn, rfl, rfl⟩ | ⟨l, t, a, c, h1, h2, h3, rfl, rfl⟩
   · exact ⟨.ready, none, _, by simp, .refl _, .inl ⟨rfl, rfl, ZbE hn, rfl, rfl⟩⟩
   · exact ⟨.done, some .ret, _, by simp, .refl _, .inr ⟨rfl, rfl, l, t, a, c, h1, h2, h3, rfl, rfl⟩⟩
 rotate_left
 have hlm := List.mem_of_getElem? hk
 have hlt := b.dsk.trs_lt hlm
 have hll : l.length ≤ 1000000 := by have := Z4n hdk hlm; omega
 obtain ⟨hno, rfl, rfl⟩ := hI
 refine Z5h hcp0 hca0 hcb0 hck0 rfl ?_
 refine sqr 1 rfl (pur 1 rfl ?_)
 refine Z05 ?_
 refine Z3 (sqt 10 rfl (spL rfl rfl (lh Z0U rfl rfl) rfl (spL rfl rfl (lhI s ZV rfl rfl (hsi.len)) rfl (pur 1 rfl ?_))))
 refine cl rfl Z8k rfl rfl (Z4O b hok ab cb bd m s hsm l hlt hll a c _ _) ?_
 rintro _ _ _ ⟨rfl, rfl, rfl⟩
 rcases hnx : b.dsk.next s l with _ | t
 refine pur 3 rfl (alc rfl Z1G rfl (fun b10 => ?_))
 first | (refine Z1I rfl rfl rfl Z1e rfl rfl rfl (Zu _) ?_) | (refine Z1I rfl rfl rfl Z1e rfl (by rw [Z8]; exact hts.len) rfl (Zu _) ?_)
 refine pur 1 rfl (sqt 7 rfl ?_)
 have hno2 : b.dsk.goodL n s l = false := by simp only [Dsk.goodL, hnx]
 refine pur 7 rfl ?_
 refine ZG rfl ?_
 refine Z1 ?_
 exact ZF (.inl ⟨rfl, Z3W hk hno hno2, rfl, rfl⟩) (fun _ h => (h.del b10).ftail)
 refine pur 2 rfl ?_
 have hts := b.dsk.next_inS hdk hsi hlt hnx
 have htm := (b.dsk.mem_sts hdk t).2 hts
 refine pur 1 rfl (alc rfl Z1G rfl (fun b10 => ?_))
 first | (refine Z1I rfl rfl rfl Z1e rfl rfl rfl (Zu _) ?_) | (refine Z1I rfl rfl rfl Z1e rfl (by rw [Z8]; exact hts.len) rfl (Zu _) ?_)
 refine pur 1 rfl (sqt 7 rfl (pur 2 rfl ?_))
 refine spG rfl rfl rfl rfl (PE.fA ZfY rfl) rfl ?_
 refine Z0o rfl rfl rfl rfl rfl (lh Zi2 rfl rfl) rfl (Z0o rfl rfl rfl rfl rfl (lhI t ZV rfl rfl (hts.len)) rfl ?_)
 refine Ze4 rfl rfl rfl rfl rfl (Zhs) rfl rfl (Zcc b hok ab cb bd m n hn kv hkv x5 t htm _ _) ?_
 refine pur 1 rfl ?_
 refine Z2 rfl ?_ ?_ <;> intro hc0 <;> try simp only [cS] at hc0
 have hgo : ∀ m, t ∈ b.dsk.alive m := Zav htm hn hfx hc0
 refine Z0 ?_
 refine Zi [0, 0, 1, 7, 15] (.tk 0 (.ld 1 (.big 2 (.big 3 (.big 4 .done))))) ZH (by kernel_rfl) ?_
 refine Zp 1 rfl (ld rfl rfl (lhI t ZV rfl rfl (hts.len)) rfl ?_)
 refine sto rfl rfl rfl Zgu rfl rfl rfl rfl ?_
 refine bg (fun w hs => ⟨(lhI t ZV rfl rfl (hts.len)) w hs, trivial⟩) ?_
 refine Z1I rfl rfl rfl Z1e rfl (by rw [Z8]; exact hts.len) rfl (Zu _) ?_
 refine bgT ?_
 refine sto rfl rfl rfl cn4 rfl rfl rfl rfl ?_
 refine bgT (Z4 ?_)
 exact Z30 (.inr ⟨rfl, l, t, a, c, hlm, hnx, hgo, rfl, rfl⟩) (fun _ h => h.del b10)
 have hno2 : b.dsk.goodL n s l = false := by simp only [Dsk.goodL, hnx]; exact dF hc0
 refine Z1 ?_
 exact ZF (.inl ⟨rfl, Z3W hk hno hno2, rfl, rfl⟩) (fun _ h => (h.del b10).ftail)
 rintro _ _ _ _ (⟨rfl, rfl, hh, rfl, rfl⟩ | ⟨rfl, rfl, l, t, a, c, hlm, hnx, hgo, rfl, rfl⟩)
 refine Z5k ?_
 refine Z0 ?_
 exfalso
 rw [ZcO hdk hsi hn hfx hev] at hh
 cases hh
 refine ZeS ?_
 refine Z4 ?_
 have hts := b.dsk.next_inS hdk hsi (b.dsk.trs_lt hlm) hnx
 exact ZY [bd0] idH rfl (.cons (RV.cell rfl (lh Z2g rfl rfl)) (.cons (RV.cell rfl (lhI t ZV rfl rfl (hts.len))) (.cons (RV.cell rfl (lh sc4 rfl rfl)) .nil))) rfl ⟨l, t, a, c, hlm, hnx, hgo, rfl, rfl, rfl⟩ (fun w h => ((((((h.del b8).del b7).del b6).del b5).del b4).del b3).facts (fun g hg => by rcases List.mem_cons.1 hg with hg | hg <;> simp [hg]))
def Zee (b : Barn) (H : Zg) (R : Z6) : Value → Zg → Z6 → Prop := fun v H' R' => H' = H ∧
  ((b.check ≠ 0 ∧ v = .tuple #[.slice none 0 0, .slice none 0 0, .int .i64 b.check] ∧ R' = R) ∨
   (b.check = 0 ∧ (∃ w, w ≠ 1000000 ∧ Kpt b.dsk b.state w) ∧ v = .tuple #[.slice none 0 0, .slice none 0 0, .int .i64 6] ∧ R' = R) ∨
   (b.check = 0 ∧ Kpt b.dsk b.state 1000000 ∧ ∃ (p q : List (List Nat)) (pl ql : List PL) (ap aq : Option Addr) (cp cq : Nat), RndOk b p q ∧ lls pl = p.map il ∧ lls ql = q.map il ∧ ql.length ≤ cq ∧ v = .tuple #[.slice ap pl.length cp, .slice aq ql.length cq, .int .i64 0] ∧
      R' = Z5 ap 1 (Z9 pl) :: Inn pl :: Z5 aq 1 (Z9 ql) :: Inn ql :: R))
theorem Z8P (b : Barn) (ab : Option Addr) (cb : Nat) (hl : b.bins.length ≤ 9223372036854775807) (hr : b.rise.length = 6) (H : Zg) (R : Z6) [hB : MemRows ab 4 (Z7 b.bins) R] :
    Fn Tryz.prog 8 [b.v (b.sl ab cb)] H R (Zee b H R) := by
 refine Zy Tryz.func8 rfl Tryz.ntmps8 rfl ?_
 refine sqt 4 rfl (bx rfl rfl rfl (fun b1 => pur 3 rfl (sqt 8 rfl (spL rfl rfl (lhA (btl b (b.sl ab cb)) ZD rfl rfl rfl) rfl ?_))))
 refine cl rfl Z9V rfl rfl (Z2H b ab cb hl hr _ _) ?_
 rintro _ _ _ (⟨hck, rfl, rfl, rfl⟩ | ⟨hck, bd, m, rfl, rfl, rfl⟩)
 refine pur 3 rfl (alc rfl Zf9 rfl (fun b5 => ?_))
 refine sto rfl rfl rfl Zf7 rfl rfl rfl rfl ?_
 refine pur 1 rfl (Z0 (sqt 2 rfl (pur 2 rfl ?_)))
 refine Zq (congrArg (fun b => some (Value.bool b)) (dT hck)) ?_
 refine sqt 4 rfl (pur 4 rfl (Z4 ?_))
 exact rtC rfl rfl rfl rfl rfl ⟨rfl, .inl ⟨hck, rfl, rfl⟩⟩ drp
 have hok := Barn.ok_of hr hck
 have hdk := b.dsk_ok hok
 have hl4 := hdk.lasts.len
 have hm4 := hdk.most.len
 refine pur 3 rfl (alc rfl Zf9 rfl (fun b5 => ?_))
 refine sto rfl rfl rfl Zf7 rfl rfl rfl rfl ?_
 refine pur 1 rfl (Z0 (sqt 2 rfl (pur 2 rfl ?_)))
 refine ZG (rfl) ?_
 refine Z1 (sqt 2 rfl (spL rfl rfl (lh Z0U rfl rfl) rfl ?_))
 refine Z32 m ?_
 refine cl rfl Zc1 rfl rfl (Z8R b hok ab cb bd m _ _) ?_
 rintro v _ _ ⟨n, kv, hn, hfx, hkv, rfl, rfl⟩
 have hst := b.state_sts hok
 have hsi := b.state_inS hok
 have hks := Z1r hst hn hfx
 have hkg := hkv.get _ hst
 refine sqt 4 rfl (spL rfl rfl (lhA (btl b (b.sl ab cb)) ZD rfl rfl rfl) rfl ?_)
 refine clV rfl Z63 rfl rfl (Z2b b ab cb hok _ _) ?_
 refine alc rfl Z1G rfl (fun b6 => ?_)
 refine Z1I rfl rfl rfl Z1e rfl (by rw [Z8]; exact hsi.len) rfl (Zu _) ?_
 refine Z0 (Z0 ?_)
 refine Zi [0, 1, 3, 7, 0, 31, 63] (.ld 0 (.tk 1 (.tk 2 (.ld 3 (.ld 4 (.ld 5 (.tk 6 .done))))))) ZH (by kernel_rfl) ?_
 refine ld rfl rfl (lh Z0U rfl rfl) rfl (tk rfl (PE.nilCheck rfl) rfl (tk rfl (PE.fA Z16 rfl) rfl (ld rfl rfl (lfB (sz := 18) Z1s (ZU hl4 hm4)) rfl (ld rfl rfl (lhI b.state ZV rfl rfl (hsi.len)) rfl ?_))))
 refine ldK rfl rfl rfl ((Z23 (b := true) kv b.state Z1g (KeyT.of Z0L Z0P) (Z1O zv3) (b.state_sml hok).len hkv.len false)) rfl ?_
 rw [hkg]
 refine Zp 1 rfl ?_
 refine Z2 rfl ?_ ?_ <;> intro hc1 <;> try simp only [cS] at hc1
 refine sqt 3 rfl (pur 3 rfl (Z4 ?_))
 exact rtC rfl rfl rfl rfl rfl ⟨rfl, .inr (.inl ⟨hck, ⟨_, hc1, hks⟩, rfl, rfl⟩)⟩ (fun w h => ((((h.del b6).del m).del b5).del b1).ftail)
 have hev := Zav hst hn hfx (by omega)
 refine Sy.heap (fun w h => St.rows (sz := 1) (rows := [[.pointer (some ⟨bd, 0, none⟩)]]) (rest := []) (h.pull b5) (by simp)) ?_
 refine Sy.heap (fun w h => St.kpf (h.pull m)) ?_
 refine Z1 (sqt 2 rfl ?_)
 refine mkm rfl rfl true (fun m33 => ?_)
 refine pur 1 rfl (sqt 1 rfl (pur 1 rfl (Z3 ?_)))
 refine Zj (ι := (y : {y : List HSt × List PL × HSt // ∃ p, lls y.2.1 = p.map il ∧ Met b.dsk b.state y.1 p y.2.2}) × OSl 22 1 (Z9 y.1.2.1)) (fun y => ⟨[(5, .pointer (some ⟨b5, 0, none⟩)), (6, .pointer (some ⟨b6, 0, none⟩)), (7, .map (some m33)), (8, y.2.fs)], (b6, cel 54 (ZI y.1.1.2.2)) :: (m33, Z0g true (kvI 0 y.1.1.1)) :: (y.2.G ++ (b1, cel 27 (btl b (b.sl ab cb))) :: H), Inn y.1.1.2.1 :: KpF m kv :: Z5 (some ⟨b5, 0, none⟩) 1 [[.pointer (some ⟨bd, 0, none⟩)]] :: Z5 (some ⟨bd, 0, none⟩) 18 [dcs b (b.sl ab cb) b.lasts b.most m] :: R⟩) (fun y => b.dsk.nst + 1 - y.1.1.1.length) ⟨⟨([], [], b.state), [], rfl, Met.start hsi hev⟩, OSl.nil _ _⟩ ?_ (fun y => ?_)
 exact Zr (fun w h => (St.inn0 (h.pull b6)).facts SubF.sub)
 obtain ⟨⟨⟨S, pl, s⟩, p, hlp, hmet⟩, o⟩ := y
 dsimp only at hlp hmet o ⊢
 have hs4 := hmet.inS.len
 have hsS := (b.dsk.mem_sts hdk s).2 hmet.inS
 have hfew := hmet.few hdk
 have hn14 := (b.dsk.nst_le hdk).2
 have hSl := hmet.len
 have hpll : pl.length = p.length := by have := congrArg List.length hlp; rw [Zo, List.length_map] at this; exact this
 have hkl : ∀ e ∈ kvI 0 S, e.1.length = 4 := ZbF fun t ht => by obtain ⟨j, hj⟩ := List.getElem?_of_mem ht; exact (hmet.at_ j t hj).2.len
 obtain ⟨go, hgo⟩ : ∃ go, (kvI 0 S).get s = go := ⟨_, rfl⟩
 refine Z3 (Z0 (sqt 8 rfl (pur 1 rfl (spL rfl rfl (lhI s ZV rfl rfl (hs4)) rfl ?_))))
 refine spK rfl rfl rfl (Z23 (b := true) (kvI 0 S) s Z1g (KeyT.of Z0L Z0P) (Z1O zv3) hs4 hkl true) rfl ?_
 rw [hgo]
 refine pur 5 rfl (sqt 1 rfl (pur 1 rfl ?_))
 refine Z2 rfl ?_ ?_ <;> intro hc2
 obtain ⟨gv, rfl⟩ : ∃ gv, go = some gv := by cases go with
   | none => cases hc2
   | some gv => exact ⟨gv, rfl⟩
 obtain ⟨j, hj, rfl⟩ := Zb7 hgo
 have hjl := (List.getElem?_eq_some_iff.1 hj).1
 have hdone := hmet.done hok hj
 obtain ⟨br, cr, jr, hrf, hrG, hrj, hrc, hrx⟩ := o.is.resolve_left (fun h => by have := congrArg List.length h.1; rw [Zt] at this; simp only [List.length_nil] at this; omega)
 rw [Zt] at hrf hrj hrc
 rw [hrf]
 refine Sy.heap (H' := (b6, cel 54 (ZI s)) :: (m33, Z0g true (kvI 0 S)) :: (b1, cel 27 (btl b (b.sl ab cb))) :: H) (fun w h => St.blkRows (Z0Z pl) ((show St ((b6, cel 54 (ZI s)) :: (m33, Z0g true (kvI 0 S)) :: (br, cel 22 ((Z9 pl).flatten ++ jr)) :: (b1, cel 27 (btl b (b.sl ab cb))) :: H) _ w from (by rw [hrG] at h; exact h)).pull br)) ?_
 rw [Nat.zero_add]
 refine Z0 ?_
 refine Zi [0, 0, 0, 7, 0, 0, 48, 15, 255, 511] (tks 0 10 .done) ZH (by kernel_rfl) ?_
 refine Zp 3 rfl (tk rfl (PE.slHM (h := j) (mx := j) Z6I rfl rfl rfl (Nat.le_refl _) (by omega)) rfl (Zp 2 rfl (tk rfl (PE.slLoA (l := j) Z6I rfl rfl (by omega)) rfl (Zp 3 rfl (Z4 ?_)))))
 refine Sy.heap (fun w h => (((h.rowsDrop (b := br) (off := 0) (sz := 1) (rows := Z9 pl) j).rowsTake (a := some ⟨br, 0, none⟩) (sz := 1) (rows := Z9 pl) j).innPart (l := pl) (pl.take j) (fun x hx => List.mem_of_mem_take hx)).innPart (l := pl) (pl.drop j) (fun x hx => List.mem_of_mem_drop hx)) ?_
 have e1 : (pl.take j).length = j := by rw [List.length_take]; omega
 have e2 : (pl.drop j).length = pl.length - j := List.length_drop
 exact rtC rfl rfl rfl rfl rfl ⟨rfl, .inr (.inr ⟨hck, .inl ⟨rfl, hev⟩, p.take j, p.drop j, pl.take j, pl.drop j, some ⟨br, 0, none⟩, some ⟨br, 0 + j * 1, none⟩, j, cr - j, hdone, by unfold lls at hlp ⊢; rw [List.map_take, hlp, List.map_take], by unfold lls at hlp ⊢; rw [List.map_drop, hlp, List.map_drop], by rw [e2]; omega, by rw [e1, e2, if_neg (by omega)]; simp only [Option.map_some, Z0p]; rfl, rfl⟩)⟩ (fun w h => (((h.del b6).del m33).del b1).facts (fun g hg => by simp only [List.mem_cons] at hg; rcases hg with hg | hg | hg | hg | hg <;> simp [hg, Z9, List.map_take, List.map_drop]))
 obtain rfl : go = none := by cases go with
   | none => rfl
   | some gv => cases hc2
 have hsn := Zdl hgo
 obtain ⟨a9, c9, he9, _⟩ := o.freeze
 refine Z1 (sqt 5 rfl (pur 1 rfl (spL rfl rfl (lhI s ZV rfl rfl (hs4)) rfl (pur 1 rfl (sp rfl (PE.lenSl Z0E (show _ = some (Value.slice a9 (Z9 pl).length c9) from congrArg some he9)) rfl ?_)))))
 rw [show (Z9 pl).length = 0 + S.length by rw [Zt]; omega]
 refine mpu (kvI 0 S) s rfl Z1g (KeyT.of Z0L Z0P) rfl rfl rfl hs4 hkl ?_
 rw [Zbi hsn]
 refine sqt 13 rfl (spL rfl rfl (lfB (sz := 1) Z0U rfl) rfl (spL rfl rfl (lhI s ZV rfl rfl (hs4)) rfl (sp rfl (PE.makeFunc rfl rfl) rfl (sp rfl (PE.build (out := [_]) ZhZ ZhN rfl rfl) rfl ?_))))
 refine cl rfl Zh7 rfl rfl (Zgi b hok ab cb bd m n hn kv hkv b5 hfx s hsS hmet.ever _ _) ?_
 rintro _ _ R1 ⟨l, t, al, cl, hlm, hnx, hgo2, rfl, rfl, hR1⟩
 obtain rfl := hR1.symm
 clear hR1
 have hti := b.dsk.next_inS hdk hmet.inS (b.dsk.trs_lt hlm) hnx
 have hnm := hmet.next hdk hsn hlm hnx hgo2
 refine pur 4 rfl (alc rfl Z1G rfl (fun b12 => pur 1 rfl ?_))
 refine Z1I rfl rfl rfl Z1e rfl (by rw [Z8]; exact hti.len) rfl (Zu _) ?_
 refine pur 1 rfl ?_
 refine Zi [0, 0, 2, 7, 0, 15, 63] (.tk 0 (.tk 1 (.ld 4 (.big 2 (.big 3 (.tk 5 (.big 6 .done))))))) ZH (by kernel_rfl) ?_
 refine Zp 2 rfl (ld rfl rfl (lhI t ZV rfl rfl (hti.len)) rfl ?_)
 refine bsl (out := [_]) rfl Z6I Z1K rfl rfl rfl rfl rfl rfl (fun b63 => ?_)
 refine bg (fun w hs => ⟨(lhI t ZV rfl rfl (hti.len)) w hs, trivial⟩) ?_
 refine apO (o) rfl Z2A rfl rfl (Z0W (row := [.slice al l.length cl]) rfl) rfl rfl ((by rw [Zt]; simp only [List.length_singleton]; omega)) rfl (fun o64 => ?_)
 refine bg (fun w hs => ⟨(lhI t ZV rfl rfl (hti.len)) w hs, trivial⟩) ?_
 refine Zp 1 rfl ?_
 refine Z1I rfl rfl rfl Z1e rfl (by rw [Z8]; exact hti.len) (by rw [Z8]; exact hs4) (Zu _) ?_
 refine bgT ?_
 have hll := Z5A l
 exact Ze ⟨⟨(S ++ [s], pl ++ [⟨al, cl, il l⟩], t), p ++ [l], by rw [Z1v, hlp, List.map_append]; rfl, hnm⟩, o64.cast (by rw [Z0t]; show _ = Z9 pl ++ [[Value.slice al (il l).length cl]]; rw [hll])⟩ (by dsimp only; rw [List.length_append, List.length_singleton]; omega) (fun w h => (St.innSnoc (a := al) (c := cl) (l0 := il l) (l := pl) ((h.del b12).del b63)).facts SubF.sub)
theorem ZeW (b : Barn) (ab : Option Addr) (cb : Nat) (hl : b.bins.length ≤ 9223372036854775807) (hr : b.rise.length = 6) (H : Zg) (R : Z6) [hB : MemRows ab 4 (Z7 b.bins) R] : Fn Tryz.prog 8 [b.v (b.sl ab cb)] H R (Zfe b H R) :=
  Fn.mono (Z8P b ab cb hl hr H R) fun v H' R' hq => by
    obtain ⟨h0, h1 | h1 | ⟨h1, h2, p, q, pl, ql, ap, aq, cp, cq, h3, h4, h5, _, h6, h7⟩⟩ := hq
    · exact ⟨h0, .inl h1⟩
    · exact ⟨h0, .inr (.inl h1)⟩
    · exact ⟨h0, .inr (.inr ⟨h1, h2, p, q, pl, ql, ap, aq, cp, cq, h3, h4, h5, h6, h7⟩)⟩
theorem ZfG : cal Tryz.prog 35 = true := by kernel_rfl
theorem ZhI : cal Tryz.prog 8 = true := by kernel_rfl
theorem Zbj (l : List PL) : Z0X (Z9 l) = true := by
  unfold Z0X
  rw [List.all_eq_true]
  intro r hr
  obtain ⟨x, _, rfl⟩ := List.mem_map.1 hr
  rfl
theorem St.innApp {l k : List PL} {H : Zg} {R : Z6} {w : World} [m1 : MemF (Inn l) R] [m2 : MemF (Inn k) R] (h : St H R w) : St H (Inn (l ++ k) :: R) w :=
  h.also fun _ hw x hx => by
    rcases List.mem_append.1 hx with hx | hx
    · exact hw _ m1.mem x hx
    · exact hw _ m2.mem x hx
theorem Zeb (l k : List PL) : lls (l ++ k) = lls l ++ lls k := by simp [lls]
theorem brn_iff {b : Barn} {p : List (List Int)} : (Z5b b p).2.2 = false ↔ (b.burnsF b.warms p 0).1 = none := by
  rcases Z3A b p with ⟨ws, h1, h2⟩ | ⟨d, k, ws, h1, h2⟩ <;> rw [h1, h2] <;> simp
theorem ZbR {b : Barn} (hb : b.ok) {p q : List (List Int)} (hq : q ≠ []) (h : ∀ k, 1 ≤ k → k ≤ 12 → (b.burnsF b.warms (p ++ rep k q) 0).1 = none) : b.goes p q :=
  ZcY hb hq fun n hn => by
    rcases Nat.eq_zero_or_pos n with rfl | h0
    · have h1 := h 1 (by omega) (by omega)
      rw [Z3q, ← List.append_assoc] at h1
      exact Z7x h1
    · exact h n h0 hn
theorem Z6l {b : Barn} (hok : b.ok) {pl : List PL} {p : List (List Nat)} (h : lls pl = p.map il) (ht : ∀ l ∈ p, l ∈ b.dsk.trs false) : ∀ x ∈ pl, x.l.length ≤ 4 := fun x hx => by
  have h1 : x.l ∈ lls pl := List.mem_map.2 ⟨x, hx, rfl⟩
  rw [h] at h1
  obtain ⟨l, hl, e⟩ := List.mem_map.1 h1
  have := b.dsk.trs_four (b.dsk_ok hok) (ht l hl)
  rw [← e, Z5A]; exact this
structure RndLaw (b : Barn) (pl ql : List PL) : Prop where
  len : pl.length + ql.length ≤ 14641
  ne : ql.length ≠ 0
  four : ∀ x ∈ pl ++ ql, x.l.length ≤ 4
  p : ZX b.bins.length b.gangs (lls pl) = 0
  q : ZX b.bins.length b.gangs (lls ql) = 0
  goes : b.goes (lls pl) (lls ql)
theorem RndOk.law {b : Barn} (hok : b.ok) {p q : List (List Nat)} (h : RndOk b p q) {pl ql : List PL} (h1 : lls pl = p.map il) (h2 : lls ql = q.map il) : RndLaw b pl ql := by
  have e1 : pl.length = p.length := by have := congrArg List.length h1; rwa [Zo, List.length_map] at this
  have e2 : ql.length = q.length := by have := congrArg List.length h2; rwa [Zo, List.length_map] at this
  have hl := h.len
  have tp : ∀ l ∈ p, l ∈ b.dsk.trs false := fun l hl => b.dsk.trs_sub (h.hp l hl)
  have tq : ∀ l ∈ q, l ∈ b.dsk.trs false := fun l hl => b.dsk.trs_sub (h.hq l hl)
  refine ⟨by omega, fun e => h.ne (List.length_eq_zero_iff.1 (by omega)), fun x hx => ?_, ?_, ?_, ?_⟩
  · rcases List.mem_append.1 hx with hx | hx
    · exact Z6l hok h1 tp x hx
    · exact Z6l hok h2 tq x hx
  · rw [h1]; exact Z37 (d := b.dsk) (by omega) tp
  · rw [h2]; exact Z37 (d := b.dsk) (by omega) tq
  · rw [h1, h2]; exact h.goes hok
structure RWant (b : Barn) (p q : List (List Int)) (w u : Int) (g : Bool) : Prop where
  u : u = Z0d b p q
  g : g = true ↔ Z0d b p q = 0 ∧ b.goes p q
  w : (b.check ≠ 0 ∧ w = b.check) ∨ (b.check = 0 ∧ w = 0 ∧ Kpt b.dsk b.state 1000000) ∨ (b.check = 0 ∧ w = 6 ∧ ∃ v, v ≠ 1000000 ∧ Kpt b.dsk b.state v)
theorem RWant.w1 {b : Barn} {p q : List (List Int)} {w u : Int} {g : Bool} (h : RWant b p q w u g) (hc : b.check ≠ 0) : w = b.check := by
  rcases h.w with ⟨_, h2⟩ | ⟨h1, _⟩ | ⟨h1, _⟩
  · exact h2
  · exact absurd h1 hc
  · exact absurd h1 hc
theorem RWant.w2 {b : Barn} {p q : List (List Int)} {w u : Int} {g : Bool} (h : RWant b p q w u g) (hc : b.check = 0) (hk : ∃ v, v ≠ 1000000 ∧ Kpt b.dsk b.state v) : w = 6 := by
  obtain ⟨v, hv, hk⟩ := hk
  rcases h.w with ⟨h1, _⟩ | ⟨_, _, h2⟩ | ⟨_, h2, _⟩
  · exact absurd hc h1
  · exact absurd (Z08 hk h2) hv
  · exact h2
theorem RWant.w3 {b : Barn} {p q : List (List Int)} {w u : Int} {g : Bool} (h : RWant b p q w u g) (hc : b.check = 0) (hk : Kpt b.dsk b.state 1000000) : w = 0 := by
  rcases h.w with ⟨h1, _⟩ | ⟨_, h2, _⟩ | ⟨_, _, v, hv, h3⟩
  · exact absurd hc h1
  · exact h2
  · exact absurd (Z08 h3 hk) hv
theorem RWant.val {b : Barn} {p q : List (List Int)} {w u : Int} {g : Bool} (h : RWant b p q w u g) {v : Value} (hv : ZfL b p q v) : v = .tuple #[.bool g, .int .i64 u] := by
  rcases hv with ⟨h1, rfl⟩ | ⟨h1, is, h2, rfl⟩
  · have e : g = false := by
      cases hg : g with
      | false => rfl
      | true => exact absurd (h.g.1 hg).1 h1
    rw [e, h.u]
  · have e : is = g := by
      rw [Bool.eq_iff_iff, h2, h.g]
      exact ⟨fun h3 => ⟨h1, h3⟩, fun h3 => h3.2⟩
    rw [e, h.u, h1]
theorem Z3Y {x y : List PL} (e : lls x = lls y) (h : ∀ z ∈ y, z.l.length ≤ 9223372036854775807) : ∀ z ∈ x, z.l.length ≤ 9223372036854775807 := fun z hz => by
  have h1 : z.l ∈ lls x := List.mem_map.2 ⟨z, hz, rfl⟩
  rw [e] at h1
  obtain ⟨z', hz', e'⟩ := List.mem_map.1 h1
  rw [← e']; exact h z' hz'
theorem Zby (b : Barn) (ab : Option Addr) (cb : Nat) (hok : b.ok) (pl : List PL) (ap : Option Addr) (cp : Nat) (hpl : pl.length ≤ 9223372036854775807) (hpi : ∀ x ∈ pl, x.l.length ≤ 9223372036854775807) (ql : List PL) (aq : Option Addr) (cq : Nat) (hql : ql.length ≤ 9223372036854775807) (hqi : ∀ x ∈ ql, x.l.length ≤ 9223372036854775807) (hlen : pl.length + 12 * ql.length ≤ 1000000) (hne : ql.length ≠ 0) (H : Zg) (R : Z6) [hB : MemRows ab 4 (Z7 b.bins) R] [hP : MemRows ap 1 (Z9 pl) R] [hI : MemF (Inn pl) R] [hQ : MemRows aq 1 (Z9 ql) R] [hJ : MemF (Inn ql) R] :
    Fn Tryz.prog 35 [b.v (b.sl ab cb), .slice ap pl.length cp, .slice aq ql.length cq] H R (fun v H' R' => (∃ g : Bool, (g = true ↔ b.goes (lls pl) (lls ql)) ∧ v = .bool g) ∧ H' = H ∧ R' = R) := by
 refine Zy Tryz.func35 rfl Tryz.ntmps35 rfl ?_
 refine sqt 2 rfl (bx rfl rfl rfl (fun b3 => pur 1 rfl (sqt 4 rfl ?_)))
 refine ZgB rfl Z6I rfl (fun o12 ho12 => ?_)
 refine pur 1 rfl ?_
 refine apO o12 rfl Z2A rfl rfl (Zao (a := ap) (sz := 1) (rows := Z9 pl)) (Zt pl) (Zbj pl) (by rw [Zt]; simp only [List.length_nil]; omega) rfl (fun o14 => ?_)
 refine pur 1 rfl (Z0 (sqt 1 rfl (pur 1 rfl (Z3 ?_))))
 refine Sy.heap (fun w h => h.facts (R' := Inn pl :: R) (fun g hg => by rcases List.mem_cons.1 hg with hg | hg <;> simp [hg, hI.mem])) ?_
 refine Zj (ι := (y : {y : Nat × List PL // y.1 ≤ 12 ∧ lls y.2 = lls pl ++ rep y.1 (lls ql) ∧ y.2.length = pl.length + y.1 * ql.length ∧ (∀ x ∈ y.2, x.l.length ≤ 9223372036854775807) ∧ ∀ k, 1 ≤ k → k ≤ y.1 → (b.burnsF b.warms (lls pl ++ rep k (lls ql)) 0).1 = none}) × OSl 22 1 (Z9 y.1.2)) (fun y => ⟨[(2, .slice aq ql.length cq), (3, .pointer (some ⟨b3, 0, none⟩)), (7, y.2.fs), (8, .int .i64 y.1.1.1)], y.2.G ++ (b3, cel 84 (btl b (b.sl ab cb))) :: H, Inn y.1.1.2 :: R⟩) (fun y => 12 - y.1.1.1) ⟨⟨(0, pl), Nat.zero_le _, (List.append_nil _).symm, by simp, hpi, fun k h1 h2 => by omega⟩, o14.cast (List.nil_append _)⟩ ?_ (fun y => ?_)
 exact Zr idH
 obtain ⟨⟨⟨n, l⟩, hn, hle, hll, hli, hno⟩, o⟩ := y
 dsimp only at hn hle hll hli hno o ⊢
 have hmul : n * ql.length ≤ 12 * ql.length := Nat.mul_le_mul_right _ hn
 refine Z0 (sqt 2 rfl (pur 2 rfl ?_))
 refine Z2 rfl ?_ ?_ <;> intro hc0 <;> try simp only [cS] at hc0
 have hmul2 : (n + 1) * ql.length ≤ 12 * ql.length := Nat.mul_le_mul_right _ (by omega)
 have hsm : (n + 1) * ql.length = n * ql.length + ql.length := Nat.succ_mul _ _
 refine Z1 (Z0 (Z3 (sqt 4 rfl (pur 2 rfl ?_))))
 refine apO o rfl Z2A rfl rfl (Zao (a := aq) (sz := 1) (rows := Z9 ql)) (Zt ql) (Zbj ql) (by rw [Zt, Zt]; omega) rfl (fun o21' => ?_)
 obtain ⟨o21, e21, g21⟩ : ∃ o21 : OSl 22 1 (Z9 (l ++ ql)), o21.fs = o21'.fs ∧ o21.G = o21'.G := ⟨o21'.cast (Z0t l ql).symm, rfl, rfl⟩
 rw [← e21]
 refine Sy.heap (fun w h => by rw [← g21] at h; exact h) ?_
 clear e21 g21
 refine Sy.heap (fun w h => St.innApp (l := l) (k := ql) h) ?_
 have hlen2 : (l ++ ql).length = pl.length + (n + 1) * ql.length := by rw [List.length_append]; omega
 have hle2 : lls (l ++ ql) = lls pl ++ rep (n + 1) (lls ql) := by rw [Zeb, hle, Z3q, List.append_assoc]
 have hli2 : ∀ x ∈ l ++ ql, x.l.length ≤ 9223372036854775807 := fun x hx => by
   rcases List.mem_append.1 hx with hx | hx
   · exact hli x hx
   · exact hqi x hx
 generalize l ++ ql = l2 at o21 hlen2 hle2 hli2 ⊢
 refine pur 1 rfl (sqt 10 rfl (spL rfl rfl (lhA (btl b (b.sl ab cb)) Z1n rfl rfl rfl) rfl (pur 1 rfl ?_)))
 refine clV rfl Zeu rfl rfl (FnV.lendO o21 (fun v => [b.v (b.sl ab cb), v]) (fun a5 c5 B => by rw [Zt]; exact Z5Z b ab cb hok l2 a5 c5 (by omega) hli2 (by omega) _ _)) ?_
 refine pur 7 rfl (sqt 1 rfl (pur 1 rfl ?_))
 refine Z2 rfl ?_ ?_ <;> intro hc1
 have hng : ¬ b.goes (lls pl) (lls ql) := fun hg => by
   have h1 := brn_iff.2 (hg (n + 1))
   rw [← hle2, hc1] at h1; cases h1
 refine sqt 1 rfl (pur 1 rfl (Z4 ?_))
 exact rtA rfl rfl rfl ⟨⟨false, ⟨fun h => (by cases h), fun h => absurd h hng⟩, rfl⟩, rfl, rfl⟩ (fun w h => ((St.drop h).del b3).facts (fun g hg => by simp [hg]))
 have hno2 : ∀ k, 1 ≤ k → k ≤ n + 1 → (b.burnsF b.warms (lls pl ++ rep k (lls ql)) 0).1 = none := fun k h1 h2 => by
   rcases Nat.lt_or_ge n k with h3 | h3
   · obtain rfl : k = n + 1 := by omega
     have h4 := brn_iff.1 hc1
     rw [hle2] at h4; exact h4
   · exact hno k h1 h3
 refine Z1 (sqr 3 rfl (pur 1 rfl (sp rfl (PE.add rfl rfl (by omega)) rfl (pur 1 rfl ?_))))
 exact Zn ⟨⟨(n + 1, l2), by dsimp only; omega, hle2, hlen2, hli2, hno2⟩, o21⟩ (fun w h => h.facts (fun g hg => by rcases List.mem_cons.1 hg with hg | hg <;> simp [hg]))
 obtain rfl : n = 12 := by omega
 have hg : b.goes (lls pl) (lls ql) := ZbR hok (fun e => hne (by have := congrArg List.length e; rwa [Zo] at this)) hno
 refine Zb (Zf (Zf (ZB (sqt 1 rfl (pur 1 rfl (Z4 ?_))))))
 exact rtA rfl rfl rfl ⟨⟨true, ⟨fun _ => hg, fun _ => rfl⟩, rfl⟩, rfl, rfl⟩ (fun w h => ((St.drop h).del b3).facts (fun g hg => by simp [hg]))
theorem Z7P (b : Barn) (ab : Option Addr) (cb : Nat) (hl : b.bins.length ≤ 9223372036854775807) (hr : b.rise.length = 6) (pl : List PL) (ap : Option Addr) (cp : Nat) (hpl : pl.length ≤ 9223372036854775807) (hpi : ∀ x ∈ pl, x.l.length ≤ 9223372036854775807) (ql : List PL) (aq : Option Addr) (cq : Nat) (hql : ql.length ≤ 9223372036854775807) (hqi : ∀ x ∈ ql, x.l.length ≤ 9223372036854775807) {w u : Int} {g : Bool} (hw : RWant b (lls pl) (lls ql) w u g) {p1 q1 : List PL} (e1 : lls p1 = lls pl) (e2 : lls q1 = lls ql) (a1 : Option Addr) (c1 : Nat) (a2 : Option Addr) (c2 : Nat) (H : Zg) (R : Z6) [hB : MemRows ab 4 (Z7 b.bins) R] [hP : MemRows a1 1 (Z9 p1) R] [hI : MemF (Inn p1) R] [hQ : MemRows a2 1 (Z9 q1) R] [hJ : MemF (Inn q1) R] :
    FnV Tryz.prog 36 [b.v (b.sl ab cb), .slice a1 p1.length c1, .slice a2 q1.length c2] H R (.tuple #[.bool g, .int .i64 u]) := by
  have k : ∀ (x y : List PL), lls x = lls y → (∀ z ∈ y, z.l.length ≤ 9223372036854775807) → ∀ z ∈ x, z.l.length ≤ 9223372036854775807 := fun x y e h z hz => by
    have h1 : z.l ∈ lls x := List.mem_map.2 ⟨z, hz, rfl⟩
    rw [e] at h1
    obtain ⟨z', hz', e'⟩ := List.mem_map.1 h1
    rw [← e']; exact h z' hz'
  have n : ∀ (x y : List PL), lls x = lls y → y.length ≤ 9223372036854775807 → x.length ≤ 9223372036854775807 := fun x y e h => by
    have := congrArg List.length e
    rw [Zo, Zo] at this; omega
  refine (ZdD b ab cb hl hr p1 a1 c1 (n _ _ e1 hpl) (k _ _ e1 hpi) q1 a2 c2 (n _ _ e2 hql) (k _ _ e2 hqi) H R).toV (fun v hq => hw.val ?_)
  rw [e1, e2] at hq; exact hq
theorem Z46 (b : Barn) (ab : Option Addr) (cb : Nat) (pl : List PL) (ap : Option Addr) (cp : Nat) (hpl : pl.length ≤ 9223372036854775807) (hpi : ∀ x ∈ pl, x.l.length ≤ 9223372036854775807) (ql : List PL) (aq : Option Addr) (cq : Nat) (hql : ql.length ≤ 9223372036854775807) (hqi : ∀ x ∈ ql, x.l.length ≤ 9223372036854775807) (hl9 : b.bins.length ≤ 4398046511104) (hr : b.rise.length = 6) (H : Zg) (R : Z6) [hB : MemRows ab 4 (Z7 b.bins) R] [hP : MemRows ap 1 (Z9 pl) R] [hI : MemF (Inn pl) R] [hQ : MemRows aq 1 (Z9 ql) R] [hJ : MemF (Inn ql) R] :
    Fn Tryz.prog 9 [b.v (b.sl ab cb), .slice ap pl.length cp, .slice aq ql.length cq] H R (fun v H' R' => v = .bool true ∧ H' = H ∧ R' = R) := by
 have hl : b.bins.length ≤ 9223372036854775807 := by omega
 refine Zy Tryz.func9 rfl Tryz.ntmps9 rfl ?_
 refine sqt 2 rfl (bx rfl rfl rfl (fun b3 => pur 1 rfl (Z0 (sqt 10 rfl (spL rfl rfl (lhA (btl b (b.sl ab cb)) ZD rfl rfl rfl) rfl ?_)))))
 refine clV rfl Zcu rfl rfl (Z98 b ab cb 80 hl9 hr _ _) ?_
 refine pur 1 rfl ?_
 refine Zh 21 rfl ?_ ?_ <;> intro g21
 refine pur 7 rfl ?_
 refine Zq rfl ?_
 refine sqt 2 rfl ?_
 refine clV rfl Z1d rfl rfl (Z02 _ _) ?_
 refine pur 1 rfl (Z4 ?_)
 exact rtA rfl rfl rfl ⟨rfl, rfl, rfl⟩ (fun w h => by first | exact (((h.del b8).del b7).del b3).facts (fun g hg => by simp [hg]) | exact h.del b3)
 have h8 : ¬ 8 < b.bins.length := by unfold Z5W at g21; rw [Bool.or_eq_false_iff] at g21; simpa using g21.1
 refine pur 1 rfl ?_
 refine Z0K rfl rfl rfl rfl ZcX rfl rfl (Z9t pl ap cp hpl hpi _ _) ?_
 refine pur 2 rfl ?_
 refine Zh 25 rfl ?_ ?_ <;> intro g25
 refine pur 3 rfl ?_
 refine Zq rfl ?_
 refine sqt 2 rfl ?_
 refine clV rfl Z1d rfl rfl (Z02 _ _) ?_
 refine pur 1 rfl (Z4 ?_)
 exact rtA rfl rfl rfl ⟨rfl, rfl, rfl⟩ (fun w h => by first | exact (((h.del b8).del b7).del b3).facts (fun g hg => by simp [hg]) | exact h.del b3)
 obtain ⟨hp24, hpe8'⟩ := Z4q g25
 rw [Zo] at hp24
 have hpe8 : ∀ x ∈ pl, x.l.length ≤ 8 := fun x hx => hpe8' x.l (List.mem_map.2 ⟨x, hx, rfl⟩)
 refine pur 1 rfl ?_
 refine Z0K rfl rfl rfl rfl ZcX rfl rfl (Z9t ql aq cq hql hqi _ _) ?_
 refine pur 1 rfl ?_
 refine Z2 rfl ?_ ?_ <;> intro hc0
 refine sqt 2 rfl ?_
 refine clV rfl Z1d rfl rfl (Z02 _ _) ?_
 refine pur 1 rfl (Z4 ?_)
 exact rtA rfl rfl rfl ⟨rfl, rfl, rfl⟩ (fun w h => by first | exact (((h.del b8).del b7).del b3).facts (fun g hg => by simp [hg]) | exact h.del b3)
 obtain ⟨hq24, hqe8'⟩ := Z4q hc0
 rw [Zo] at hq24
 have hqe8 : ∀ x ∈ ql, x.l.length ≤ 8 := fun x hx => hqe8' x.l (List.mem_map.2 ⟨x, hx, rfl⟩)
 refine Z1 (Z0 ?_)
 refine Z3F [0, 1, 0, 7, 0, 31, 0, 127, 0, 0, 1023, 2047, 4095, 8191] [0, 1, 2, 3, 4, 5, 6, 7, 8, 9, 10, 11, 12, 13] ZH (by kernel_rfl) rfl (fun s L H1 R1 => ∃ (a1 : Option Addr) (c1 : Nat) (a2 : Option Addr) (c2 : Nat) (p1 : List PL) (d1 : Option Addr) (e1 : Nat) (p2 : List PL) (d2 : Option Addr) (e2 : Nat) (b7 : Nat) (x7 : List Value) (b8 : Nat) (x8 : List Value), Sub [(1, .slice ap pl.length cp), (2, .slice aq ql.length cq), (3, .pointer (some ⟨b3, 0, none⟩))] L ∧ (∀ f ∈ (R : Z6), f ∈ R1) ∧ (s 0 = true → lk L 30 = some (b.v (b.sl ab cb))) ∧ (s 1 = true → lk L 31 = some (b.v (b.sl a1 c1)) ∧ (Z5 a1 4 (Z7 b.bins)) ∈ R1) ∧ (s 2 = true → lk L 32 = some (b.v (b.sl ab cb))) ∧ (s 3 = true → lk L 33 = some (b.v (b.sl a2 c2)) ∧ (Z5 a2 4 (Z7 b.bins)) ∈ R1) ∧ (s 4 = true → lk L 34 = some (.slice ap pl.length cp)) ∧ (s 5 = true → lk L 35 = some (.slice d1 p1.length e1) ∧ (Z5 d1 1 (Z9 p1)) ∈ R1 ∧ (Inn p1) ∈ R1 ∧ (lls p1 = lls pl)) ∧ (s 6 = true → lk L 36 = some (.slice aq ql.length cq)) ∧ (s 7 = true → lk L 37 = some (.slice d2 p2.length e2) ∧ (Z5 d2 1 (Z9 p2)) ∈ R1 ∧ (Inn p2) ∈ R1 ∧ (lls p2 = lls ql)) ∧ (s 8 = true → lk L 7 = some (.pointer (some ⟨b7, 0, none⟩)) ∧ (s 10 = false → x7 = [.int .i64 0, .int .i64 0, .int .i64 0, .int .i64 0, .int .i64 0, .int .i64 0, .int .i64 0, .int .i64 0, .slice none 0 0])) ∧ (s 9 = true → lk L 8 = some (.pointer (some ⟨b8, 0, none⟩)) ∧ (s 11 = false → x8 = [.int .i64 0, .int .i64 0, .int .i64 0, .int .i64 0, .int .i64 0, .int .i64 0, .int .i64 0, .int .i64 0, .slice none 0 0])) ∧ (s 10 = true → x7 = btl b (b.sl a1 c1)) ∧ (s 11 = true → x8 = btl b (b.sl a2 c2)) ∧ (s 12 = true → lk L 9 = some (.slice d1 p1.length e1)) ∧ (s 13 = true → lk L 10 = some (.slice d2 p2.length e2)) ∧ ∀ w, St H1 R1 w → St ((bif s 9 then [(b8, cel 84 x8)] else []) ++ ((bif s 8 then [(b7, cel 27 x7)] else []) ++ ((b3, cel 27 (btl b (b.sl ab cb))) :: H))) R1 w) ?_ ?_ ?_
 exact ⟨none, 0, none, 0, [], none, 0, [], none, 0, 0, [], 0, [], (by repeat' first | exact Sub.nil | apply Sub.cons | rfl | (simp [lk]; omega)), fun _ hf => hf, ff, ff, ff, ff, ff, ff, ff, ff, ff, ff, ff, ff, ff, ff, fun w h => h⟩
 refine ⟨?_, ?_, ?_, ?_, ?_, ?_, ?_, ?_, ?_, ?_, ?_, ?_, ?_, ?_, trivial⟩
 intro s Lz Hz Rz hdn hs hpre hI K hK
 obtain ⟨a1, c1, a2, c2, p1, d1, e1, p2, d2, e2, b7, x7, b8, x8, hL0, hR0, q0, q1, q2, q3, q4, q5, q6, q7, q8, q9, q10, q11, q12, q13, hH⟩ := hI
 refine Sy.heap hH ?_
 refine spL rfl (Sub.lk hL0 _ _ rfl) ((lhA (btl b (b.sl ab cb)) ZD rfl rfl rfl)) rfl ?_
 exact hK _ _ _ ⟨a1, c1, a2, c2, p1, d1, e1, p2, d2, e2, b7, x7, b8, x8, Zw rfl hL0, hR0, fun _ => ZJ, lm2 q1, lm1 q2, lm2 q3, lm1 q4, lm2 q5, lm1 q6, lm2 q7, lm2 q8, lm2 q9, q10, q11, lm1 q12, lm1 q13, fun w h => h⟩
 intro s Lz Hz Rz hdn hs hpre hI K hK
 obtain ⟨a1, c1, a2, c2, p1, d1, e1, p2, d2, e2, b7, x7, b8, x8, hL0, hR0, q0, q1, q2, q3, q4, q5, q6, q7, q8, q9, q10, q11, q12, q13, hH⟩ := hI
 have h0 : s 0 = true := hpre 0 rfl
 refine Sy.heap hH ?_
 haveI m0 : MemRows ab 4 (Z7 b.bins) Rz := ⟨hR0 _ (inferInstance : MemRows ab 4 (Z7 b.bins) (R)).mem⟩
 refine cl rfl Z6T rfl (by simp only [evs, show ev Lz (.tmp 30) = _ from (q0 h0)]) (Z5H b ab cb (by omega) _ _) ?_
 rintro _ _ R1 ⟨a1, c1, rfl, rfl, hR1⟩
 obtain rfl := hR1.symm
 clear hR1
 exact hK _ _ _ ⟨a1, c1, a2, c2, p1, d1, e1, p2, d2, e2, b7, x7, b8, x8, Zw rfl hL0, Z0j (hR0), fun h => Zc rfl (q0 h), fun _ => ⟨ZJ, (by simp)⟩, fun h => Zc rfl (q2 h), fun h => ⟨Zc rfl (q3 h).1, List.mem_cons_of_mem _ ((q3 h).2)⟩, fun h => Zc rfl (q4 h), fun h => ⟨Zc rfl (q5 h).1, List.mem_cons_of_mem _ ((q5 h).2.1), List.mem_cons_of_mem _ ((q5 h).2.2.1), (q5 h).2.2.2⟩, fun h => Zc rfl (q6 h), fun h => ⟨Zc rfl (q7 h).1, List.mem_cons_of_mem _ ((q7 h).2.1), List.mem_cons_of_mem _ ((q7 h).2.2.1), (q7 h).2.2.2⟩, fun h => ⟨Zc rfl (q8 h).1, (q8 h).2⟩, fun h => ⟨Zc rfl (q9 h).1, (q9 h).2⟩, nof hdn hs 10, q11, fun h => Zc rfl (q12 h), fun h => Zc rfl (q13 h), fun w h => h⟩
 intro s Lz Hz Rz hdn hs hpre hI K hK
 obtain ⟨a1, c1, a2, c2, p1, d1, e1, p2, d2, e2, b7, x7, b8, x8, hL0, hR0, q0, q1, q2, q3, q4, q5, q6, q7, q8, q9, q10, q11, q12, q13, hH⟩ := hI
 refine Sy.heap hH ?_
 refine spL rfl (Sub.lk hL0 _ _ rfl) ((lhA (btl b (b.sl ab cb)) ZD rfl rfl rfl)) rfl ?_
 exact hK _ _ _ ⟨a1, c1, a2, c2, p1, d1, e1, p2, d2, e2, b7, x7, b8, x8, Zw rfl hL0, hR0, lm1 q0, lm2 q1, fun _ => ZJ, lm2 q3, lm1 q4, lm2 q5, lm1 q6, lm2 q7, lm2 q8, lm2 q9, q10, q11, lm1 q12, lm1 q13, fun w h => h⟩
 intro s Lz Hz Rz hdn hs hpre hI K hK
 obtain ⟨a1, c1, a2, c2, p1, d1, e1, p2, d2, e2, b7, x7, b8, x8, hL0, hR0, q0, q1, q2, q3, q4, q5, q6, q7, q8, q9, q10, q11, q12, q13, hH⟩ := hI
 obtain ⟨h0, h1, h2⟩ : s 0 = true ∧ s 1 = true ∧ s 2 = true := ⟨hpre 0 rfl, hpre 1 rfl, hpre 2 rfl⟩
 refine Sy.heap hH ?_
 haveI m0 : MemRows ab 4 (Z7 b.bins) Rz := ⟨hR0 _ (inferInstance : MemRows ab 4 (Z7 b.bins) (R)).mem⟩
 refine cl rfl Z8h rfl (by simp only [evs, show ev Lz (.tmp 32) = _ from (q2 h2)]) (Z2c b ab cb (by omega) _ _) ?_
 rintro _ _ R1 ⟨a2, c2, rfl, rfl, hR1⟩
 obtain rfl := hR1.symm
 clear hR1
 exact hK _ _ _ ⟨a1, c1, a2, c2, p1, d1, e1, p2, d2, e2, b7, x7, b8, x8, Zw rfl hL0, Z0j (hR0), fun h => Zc rfl (q0 h), fun h => ⟨Zc rfl (q1 h).1, List.mem_cons_of_mem _ ((q1 h).2)⟩, fun h => Zc rfl (q2 h), fun _ => ⟨ZJ, (by simp)⟩, fun h => Zc rfl (q4 h), fun h => ⟨Zc rfl (q5 h).1, List.mem_cons_of_mem _ ((q5 h).2.1), List.mem_cons_of_mem _ ((q5 h).2.2.1), (q5 h).2.2.2⟩, fun h => Zc rfl (q6 h), fun h => ⟨Zc rfl (q7 h).1, List.mem_cons_of_mem _ ((q7 h).2.1), List.mem_cons_of_mem _ ((q7 h).2.2.1), (q7 h).2.2.2⟩, fun h => ⟨Zc rfl (q8 h).1, (q8 h).2⟩, fun h => ⟨Zc rfl (q9 h).1, (q9 h).2⟩, q10, nof hdn hs 11, fun h => Zc rfl (q12 h), fun h => Zc rfl (q13 h), fun w h => h⟩
 intro s Lz Hz Rz hdn hs hpre hI K hK
 obtain ⟨a1, c1, a2, c2, p1, d1, e1, p2, d2, e2, b7, x7, b8, x8, hL0, hR0, q0, q1, q2, q3, q4, q5, q6, q7, q8, q9, q10, q11, q12, q13, hH⟩ := hI
 refine Sy.heap hH ?_
 refine sp rfl (PE.move (Sub.lk hL0 _ _ rfl)) rfl ?_
 exact hK _ _ _ ⟨a1, c1, a2, c2, p1, d1, e1, p2, d2, e2, b7, x7, b8, x8, Zw rfl hL0, hR0, lm1 q0, lm2 q1, lm1 q2, lm2 q3, fun _ => ZJ, lm2 q5, lm1 q6, lm2 q7, lm2 q8, lm2 q9, q10, q11, lm1 q12, lm1 q13, fun w h => h⟩
 intro s Lz Hz Rz hdn hs hpre hI K hK
 obtain ⟨a1, c1, a2, c2, p1, d1, e1, p2, d2, e2, b7, x7, b8, x8, hL0, hR0, q0, q1, q2, q3, q4, q5, q6, q7, q8, q9, q10, q11, q12, q13, hH⟩ := hI
 obtain ⟨h0, h1, h2, h3, h4⟩ : s 0 = true ∧ s 1 = true ∧ s 2 = true ∧ s 3 = true ∧ s 4 = true := ⟨hpre 0 rfl, hpre 1 rfl, hpre 2 rfl, hpre 3 rfl, hpre 4 rfl⟩
 refine Sy.heap hH ?_
 haveI m0 : MemRows ap 1 (Z9 pl) Rz := ⟨hR0 _ (inferInstance : MemRows ap 1 (Z9 pl) (R)).mem⟩
 haveI m1 : MemF (Inn pl) Rz := ⟨hR0 _ (inferInstance : MemF (Inn pl) (R)).mem⟩
 refine cl rfl Zez rfl (by simp only [evs, show ev Lz (.tmp 34) = _ from (q4 h4)]) (Z4X pl ap cp (by omega) (fun x hx => by have := hpe8 x hx; omega) _ _) ?_
 rintro _ _ R1 ⟨p1, d1, e1, hq1, rfl, rfl, hR1⟩
 obtain rfl := hR1.symm
 clear hR1
 exact hK _ _ _ ⟨a1, c1, a2, c2, p1, d1, e1, p2, d2, e2, b7, x7, b8, x8, Zw rfl hL0, Z0j (Z0j (hR0)), fun h => Zc rfl (q0 h), fun h => ⟨Zc rfl (q1 h).1, List.mem_cons_of_mem _ (List.mem_cons_of_mem _ ((q1 h).2))⟩, fun h => Zc rfl (q2 h), fun h => ⟨Zc rfl (q3 h).1, List.mem_cons_of_mem _ (List.mem_cons_of_mem _ ((q3 h).2))⟩, fun h => Zc rfl (q4 h), fun _ => ⟨ZJ, (by simp), (by simp), hq1⟩, fun h => Zc rfl (q6 h), fun h => ⟨Zc rfl (q7 h).1, List.mem_cons_of_mem _ (List.mem_cons_of_mem _ ((q7 h).2.1)), List.mem_cons_of_mem _ (List.mem_cons_of_mem _ ((q7 h).2.2.1)), (q7 h).2.2.2⟩, fun h => ⟨Zc rfl (q8 h).1, (q8 h).2⟩, fun h => ⟨Zc rfl (q9 h).1, (q9 h).2⟩, q10, q11, nof hdn hs 12, fun h => Zc rfl (q13 h), fun w h => h⟩
 intro s Lz Hz Rz hdn hs hpre hI K hK
 obtain ⟨a1, c1, a2, c2, p1, d1, e1, p2, d2, e2, b7, x7, b8, x8, hL0, hR0, q0, q1, q2, q3, q4, q5, q6, q7, q8, q9, q10, q11, q12, q13, hH⟩ := hI
 refine Sy.heap hH ?_
 refine sp rfl (PE.move (Sub.lk hL0 _ _ rfl)) rfl ?_
 exact hK _ _ _ ⟨a1, c1, a2, c2, p1, d1, e1, p2, d2, e2, b7, x7, b8, x8, Zw rfl hL0, hR0, lm1 q0, lm2 q1, lm1 q2, lm2 q3, lm1 q4, lm2 q5, fun _ => ZJ, lm2 q7, lm2 q8, lm2 q9, q10, q11, lm1 q12, lm1 q13, fun w h => h⟩
 intro s Lz Hz Rz hdn hs hpre hI K hK
 obtain ⟨a1, c1, a2, c2, p1, d1, e1, p2, d2, e2, b7, x7, b8, x8, hL0, hR0, q0, q1, q2, q3, q4, q5, q6, q7, q8, q9, q10, q11, q12, q13, hH⟩ := hI
 obtain ⟨h0, h1, h2, h3, h4, h5, h6⟩ : s 0 = true ∧ s 1 = true ∧ s 2 = true ∧ s 3 = true ∧ s 4 = true ∧ s 5 = true ∧ s 6 = true := ⟨hpre 0 rfl, hpre 1 rfl, hpre 2 rfl, hpre 3 rfl, hpre 4 rfl, hpre 5 rfl, hpre 6 rfl⟩
 refine Sy.heap hH ?_
 haveI m0 : MemRows aq 1 (Z9 ql) Rz := ⟨hR0 _ (inferInstance : MemRows aq 1 (Z9 ql) (R)).mem⟩
 haveI m1 : MemF (Inn ql) Rz := ⟨hR0 _ (inferInstance : MemF (Inn ql) (R)).mem⟩
 refine cl rfl Zez rfl (by simp only [evs, show ev Lz (.tmp 36) = _ from (q6 h6)]) (Z4X ql aq cq (by omega) (fun x hx => by have := hqe8 x hx; omega) _ _) ?_
 rintro _ _ R1 ⟨p2, d2, e2, hq2, rfl, rfl, hR1⟩
 obtain rfl := hR1.symm
 clear hR1
 exact hK _ _ _ ⟨a1, c1, a2, c2, p1, d1, e1, p2, d2, e2, b7, x7, b8, x8, Zw rfl hL0, Z0j (Z0j (hR0)), fun h => Zc rfl (q0 h), fun h => ⟨Zc rfl (q1 h).1, List.mem_cons_of_mem _ (List.mem_cons_of_mem _ ((q1 h).2))⟩, fun h => Zc rfl (q2 h), fun h => ⟨Zc rfl (q3 h).1, List.mem_cons_of_mem _ (List.mem_cons_of_mem _ ((q3 h).2))⟩, fun h => Zc rfl (q4 h), fun h => ⟨Zc rfl (q5 h).1, List.mem_cons_of_mem _ (List.mem_cons_of_mem _ ((q5 h).2.1)), List.mem_cons_of_mem _ (List.mem_cons_of_mem _ ((q5 h).2.2.1)), (q5 h).2.2.2⟩, fun h => Zc rfl (q6 h), fun _ => ⟨ZJ, (by simp), (by simp), hq2⟩, fun h => ⟨Zc rfl (q8 h).1, (q8 h).2⟩, fun h => ⟨Zc rfl (q9 h).1, (q9 h).2⟩, q10, q11, fun h => Zc rfl (q12 h), nof hdn hs 13, fun w h => h⟩
 intro s Lz Hz Rz hdn hs hpre hI K hK
 obtain ⟨a1, c1, a2, c2, p1, d1, e1, p2, d2, e2, b7, x7, b8, x8, hL0, hR0, q0, q1, q2, q3, q4, q5, q6, q7, q8, q9, q10, q11, q12, q13, hH⟩ := hI
 refine Sy.heap hH ?_
 refine alc rfl Z0w rfl (fun b7 => ?_)
 exact hK _ _ _ ⟨a1, c1, a2, c2, p1, d1, e1, p2, d2, e2, b7, [.int .i64 0, .int .i64 0, .int .i64 0, .int .i64 0, .int .i64 0, .int .i64 0, .int .i64 0, .int .i64 0, .slice none 0 0], b8, x8, Zw rfl hL0, hR0, lm1 q0, lm2 q1, lm1 q2, lm2 q3, lm1 q4, lm2 q5, lm1 q6, lm2 q7, fun _ => ⟨ZJ, fun _ => rfl⟩, lm2 q9, nof hdn hs 10, q11, lm1 q12, lm1 q13, fun w h => by rw [hs] at h; exact h.perm (List.perm_middle.symm.trans (List.Perm.append_left _ (.refl _)))⟩
 intro s Lz Hz Rz hdn hs hpre hI K hK
 obtain ⟨a1, c1, a2, c2, p1, d1, e1, p2, d2, e2, b7, x7, b8, x8, hL0, hR0, q0, q1, q2, q3, q4, q5, q6, q7, q8, q9, q10, q11, q12, q13, hH⟩ := hI
 refine Sy.heap hH ?_
 refine alc rfl ZbL rfl (fun b8 => ?_)
 exact hK _ _ _ ⟨a1, c1, a2, c2, p1, d1, e1, p2, d2, e2, b7, x7, b8, [.int .i64 0, .int .i64 0, .int .i64 0, .int .i64 0, .int .i64 0, .int .i64 0, .int .i64 0, .int .i64 0, .slice none 0 0], Zw rfl hL0, hR0, lm1 q0, lm2 q1, lm1 q2, lm2 q3, lm1 q4, lm2 q5, lm1 q6, lm2 q7, lm2 q8, fun _ => ⟨ZJ, fun _ => rfl⟩, q10, nof hdn hs 11, lm1 q12, lm1 q13, fun w h => by rw [hs] at h; exact h.perm (.refl _)⟩
 intro s Lz Hz Rz hdn hs hpre hI K hK
 obtain ⟨a1, c1, a2, c2, p1, d1, e1, p2, d2, e2, b7, x7, b8, x8, hL0, hR0, q0, q1, q2, q3, q4, q5, q6, q7, q8, q9, q10, q11, q12, q13, hH⟩ := hI
 obtain ⟨h0, h1, h2, h3, h4, h5, h6, h7, h8, h9⟩ : s 0 = true ∧ s 1 = true ∧ s 2 = true ∧ s 3 = true ∧ s 4 = true ∧ s 5 = true ∧ s 6 = true ∧ s 7 = true ∧ s 8 = true ∧ s 9 = true := ⟨hpre 0 rfl, hpre 1 rfl, hpre 2 rfl, hpre 3 rfl, hpre 4 rfl, hpre 5 rfl, hpre 6 rfl, hpre 7 rfl, hpre 8 rfl, hpre 9 rfl⟩
 refine Sy.heap hH ?_
 obtain rfl := (q8 h8).2 hs
 refine Sy.heap (H' := (bif s 9 then [(b8, cel 84 x8)] else []) ++ ((b7, cel 27 [.int .i64 0, .int .i64 0, .int .i64 0, .int .i64 0, .int .i64 0, .int .i64 0, .int .i64 0, .int .i64 0, .slice none 0 0]) :: ((b3, cel 27 (btl b (b.sl ab cb))) :: H))) (fun w h => by rw [h8] at h; exact h) ?_
 refine Z1b (l' := btl b (b.sl a1 c1)) rfl (q8 h8).1 (q1 h1).1 Z03 rfl rfl rfl rfl (Nat.le_refl _) ?_
 exact hK _ _ _ ⟨a1, c1, a2, c2, p1, d1, e1, p2, d2, e2, b7, btl b (b.sl a1 c1), b8, x8, hL0, hR0, q0, q1, q2, q3, q4, q5, q6, q7, fun h => ⟨(q8 h).1, fun h => by cases (show true = false from h)⟩, q9, fun _ => rfl, q11, q12, q13, fun w h => by show St ((bif s 9 then [(b8, cel 84 x8)] else []) ++ ((bif s 8 then [(b7, cel 27 (btl b (b.sl a1 c1)))] else []) ++ ((b3, cel 27 (btl b (b.sl ab cb))) :: H))) Rz w; rw [h8]; exact h⟩
 intro s Lz Hz Rz hdn hs hpre hI K hK
 obtain ⟨a1, c1, a2, c2, p1, d1, e1, p2, d2, e2, b7, x7, b8, x8, hL0, hR0, q0, q1, q2, q3, q4, q5, q6, q7, q8, q9, q10, q11, q12, q13, hH⟩ := hI
 obtain ⟨h0, h1, h2, h3, h4, h5, h6, h7, h8, h9, h10⟩ : s 0 = true ∧ s 1 = true ∧ s 2 = true ∧ s 3 = true ∧ s 4 = true ∧ s 5 = true ∧ s 6 = true ∧ s 7 = true ∧ s 8 = true ∧ s 9 = true ∧ s 10 = true := ⟨hpre 0 rfl, hpre 1 rfl, hpre 2 rfl, hpre 3 rfl, hpre 4 rfl, hpre 5 rfl, hpre 6 rfl, hpre 7 rfl, hpre 8 rfl, hpre 9 rfl, hpre 10 rfl⟩
 refine Sy.heap hH ?_
 obtain rfl := (q9 h9).2 hs
 refine Sy.heap (H' := (b8, cel 84 [.int .i64 0, .int .i64 0, .int .i64 0, .int .i64 0, .int .i64 0, .int .i64 0, .int .i64 0, .int .i64 0, .slice none 0 0]) :: ((bif s 8 then [(b7, cel 27 x7)] else []) ++ ((b3, cel 27 (btl b (b.sl ab cb))) :: H))) (fun w h => by rw [h9] at h; exact h) ?_
 refine Z1b (l' := btl b (b.sl a2 c2)) rfl (q9 h9).1 (q3 h3).1 Zd1 rfl rfl rfl rfl (Nat.le_refl _) ?_
 exact hK _ _ _ ⟨a1, c1, a2, c2, p1, d1, e1, p2, d2, e2, b7, x7, b8, btl b (b.sl a2 c2), hL0, hR0, q0, q1, q2, q3, q4, q5, q6, q7, q8, fun h => ⟨(q9 h).1, fun h => by cases (show true = false from h)⟩, q10, fun _ => rfl, q12, q13, fun w h => by show St ((bif s 9 then [(b8, cel 84 (btl b (b.sl a2 c2)))] else []) ++ ((bif s 8 then [(b7, cel 27 x7)] else []) ++ ((b3, cel 27 (btl b (b.sl ab cb))) :: H))) Rz w; rw [h9]; exact h⟩
 intro s Lz Hz Rz hdn hs hpre hI K hK
 obtain ⟨a1, c1, a2, c2, p1, d1, e1, p2, d2, e2, b7, x7, b8, x8, hL0, hR0, q0, q1, q2, q3, q4, q5, q6, q7, q8, q9, q10, q11, q12, q13, hH⟩ := hI
 obtain ⟨h0, h1, h2, h3, h4, h5, h6, h7, h8, h9, h10, h11⟩ : s 0 = true ∧ s 1 = true ∧ s 2 = true ∧ s 3 = true ∧ s 4 = true ∧ s 5 = true ∧ s 6 = true ∧ s 7 = true ∧ s 8 = true ∧ s 9 = true ∧ s 10 = true ∧ s 11 = true := ⟨hpre 0 rfl, hpre 1 rfl, hpre 2 rfl, hpre 3 rfl, hpre 4 rfl, hpre 5 rfl, hpre 6 rfl, hpre 7 rfl, hpre 8 rfl, hpre 9 rfl, hpre 10 rfl, hpre 11 rfl⟩
 refine Sy.heap hH ?_
 refine sp rfl (PE.assign (q5 h5).1) rfl ?_
 exact hK _ _ _ ⟨a1, c1, a2, c2, p1, d1, e1, p2, d2, e2, b7, x7, b8, x8, Zw rfl hL0, hR0, lm1 q0, lm2 q1, lm1 q2, lm2 q3, lm1 q4, lm2 q5, lm1 q6, lm2 q7, lm2 q8, lm2 q9, q10, q11, fun _ => ZJ, lm1 q13, fun w h => h⟩
 intro s Lz Hz Rz hdn hs hpre hI K hK
 obtain ⟨a1, c1, a2, c2, p1, d1, e1, p2, d2, e2, b7, x7, b8, x8, hL0, hR0, q0, q1, q2, q3, q4, q5, q6, q7, q8, q9, q10, q11, q12, q13, hH⟩ := hI
 obtain ⟨h0, h1, h2, h3, h4, h5, h6, h7, h8, h9, h10, h11, h12⟩ : s 0 = true ∧ s 1 = true ∧ s 2 = true ∧ s 3 = true ∧ s 4 = true ∧ s 5 = true ∧ s 6 = true ∧ s 7 = true ∧ s 8 = true ∧ s 9 = true ∧ s 10 = true ∧ s 11 = true ∧ s 12 = true := ⟨hpre 0 rfl, hpre 1 rfl, hpre 2 rfl, hpre 3 rfl, hpre 4 rfl, hpre 5 rfl, hpre 6 rfl, hpre 7 rfl, hpre 8 rfl, hpre 9 rfl, hpre 10 rfl, hpre 11 rfl, hpre 12 rfl⟩
 refine Sy.heap hH ?_
 refine sp rfl (PE.assign (q7 h7).1) rfl ?_
 exact hK _ _ _ ⟨a1, c1, a2, c2, p1, d1, e1, p2, d2, e2, b7, x7, b8, x8, Zw rfl hL0, hR0, lm1 q0, lm2 q1, lm1 q2, lm2 q3, lm1 q4, lm2 q5, lm1 q6, lm2 q7, lm2 q8, lm2 q9, q10, q11, lm1 q12, fun _ => ZJ, fun w h => h⟩
 intro Lz Hz Rz hI
 obtain ⟨a1, c1, a2, c2, p1, d1, e1, p2, d2, e2, b7, x7, b8, x8, hL0, hR0, q0, q1, q2, q3, q4, q5, q6, q7, q8, q9, q10, q11, q12, q13, hH⟩ := hI
 obtain rfl := q11 rfl
 obtain rfl := q10 rfl
 have hq1 : lls p1 = lls pl := (q5 rfl).2.2.2
 have hq2 : lls p2 = lls ql := (q7 rfl).2.2.2
 refine Sy.weak (L' := [(8, .pointer (some ⟨b8, 0, none⟩)), (7, .pointer (some ⟨b7, 0, none⟩)), (9, .slice d1 p1.length e1), (10, .slice d2 p2.length e2), (1, .slice ap pl.length cp), (2, .slice aq ql.length cq), (3, .pointer (some ⟨b3, 0, none⟩))]) (H' := (b8, cel 84 (btl b (b.sl a2 c2))) :: (b7, cel 27 (btl b (b.sl a1 c1))) :: (b3, cel 27 (btl b (b.sl ab cb))) :: H) (R' := Z5 d2 1 (Z9 p2) :: Inn p2 :: Z5 d1 1 (Z9 p1) :: Inn p1 :: Z5 a2 4 (Z7 b.bins) :: Z5 a1 4 (Z7 b.bins) :: R) ?_ (Sub.cons (q9 rfl).1 (Sub.cons (q8 rfl).1 (Sub.cons (q12 rfl) (Sub.cons (q13 rfl) hL0)))).lk (fun w h => St.facts (hH w h) (Z0h (q7 rfl).2.1 (Z0h (q7 rfl).2.2.1 (Z0h (q5 rfl).2.1 (Z0h (q5 rfl).2.2.1 (Z0h (q3 rfl).2 (Z0h (q1 rfl).2 hR0)))))))
 refine sqt 3 rfl (spL rfl rfl (lhA (btl b (b.sl a2 c2)) Z1n rfl rfl rfl) rfl ?_)
 refine clV rfl Z80 rfl rfl (Z27 b a2 c2 hl hr _ _) ?_
 refine pur 1 rfl (sqt 3 rfl (pur 3 rfl (Z0 (sqt 2 rfl (pur 2 rfl ?_)))))
 refine Z15 (ι := {y : Int × Int × Bool // RWant b (lls pl) (lls ql) y.1 y.2.1 y.2.2}) (fun y => ⟨[(1, .slice ap pl.length cp), (2, .slice aq ql.length cq), (3, .pointer (some ⟨b3, 0, none⟩)), (7, .pointer (some ⟨b7, 0, none⟩)), (8, .pointer (some ⟨b8, 0, none⟩)), (9, .slice d1 p1.length e1), (10, .slice d2 p2.length e2), (11, .int .i64 y.1.1), (12, .int .i64 y.1.2.1), (13, .bool y.1.2.2)], (b8, cel 84 (btl b (b.sl a2 c2))) :: (b7, cel 27 (btl b (b.sl a1 c1))) :: (b3, cel 27 (btl b (b.sl ab cb))) :: H, Z5 d2 1 (Z9 p2) :: Inn p2 :: Z5 d1 1 (Z9 p1) :: Inn p1 :: Z5 a2 4 (Z7 b.bins) :: Z5 a1 4 (Z7 b.bins) :: R⟩) ?_ ?_
 refine Z2 rfl ?_ ?_ <;> intro hc1 <;> try simp only [cS] at hc1
 have hck : b.check = 0 := hc1
 have hok := Barn.ok_of hr hck
 have hmn := hok.many
 have hplz : b.planned (lls pl) = ZX b.bins.length b.gangs (lls pl) := by unfold Barn.planned; rw [dT hck]; rfl
 refine Z0 (sqt 3 rfl (spL rfl rfl (lhA (btl b (b.sl a2 c2)) Z1n rfl rfl rfl) rfl ?_))
 refine cl rfl Zcl rfl rfl (Z2J b a2 c2 hok _ _) ?_
 rintro _ _ _ ⟨⟨m, hm, rfl⟩, rfl, rfl⟩
 refine pur 1 rfl ?_
 refine Z15 (ι := {w : Int // (w = 0 ∧ Kpt b.dsk b.state 1000000) ∨ (w = 6 ∧ ∃ v, v ≠ 1000000 ∧ Kpt b.dsk b.state v)}) (fun w => ⟨[(1, .slice ap pl.length cp), (2, .slice aq ql.length cq), (3, .pointer (some ⟨b3, 0, none⟩)), (7, .pointer (some ⟨b7, 0, none⟩)), (8, .pointer (some ⟨b8, 0, none⟩)), (9, .slice d1 p1.length e1), (10, .slice d2 p2.length e2), (11, .int .i64 w.1), (13, .bool false)], (b8, cel 84 (btl b (b.sl a2 c2))) :: (b7, cel 27 (btl b (b.sl a1 c1))) :: (b3, cel 27 (btl b (b.sl ab cb))) :: H, Z5 d2 1 (Z9 p2) :: Inn p2 :: Z5 d1 1 (Z9 p1) :: Inn p1 :: Z5 a2 4 (Z7 b.bins) :: Z5 a1 4 (Z7 b.bins) :: R⟩) ?_ ?_
 refine Z2 rfl ?_ ?_ <;> intro hc2 <;> try simp only [cS] at hc2
 refine sqr 1 rfl (pur 1 rfl ?_)
 first | exact Z0m ⟨6, .inr ⟨rfl, m, hc2, hm⟩⟩ idH | exact ZR ⟨0, .inl ⟨rfl, by rw [← show m = 1000000 by omega]; exact hm⟩⟩ (by rw [hck]; exact (by repeat' first | exact Sub.nil | apply Sub.cons | rfl | (simp [lk]; omega))) idH
 refine Z1 ?_
 first | exact Z0m ⟨6, .inr ⟨rfl, m, hc2, hm⟩⟩ idH | exact ZR ⟨0, .inl ⟨rfl, by rw [← show m = 1000000 by omega]; exact hm⟩⟩ (by rw [hck]; exact (by repeat' first | exact Sub.nil | apply Sub.cons | rfl | (simp [lk]; omega))) idH
 rintro ⟨w, hw⟩
 have hww : (b.check ≠ 0 ∧ w = b.check) ∨ (b.check = 0 ∧ w = 0 ∧ Kpt b.dsk b.state 1000000) ∨ (b.check = 0 ∧ w = 6 ∧ ∃ v, v ≠ 1000000 ∧ Kpt b.dsk b.state v) := .inr (hw.imp (fun h => ⟨hck, h⟩) (fun h => ⟨hck, h⟩))
 refine Z0 (sqt 4 rfl (spL rfl rfl (lhA (btl b (b.sl a2 c2)) Z1n rfl rfl rfl) rfl (pur 1 rfl ?_)))
 refine clV rfl Za4 rfl rfl (Z1z b a2 c2 hl pl ap cp hpl hpi _ _) ?_
 refine pur 1 rfl (sqt 2 rfl (pur 2 rfl ?_))
 refine Z2 rfl ?_ ?_ <;> intro hc3 <;> try simp only [cS] at hc3
 have hpe : ZX b.bins.length b.gangs (lls pl) = 0 := hc3
 refine sqr 4 rfl (spL rfl rfl (lhA (btl b (b.sl a2 c2)) Z1n rfl rfl rfl) rfl (pur 1 rfl ?_))
 refine clV rfl Za4 rfl rfl (Z1z b a2 c2 hl ql aq cq hql hqi _ _) ?_
 refine pur 1 rfl (Z0 (sqt 7 rfl (pur 3 rfl ?_)))
 refine Zh 56 rfl ?_ ?_ <;> intro g56
 try simp only [cS] at g56
 have hqe : ZX b.bins.length b.gangs (lls ql) = 0 := g56
 refine pur 1 rfl ?_
 refine spG rfl rfl rfl rfl (PE.lenSl Z0E rfl) rfl ?_
 refine pur 2 rfl ?_
 refine Z2 rfl ?_ ?_ <;> intro hc4 <;> try simp only [cS] at hc4
 have hq0 : ql.length = 0 := by omega
 have ege : Z0d b (lls pl) (lls ql) = 6 := by unfold Z0d; rw [hplz, hpe, hqe, Zo, dT hq0]; rfl
 refine sqr 1 rfl (pur 1 rfl (sqt 2 rfl (pur 2 rfl ?_)))
 refine Z2 rfl ?_ ?_ <;> intro hc5
 exact absurd hc5 (by decide)
 refine Z1 ?_
 exact Z0m ⟨(w, 6, false), ⟨ege.symm, ⟨fun h => (by cases h), fun h => absurd (ege ▸ h.1) (by decide)⟩, hww⟩⟩ idH
 have hq0 : ql.length ≠ 0 := by omega
 have ege : Z0d b (lls pl) (lls ql) = 0 := by unfold Z0d; rw [hplz, hpe, hqe, Zo, dF hq0]; rfl
 rw [hqe]
 refine Z1 (sqt 2 rfl (pur 2 rfl ?_))
 refine Z2 rfl ?_ ?_ <;> intro hc5
 refine sqr 5 rfl (spL rfl rfl (lhA (btl b (b.sl a2 c2)) Z1n rfl rfl rfl) rfl (pur 2 rfl ?_))
 refine cl rfl ZfG rfl rfl (Zby b a2 c2 hok pl ap cp hpl hpi ql aq cq hql hqi (by omega) hq0 _ _) ?_
 rintro _ _ _ ⟨⟨g, hg, rfl⟩, rfl, rfl⟩
 refine pur 1 rfl ?_
 exact Z0m ⟨(w, 0, g), ⟨ege.symm, ⟨fun h => ⟨ege, hg.1 h⟩, fun h => hg.2 h.2⟩, hww⟩⟩ idH
 exact absurd hc5 (by simp)
 try simp only [cS] at g56
 have hqe : ZX b.bins.length b.gangs (lls ql) ≠ 0 := g56
 have ege : Z0d b (lls pl) (lls ql) = ZX b.bins.length b.gangs (lls ql) := by unfold Z0d; rw [hplz, hpe, dF hqe]; rfl
 refine pur 4 rfl ?_
 refine ZG rfl ?_
 refine Z1 (sqt 2 rfl (pur 2 rfl ?_))
 refine Z2 rfl ?_ ?_ <;> intro hc5
 exact absurd (of_decide_eq_true hc5) hqe
 refine Z1 ?_
 exact Z0m ⟨(w, ZX b.bins.length b.gangs (lls ql), false), ⟨ege.symm, ⟨fun h => (by cases h), fun h => absurd (ege ▸ h.1) hqe⟩, hww⟩⟩ idH
 have hpe : ZX b.bins.length b.gangs (lls pl) ≠ 0 := hc3
 have ege : Z0d b (lls pl) (lls ql) = ZX b.bins.length b.gangs (lls pl) := by unfold Z0d; rw [hplz, dF hpe]; rfl
 refine Z1 (Z0 (sqt 7 rfl (pur 3 rfl ?_)))
 refine Zh 56 rfl ?_ ?_ <;> intro g56
 exact absurd (of_decide_eq_true g56) hpe
 refine pur 4 rfl ?_
 refine ZG rfl ?_
 refine Z1 (sqt 2 rfl (pur 2 rfl ?_))
 refine Z2 rfl ?_ ?_ <;> intro hc5
 exact absurd (of_decide_eq_true hc5) hpe
 refine Z1 ?_
 exact Z0m ⟨(w, ZX b.bins.length b.gangs (lls pl), false), ⟨ege.symm, ⟨fun h => (by cases h), fun h => absurd (ege ▸ h.1) hpe⟩, hww⟩⟩ idH
 have hck : b.check ≠ 0 := hc1
 have ege : Z0d b (lls pl) (lls ql) = b.check := by
   have hpn : b.planned (lls pl) = b.check := by unfold Barn.planned; rw [dF hck]; rfl
   unfold Z0d; rw [hpn, dF hck]; rfl
 refine Z1 ?_
 exact Z0m ⟨(b.check, b.check, false), ege.symm, ⟨fun h => (by cases h), fun h => absurd (ege ▸ h.1) hck⟩, .inl ⟨hck, rfl⟩⟩ idH
 rintro ⟨⟨w, u, g⟩, hw⟩
 dsimp only at hw ⊢
 refine sqt 9 rfl (spL rfl rfl (lhA (btl b (b.sl a1 c1)) ZD rfl rfl rfl) rfl ?_)
 refine cl rfl ZhI rfl rfl (ZeW b a1 c1 hl hr _ _) ?_
 rintro _ _ R1 ⟨rfl, (⟨hck, rfl, hR1⟩ | ⟨hck, hkp, rfl, hR1⟩ | ⟨hck, hkp, p, q, pa, qa, aa, ar, ca, cr, hro, hpa, hqa, rfl, hR1⟩)⟩ <;> obtain rfl := hR1.symm <;> clear hR1
 refine pur 1 rfl ?_
 obtain rfl := hw.w1 hck
 refine pur 6 rfl (sqt 9 rfl (spL rfl rfl (lhA (btl b (b.sl a1 c1)) ZD rfl rfl rfl) rfl (pur 2 rfl ?_)))
 refine clV rfl ZbX rfl rfl (Z7P b a1 c1 hl hr pl ap cp hpl hpi ql aq cq hql hqi hw hq1 hq2 d1 e1 d2 e2 _ _) ?_
 refine pur 5 rfl (Z0 (sqt 13 rfl (pur 4 rfl ?_)))
 refine Zh 83 rfl ?_ ?_ <;> intro g83
 exact absurd g83 (by simp)
 refine pur 5 rfl ?_
 refine Zh 88 rfl ?_ ?_ <;> intro g88
 exact absurd g88 (by simp)
 refine pur 2 rfl ?_
 refine spG rfl rfl rfl rfl (PE.neqBool ub4 rfl rfl) rfl ?_
 refine pur 1 rfl ?_
 refine Z2 rfl ?_ ?_ <;> intro hc6
 exact absurd hc6 (by simp)
 refine Z1 (Z0 (sqt 10 rfl (pur 3 rfl ?_)))
 refine Zh 95 rfl ?_ ?_ <;> intro g95
 refine pur 1 rfl ?_
 refine spG rfl rfl rfl rfl (PE.lenSl Z0E rfl) rfl ?_
 refine pur 1 rfl ?_
 refine spG rfl rfl rfl rfl (PE.lenSl Z0E rfl) rfl ?_
 refine spG rfl rfl rfl rfl (PE.add rfl rfl (by omega)) rfl ?_
 refine pur 2 rfl ?_
 refine Z2 rfl ?_ ?_ <;> intro hc7
 exact absurd hc7 (by simp)
 refine Z1 (Z0 (sqt 2 rfl (pur 2 rfl ?_)))
 refine Z2 rfl ?_ ?_ <;> intro hc8
 exact absurd (of_decide_eq_true hc8) hck
 refine Z1 (sqt 17 rfl (spL rfl rfl (lhA (btl b (b.sl a1 c1)) ZD rfl rfl rfl) rfl (spL rfl rfl (lhA (btl b (b.sl ab cb)) ZD rfl rfl rfl) rfl ?_)))
 refine clV rfl Z1J rfl rfl (Z0S b a1 c1 b ab cb hl hl hr hr _ _) ?_
 refine pur 1 rfl ?_
 refine Zh 138 rfl ?_ ?_ <;> intro g138
 refine pur 2 rfl ?_
 refine Z0K rfl rfl rfl rfl Z5f rfl rfl (Z1m p1 d1 e1 (by have := congrArg List.length hq1; rw [Zo, Zo] at this; omega) (Z3Y hq1 hpi) pl ap cp hpl hpi _ _) ?_
 refine pur 2 rfl ?_
 refine Zh 143 rfl ?_ ?_ <;> intro g143
 refine pur 2 rfl ?_
 refine Z0K rfl rfl rfl rfl Z5f rfl rfl (Z1m p2 d2 e2 (by have := congrArg List.length hq2; rw [Zo, Zo] at this; omega) (Z3Y hq2 hqi) ql aq cq hql hqi _ _) ?_
 refine pur 2 rfl ?_
 refine Zh 148 rfl ?_ ?_ <;> intro g148
 refine Z0K rfl rfl rfl rfl Z1d rfl rfl (Z02 _ _) ?_
 refine pur 2 rfl (Z4 ?_)
 exact rtA rfl rfl rfl ⟨rfl, rfl, rfl⟩ (fun w h => by first | exact (((h.del b8).del b7).del b3).facts (fun g hg => by simp [hg]) | exact h.del b3)
 exact absurd hq2 (of_decide_eq_false g148)
 exact absurd hq1 (of_decide_eq_false g143)
 rw [sameB_iff.2 rfl] at g138; exact absurd g138 (by decide)
 exact absurd hck (by simpa using g95)
 refine pur 1 rfl ?_
 obtain rfl := hw.w2 hck hkp
 refine pur 6 rfl (sqt 9 rfl (spL rfl rfl (lhA (btl b (b.sl a1 c1)) ZD rfl rfl rfl) rfl (pur 2 rfl ?_)))
 refine clV rfl ZbX rfl rfl (Z7P b a1 c1 hl hr pl ap cp hpl hpi ql aq cq hql hqi hw hq1 hq2 d1 e1 d2 e2 _ _) ?_
 refine pur 5 rfl (Z0 (sqt 13 rfl (pur 4 rfl ?_)))
 refine Zh 83 rfl ?_ ?_ <;> intro g83
 exact absurd g83 (by simp)
 refine pur 5 rfl ?_
 refine Zh 88 rfl ?_ ?_ <;> intro g88
 exact absurd g88 (by simp)
 refine pur 2 rfl ?_
 refine spG rfl rfl rfl rfl (PE.neqBool ub4 rfl rfl) rfl ?_
 refine pur 1 rfl ?_
 refine Z2 rfl ?_ ?_ <;> intro hc6
 exact absurd hc6 (by simp)
 refine Z1 (Z0 (sqt 10 rfl (pur 3 rfl ?_)))
 refine Zh 95 rfl ?_ ?_ <;> intro g95
 refine pur 1 rfl ?_
 refine spG rfl rfl rfl rfl (PE.lenSl Z0E rfl) rfl ?_
 refine pur 1 rfl ?_
 refine spG rfl rfl rfl rfl (PE.lenSl Z0E rfl) rfl ?_
 refine spG rfl rfl rfl rfl (PE.add rfl rfl (by omega)) rfl ?_
 refine pur 2 rfl ?_
 refine Z2 rfl ?_ ?_ <;> intro hc7
 exact absurd hc7 (by simp)
 refine Z1 (Z0 (sqt 2 rfl (pur 2 rfl ?_)))
 refine Z2 rfl ?_ ?_ <;> intro hc8
 exact absurd hc8 (by decide)
 refine Z1 (sqt 17 rfl (spL rfl rfl (lhA (btl b (b.sl a1 c1)) ZD rfl rfl rfl) rfl (spL rfl rfl (lhA (btl b (b.sl ab cb)) ZD rfl rfl rfl) rfl ?_)))
 refine clV rfl Z1J rfl rfl (Z0S b a1 c1 b ab cb hl hl hr hr _ _) ?_
 refine pur 1 rfl ?_
 refine Zh 138 rfl ?_ ?_ <;> intro g138
 refine pur 2 rfl ?_
 refine Z0K rfl rfl rfl rfl Z5f rfl rfl (Z1m p1 d1 e1 (by have := congrArg List.length hq1; rw [Zo, Zo] at this; omega) (Z3Y hq1 hpi) pl ap cp hpl hpi _ _) ?_
 refine pur 2 rfl ?_
 refine Zh 143 rfl ?_ ?_ <;> intro g143
 refine pur 2 rfl ?_
 refine Z0K rfl rfl rfl rfl Z5f rfl rfl (Z1m p2 d2 e2 (by have := congrArg List.length hq2; rw [Zo, Zo] at this; omega) (Z3Y hq2 hqi) ql aq cq hql hqi _ _) ?_
 refine pur 2 rfl ?_
 refine Zh 148 rfl ?_ ?_ <;> intro g148
 refine Z0K rfl rfl rfl rfl Z1d rfl rfl (Z02 _ _) ?_
 refine pur 2 rfl (Z4 ?_)
 exact rtA rfl rfl rfl ⟨rfl, rfl, rfl⟩ (fun w h => by first | exact (((h.del b8).del b7).del b3).facts (fun g hg => by simp [hg]) | exact h.del b3)
 exact absurd hq2 (of_decide_eq_false g148)
 exact absurd hq1 (of_decide_eq_false g143)
 rw [sameB_iff.2 rfl] at g138; exact absurd g138 (by decide)
 exact absurd g95 (by decide)
 refine pur 1 rfl ?_
 obtain rfl := hw.w3 hck hkp
 have hok := Barn.ok_of hr hck
 have hlw := hro.law hok hpa hqa
 have hln := hlw.len
 have hne := hlw.ne
 have hpz1 := hlw.p
 have hpz2 := hlw.q
 have hpi1 : ∀ x ∈ pa, x.l.length ≤ 9223372036854775807 := fun x hx => by have := hlw.four x (by simp [hx]); omega
 have hpi2 : ∀ x ∈ qa, x.l.length ≤ 9223372036854775807 := fun x hx => by have := hlw.four x (by simp [hx]); omega
 refine pur 6 rfl (sqt 9 rfl (spL rfl rfl (lhA (btl b (b.sl a1 c1)) ZD rfl rfl rfl) rfl (pur 2 rfl ?_)))
 refine clV rfl ZbX rfl rfl (Z7P b a1 c1 hl hr pl ap cp hpl hpi ql aq cq hql hqi hw hq1 hq2 d1 e1 d2 e2 _ _) ?_
 refine pur 5 rfl (Z0 (sqt 13 rfl (pur 4 rfl ?_)))
 refine Zh 83 rfl ?_ ?_ <;> intro g83
 exact absurd g83 (by simp)
 refine pur 5 rfl ?_
 refine Zh 88 rfl ?_ ?_ <;> intro g88
 exact absurd g88 (by simp)
 refine pur 2 rfl ?_
 refine spG rfl rfl rfl rfl (PE.neqBool ub4 rfl rfl) rfl ?_
 refine pur 1 rfl ?_
 refine Z2 rfl ?_ ?_ <;> intro hc6
 exact absurd hc6 (by simp)
 refine Z1 (Z0 (sqt 10 rfl (pur 3 rfl ?_)))
 refine Zh 95 rfl ?_ ?_ <;> intro g95
 exact absurd g95 (by simp)
 refine pur 7 rfl ?_
 refine ZG rfl ?_
 refine Z1 (Z0 (sqt 2 rfl (pur 2 rfl ?_)))
 refine Z2 rfl ?_ ?_ <;> intro hc8
 refine sqt 30 rfl (pur 1 rfl (sp rfl (PE.lenSl Z0E rfl) rfl (pur 1 rfl (sp rfl (PE.lenSl Z0E rfl) rfl (sp rfl (PE.add rfl rfl (by omega)) rfl (pur 2 rfl ?_))))))
 refine Zh 111 rfl ?_ ?_ <;> intro g111
 simp only [decide_eq_true_eq] at g111; omega
 refine pur 1 rfl ?_
 refine spG rfl rfl rfl rfl (PE.lenSl Z0E rfl) rfl ?_
 refine pur 3 rfl ?_
 refine Zh 116 rfl ?_ ?_ <;> intro g116
 simp only [decide_eq_true_eq] at g116; omega
 refine Z0o rfl rfl rfl rfl rfl (lhA (btl b (b.sl a2 c2)) Z1n rfl rfl rfl) rfl (pur 1 rfl ?_)
 refine Z0K rfl rfl rfl rfl Za4 rfl rfl (Z1z b a2 c2 hl pa aa ca (by omega) hpi1 _ _) ?_
 rw [hpz1]
 refine pur 3 rfl ?_
 refine Zh 122 rfl ?_ ?_ <;> intro g122
 exact absurd g122 (by simp)
 refine Z0o rfl rfl rfl rfl rfl (lhA (btl b (b.sl a2 c2)) Z1n rfl rfl rfl) rfl (pur 1 rfl ?_)
 refine Z0K rfl rfl rfl rfl Za4 rfl rfl (Z1z b a2 c2 hl qa ar cr (by omega) hpi2 _ _) ?_
 rw [hpz2]
 refine pur 3 rfl ?_
 refine Zh 128 rfl ?_ ?_ <;> intro g128
 exact absurd g128 (by simp)
 refine Z0o rfl rfl rfl rfl rfl (lhA (btl b (b.sl a2 c2)) Z1n rfl rfl rfl) rfl (pur 2 rfl ?_)
 refine clG rfl rfl rfl rfl ZfG rfl rfl (Zby b a2 c2 hok pa aa ca (by omega) hpi1 qa ar cr (by omega) hpi2 (by omega) hne _ _) ?_
 rintro _ _ _ ⟨⟨g2, hg2, rfl⟩, rfl, rfl⟩
 obtain rfl := hg2.2 hlw.goes
 refine pur 2 rfl ?_
 refine Z2 rfl ?_ ?_ <;> intro hc9
 exact absurd hc9 (by decide)
 refine Z1 (sqt 17 rfl (spL rfl rfl (lhA (btl b (b.sl a1 c1)) ZD rfl rfl rfl) rfl (spL rfl rfl (lhA (btl b (b.sl ab cb)) ZD rfl rfl rfl) rfl ?_)))
 refine clV rfl Z1J rfl rfl (Z0S b a1 c1 b ab cb hl hl hr hr _ _) ?_
 refine pur 1 rfl ?_
 refine Zh 138 rfl ?_ ?_ <;> intro g138
 refine pur 2 rfl ?_
 refine Z0K rfl rfl rfl rfl Z5f rfl rfl (Z1m p1 d1 e1 (by have := congrArg List.length hq1; rw [Zo, Zo] at this; omega) (Z3Y hq1 hpi) pl ap cp hpl hpi _ _) ?_
 refine pur 2 rfl ?_
 refine Zh 143 rfl ?_ ?_ <;> intro g143
 refine pur 2 rfl ?_
 refine Z0K rfl rfl rfl rfl Z5f rfl rfl (Z1m p2 d2 e2 (by have := congrArg List.length hq2; rw [Zo, Zo] at this; omega) (Z3Y hq2 hqi) ql aq cq hql hqi _ _) ?_
 refine pur 2 rfl ?_
 refine Zh 148 rfl ?_ ?_ <;> intro g148
 refine Z0K rfl rfl rfl rfl Z1d rfl rfl (Z02 _ _) ?_
 refine pur 2 rfl (Z4 ?_)
 exact rtA rfl rfl rfl ⟨rfl, rfl, rfl⟩ (fun w h => by first | exact (((h.del b8).del b7).del b3).facts (fun g hg => by simp [hg]) | exact h.del b3)
 exact absurd hq2 (of_decide_eq_false g148)
 exact absurd hq1 (of_decide_eq_false g143)
 rw [sameB_iff.2 rfl] at g138; exact absurd g138 (by decide)
 exact absurd hc8 (by decide)
def nn (l : List Int) (k : Nat) : Int := l.getD k 0
theorem OSl.freezeC {e sz : Nat} {rows : List (List Value)} (o : OSl e sz rows) : ∃ a c, o.fs = .slice a rows.length c ∧ rows.length ≤ c ∧ ∀ {H : Zg} {R : Z6} {w : World}, St (o.G ++ H) R w → St H (Z5 a sz rows :: R) w := by
  obtain ⟨fs, G, hl, his⟩ := o
  rcases his with ⟨rfl, rfl, rfl⟩ | ⟨b, cap, junk, rfl, rfl, _, hc, _⟩
  · exact ⟨none, 0, rfl, Nat.le_refl _, fun {H R w} h => (St.also (H := H) (R := R) h (f := Z5 none sz []) (fun w' _ => fun i row hi => by simp at hi))⟩
  · exact ⟨_, cap, rfl, hc, fun {H R w} h => St.rows (rest := junk) h hl⟩
theorem ZdP {b : Barn} {sl : Value} {c : Int} (h : 0 ≤ c ∧ c ≤ 5) : (btl b sl)[0 + 2 + c.toNat * 1]? = some (.int .i64 (na b.rise c.toNat)) := by
  obtain ⟨n, rfl⟩ : ∃ n : Nat, c = n := ⟨c.toNat, by omega⟩
  rw [Int.toNat_natCast]
  have hn : n < 6 := by omega
  match n, hn with
  | 0, _ | 1, _ | 2, _ | 3, _ | 4, _ | 5, _ => rfl
theorem Barn.most_ever {b : Barn} (hb : b.ok) {k : Nat} {x : HBin} (hx : b.bins[k]? = some x) : (na b.dsk.most k = 1000000 ↔ b.worst x = 0) ∧ na b.dsk.lasts k = b.days x b.cool := by
  have hm := List.mem_of_getElem? hx
  have hk := (List.getElem?_eq_some_iff.1 hx).1
  have h2 : na b.dsk.most k = max (b.days x x.warm) (b.days x b.cool) := Z24 (b.map_get hb _ hx)
  have h3 : na b.dsk.lasts k = b.days x b.cool := Z24 (b.map_get hb _ hx)
  refine ⟨?_, h3⟩
  rw [h2]
  have h8 := (hb.bins x hm).1
  have h7 := (hb.bins x hm).2.1
  have h9 := b.worst_range hb hm
  have hc := hb.cool
  have z : ∀ w, 0 ≤ w → b.worst x ≠ 0 → b.days x w < 11 := fun w hw h0 => by
    unfold Barn.days Z0B
    rw [decide_eq_false h0, cond_false]
    by_cases h3 : x.mark < w
    · rw [decide_eq_true h3, cond_true]; omega
    · rw [decide_eq_false h3, cond_false]
      exact Int.ediv_lt_of_lt_mul (by omega) (by omega)
  constructor
  · intro h
    apply Classical.byContradiction
    intro h0
    have := z _ h7.1 h0
    have := z _ hc.1 h0
    omega
  · intro h
    have e : ∀ w, b.days x w = 1000000 := fun w => by unfold Barn.days Z0B; rw [h]; rfl
    rw [e, e]; rfl
end Go.Proofs.YtnifcjgnageniaaGreat
