/-
  Plain mathematics of layer 9 (bread), seventh part: the table that holds; fates that hold; the mill of the examples.
-/
import Derived.Test.YtaldphhdkmchhaaMf
namespace Go.Proofs.Ytaldphhdkmchhaa
set_option linter.unusedSimpArgs false
set_option linter.unusedVariables false

theorem staAt_inj {t : Twn} {i j : Nat} (h : staAt t i = staAt t j) : i = j := by
  unfold staAt at h
  simp only [Sta.mk.injEq, Int.natCast_inj] at h
  obtain ⟨h1, h2, h3⟩ := h
  have e1 : i / (t.run.toNat + 1) = j / (t.run.toNat + 1) := by
    rw [← Nat.div_add_mod (i / (t.run.toNat + 1)) (t.patience.toNat + 1), ← Nat.div_add_mod (j / (t.run.toNat + 1)) (t.patience.toNat + 1), h1, h2]
  rw [← Nat.div_add_mod i (t.run.toNat + 1), ← Nat.div_add_mod j (t.run.toNat + 1), e1, h3]
theorem sts_nodup (t : Twn) : (sts t).Nodup := by
  unfold sts List.Nodup
  rw [List.pairwise_map]
  exact List.Pairwise.imp (fun h e => h (staAt_inj e)) List.nodup_range

/-- Two tables that say the same of all states. -/
def Same (t : Twn) (y y' : List Int) : Prop := ∀ s, s.right t = true → lat y s = lat y' s
theorem keeps_congr {t : Twn} (ht : t.ok) {y y' : List Int} (h : Same t y y') {s : Sta} (hs : s.right t = true) {q : Rn} (hq : q ∈ t.rats) (n : Int) : t.keeps y s q n = t.keeps y' s q n := by
  unfold Twn.keeps
  cases hc : t.can s q with
  | false => rfl
  | true =>
    rw [h _ (next_right (bad := false) ht hs hq hc (by simp))]
    by_cases hd : s.dry < t.run
    · rw [h _ (next_right (bad := true) ht hs hq hc (fun _ => hd))]
    · simp [hd]

theorem tabRow_some {t : Twn} {y : List Int} {s : Sta} {x : Rw} (h : tabRow t y s = some x) : x.st = s ∧ x.lasts = lat y s ∧ lat y s ≠ -1 ∧ ∃ q, t.rat x.ration = some q ∧ q ∈ t.rats ∧ t.keeps y s q (lat y s) = true := by
  unfold tabRow at h
  cases hc : decide (lat y s = -1) with
  | true => rw [hc] at h; cases h
  | false =>
    rw [hc, cond_false] at h
    obtain ⟨k, hk, rfl⟩ := Option.map_eq_some_iff.1 h
    obtain ⟨hlt, hp, _⟩ := List.findIdx?_eq_some_iff_getElem.1 hk
    refine ⟨rfl, rfl, by simpa using hc, t.rats[k], rat_some (Int.natCast_nonneg k) (by simp [hlt]), List.getElem_mem hlt, hp⟩
theorem tabRow_no {t : Twn} {y : List Int} (hl : LSA t y) {s : Sta} (hs : s.right t = true) (h : tabRow t y s = none) : lat y s = -1 := by
  by_cases h0 : lat y s = -1
  · exact h0
  · exfalso
    obtain ⟨q, hq, hk⟩ := ls_keeps hl hs h0
    unfold tabRow at h
    simp only [h0, decide_false, cond_false, Option.map_eq_none_iff] at h
    have := List.findIdx?_eq_none_iff.1 h q hq
    rw [hk] at this; cases this
theorem scan_tab {t : Twn} (ht : t.ok) {y : List Int} (hl : LSA t y) : ∀ (l : List Sta) (y' : List Int), l.Nodup → (∀ s ∈ l, s.right t = true) → y'.length = 496 → (∀ s ∈ l, lat y' s = -1) →
    ∃ y'', feedScan t (l.filterMap (tabRow t y)) false y' = .ok (false, y'') ∧ y''.length = 496 ∧ (∀ s, s.right t = true → s ∉ l → lat y'' s = lat y' s) ∧ ∀ s ∈ l, lat y'' s = lat y s
  | [], y', _, _, hy, _ => ⟨y', rfl, hy, fun _ _ _ => rfl, fun _ h => by cases h⟩
  | s :: l, y', hd, hr, hy, hm => by
    rw [List.nodup_cons] at hd
    have hsr := hr s (by simp)
    cases hrow : tabRow t y s with
    | none =>
      rw [List.filterMap_cons_none hrow]
      obtain ⟨y'', h1, h2, h3, h4⟩ := scan_tab ht hl l y' hd.2 (fun s h => hr s (by simp [h])) hy (fun s h => hm s (by simp [h]))
      refine ⟨y'', h1, h2, fun u hu hn => h3 u hu (fun h => hn (by simp [h])), fun u hu => ?_⟩
      rcases List.mem_cons.1 hu with rfl | hu
      · rw [h3 u hsr hd.1, hm u (by simp), tabRow_no hl hsr hrow]
      · exact h4 u hu
    | some x =>
      obtain ⟨e1, e2, e3, q, hq, hqm, hk⟩ := tabRow_some hrow
      rw [List.filterMap_cons_some hrow]
      have hcan : t.can s q = true := by unfold Twn.keeps at hk; simp only [Bool.and_eq_true] at hk; exact hk.1.1
      have hrg := ls_range hl hsr
      have hib : inb x.lasts 0 1000000 = true := by rw [e2]; simp only [inb, Bool.and_eq_true, decide_eq_true_eq]; omega
      have hix := ix_lt ht hsr
      obtain ⟨y'', h1, h2, h3, h4⟩ := scan_tab ht hl l (y'.set s.ix (lat y s)) hd.2 (fun s h => hr s (by simp [h])) (by simpa using hy) (fun u h => by
        rw [lat_set_ne (fun e => by have := ix_inj ht hsr (hr u (by simp [h])) e; subst this; exact hd.1 h)]
        exact hm u (by simp [h]))
      refine ⟨y'', ?_, h2, fun u hu hn => ?_, fun u hu => ?_⟩
      · unfold feedScan
        rw [e1, hsr, hib, hq]
        simp only [Bool.not_true, Bool.or_self, cond_false, hcan, e2, hm s (by simp), ne_eq, not_true_eq_false, decide_false]
        exact h1
      · rw [h3 u hu (fun h => hn (by simp [h])), lat_set_ne (fun e => by have := ix_inj ht hsr hu e; subst this; exact hn (by simp))]
      · rcases List.mem_cons.1 hu with rfl | hu
        · rw [h3 u hsr hd.1, lat_set_self (by rw [hy]; exact hix)]
        · exact h4 u hu
theorem nev_get {t : Twn} (ht : t.ok) (v : Int) : ∀ (l : List Sta) (y : List Int), y.length = 496 → (∀ s ∈ l, s ∈ sts t) → ∀ s ∈ sts t, (s ∈ l ∨ lat y s = v) → lat (l.foldl (fun y s => y.set s.ix v) y) s = v
  | [], _, _, _, _, _, h => by rcases h with h | h; cases h; exact h
  | u :: l, y, hy, hl, s, hs, h => by
    rw [List.foldl_cons]
    refine nev_get ht v l _ (by simpa using hy) (fun s hs => hl s (by simp [hs])) s hs ?_
    by_cases he : u.ix = s.ix
    · right
      have := ix_inj ht (sts_right ht (hl u (by simp))) (sts_right ht hs) he
      subst this
      exact lat_set_self (by rw [hy]; exact ix_lt ht (sts_right ht hs))
    · rcases h with h | h
      · rcases List.mem_cons.1 h with rfl | h
        · exact absurd rfl he
        · exact .inl h
      · right; rw [lat_set_ne he]; exact h
theorem nevY_get {t : Twn} (ht : t.ok) {s : Sta} (hs : s ∈ sts t) : lat (nevY t) s = -1 := nev_get ht (-1) (sts t) _ List.length_replicate (fun _ h => h) s hs (.inl hs)
theorem nevY_len (t : Twn) : (nevY t).length = 496 := by rw [nevY, setY_len, List.length_replicate]

/-- The table that is returned holds, and shows what the town lasts. -/
theorem feed_tab {t : Twn} (h0 : t.check = 0) {y : List Int} (hl : LSA t y) (hn : lat y t.now ≠ -1) : feedR t (tab t y) = (lat y t.now, 0) := by
  have ht := (ok_of_check h0).1
  obtain ⟨y'', h1, h2, _, h4⟩ := scan_tab ht hl (sts t) (nevY t) (sts_nodup t) (fun s hs => sts_right ht hs) (nevY_len t) (fun s hs => nevY_get ht hs)
  have hlen : (tab t y).length ≤ 496 := Nat.le_trans (List.length_filterMap_le _ _) (by rw [sts_len]; exact nst_le ht)
  have hsame : Same t y y'' := fun s hs => (h4 s (right_sts hs)).symm
  rw [feedR_ok h0 hlen h1]
  have hall : (tab t y).all (tabKeeps t y'') = true := by
    refine List.all_eq_true.2 fun x hx => ?_
    obtain ⟨s, hs, hrow⟩ := List.mem_filterMap.1 hx
    obtain ⟨e1, e2, e3, q, hq, hqm, hk⟩ := tabRow_some hrow
    unfold tabKeeps
    rw [hq]
    show t.keeps y'' x.st q x.lasts = true
    rw [e1, e2, ← keeps_congr ht hsame (sts_right ht hs) hqm]
    exact hk
  unfold feedEnd
  rw [hall, ← hsame t.now ht.now]
  simp [hn]

/-! ### fates -/
def earlier (l : List (Sta × Int)) (s : Sta) (m : Int) : Bool := l.any fun p => decide (p.1 = s) && decide (p.2 ≤ m)
def fateOk (t : Twn) (pre : List (Sta × Int)) (p : Sta × Int) : Bool :=
  t.rats.all fun q => !(t.can p.1 q) || (earlier pre (t.next p.1 q false) p.2 || (decide (p.1.dry < t.run) && earlier pre (t.next p.1 q true) (p.2 - 1)))
def fatesOk (t : Twn) : List (Sta × Int) → List (Sta × Int) → Bool
  | _, [] => true
  | pre, p :: l => fateOk t pre p && fatesOk t (pre ++ [p]) l
/-- A state of fates that hold does not last so many. -/
theorem fate_sound {t : Twn} {pre : List (Sta × Int)} (hpre : ∀ p ∈ pre, 0 ≤ p.2 ∧ ∀ n : Nat, p.2 ≤ n → ¬ Srv t n p.1) {p : Sta × Int} (hp : fateOk t pre p = true) {n : Nat} (hn : p.2 ≤ n) : ¬ Srv t n p.1 := by
  intro h
  obtain ⟨_, q, hq, hc, hg, hb⟩ := srv_clo t n _ h
  have h1 := List.all_eq_true.1 hp q hq
  simp only [hc, Bool.not_true, Bool.false_or, Bool.or_eq_true, Bool.and_eq_true, decide_eq_true_eq] at h1
  rcases h1 with h1 | ⟨hd, h1⟩
  · obtain ⟨e, he, hee⟩ := List.any_eq_true.1 h1
    simp only [Bool.and_eq_true, decide_eq_true_eq] at hee
    have := (hpre e he).2 n (by omega)
    rw [hee.1] at this
    exact this hg
  · obtain ⟨e, he, hee⟩ := List.any_eq_true.1 h1
    simp only [Bool.and_eq_true, decide_eq_true_eq] at hee
    have h2 := hpre e he
    cases n with
    | zero => have := h2.1; omega
    | succ m =>
      rcases hb with hb | hb | hb
      · omega
      · exact hb hd
      · have := h2.2 m (by omega)
        rw [hee.1] at this
        exact this hb
theorem fates_sound {t : Twn} : ∀ (l pre : List (Sta × Int)), (∀ p ∈ pre, 0 ≤ p.2 ∧ ∀ n : Nat, p.2 ≤ n → ¬ Srv t n p.1) → (∀ p ∈ l, 0 ≤ p.2) → fatesOk t pre l = true → ∀ p ∈ l, ∀ n : Nat, p.2 ≤ n → ¬ Srv t n p.1
  | [], _, _, _, _, _, h => by cases h
  | a :: l, pre, hpre, h0, h, p, hp => by
    unfold fatesOk at h
    simp only [Bool.and_eq_true] at h
    have ha : ∀ n : Nat, a.2 ≤ n → ¬ Srv t n a.1 := fun n hn => fate_sound hpre h.1 hn
    rcases List.mem_cons.1 hp with rfl | hp
    · exact ha
    · exact fates_sound l (pre ++ [a]) (fun e he => by
        rcases List.mem_append.1 he with he | he
        · exact hpre e he
        · obtain rfl := List.mem_singleton.1 he
          exact ⟨h0 e (by simp), ha⟩) (fun e he => h0 e (by simp [he])) h.2 p hp

/-! ### the mill -/
def mill : Twn := ⟨⟨8, 0, 0⟩, 12, 4, 1, 2, 6, 0, 0, [⟨4, 10⟩, ⟨2, 16⟩]⟩
def millYs : List Int := [-1, -1, -1, -1, -1, -1, -1, -1, -1, -1, -1, -1, 0, 0, 1, -1, -1, -1, 0, 0, 1, -1, -1, -1, 0, 0, 1, 0, 0, 1, 0, 0, 1, 0, 0, 1, 1, 2, 3, 1, 2, 3, 1, 2, 3, 1, 2, 3, 3, 4, 5, 1, 2, 3, 3, 4, 5, 1, 2, 3, 3, 4, 5, 3, 4, 5, 3, 4, 5, 3, 4, 5, 5, 5, 5, 5, 5, 5]
def millFl : List (Sta × Int) := [(⟨0, 0, 0⟩, 0), (⟨0, 0, 1⟩, 0), (⟨0, 0, 2⟩, 0), (⟨0, 1, 0⟩, 0), (⟨0, 1, 1⟩, 0), (⟨0, 1, 2⟩, 0), (⟨1, 0, 0⟩, 0), (⟨1, 0, 1⟩, 0), (⟨1, 0, 2⟩, 0), (⟨1, 1, 0⟩, 0), (⟨1, 1, 1⟩, 0), (⟨1, 1, 2⟩, 0), (⟨2, 1, 0⟩, 0), (⟨2, 1, 1⟩, 0), (⟨2, 1, 2⟩, 0), (⟨3, 1, 0⟩, 0), (⟨3, 1, 1⟩, 0), (⟨3, 1, 2⟩, 0), (⟨2, 0, 0⟩, 1), (⟨2, 0, 1⟩, 1), (⟨3, 0, 0⟩, 1), (⟨3, 0, 1⟩, 1), (⟨4, 0, 0⟩, 1), (⟨4, 0, 1⟩, 1), (⟨4, 1, 0⟩, 1), (⟨4, 1, 1⟩, 1), (⟨5, 0, 0⟩, 1), (⟨5, 0, 1⟩, 1), (⟨5, 1, 0⟩, 1), (⟨5, 1, 1⟩, 1), (⟨6, 0, 0⟩, 2), (⟨6, 1, 0⟩, 2), (⟨7, 0, 0⟩, 2), (⟨7, 1, 0⟩, 2), (⟨8, 1, 0⟩, 2), (⟨9, 1, 0⟩, 2), (⟨2, 0, 2⟩, 2), (⟨3, 0, 2⟩, 2), (⟨4, 0, 2⟩, 2), (⟨4, 1, 2⟩, 2), (⟨5, 0, 2⟩, 2), (⟨5, 1, 2⟩, 2), (⟨6, 0, 1⟩, 3), (⟨6, 1, 1⟩, 3), (⟨7, 0, 1⟩, 3), (⟨7, 1, 1⟩, 3), (⟨8, 1, 1⟩, 3), (⟨9, 1, 1⟩, 3), (⟨8, 0, 0⟩, 4), (⟨9, 0, 0⟩, 4), (⟨10, 0, 0⟩, 4), (⟨10, 1, 0⟩, 4), (⟨11, 0, 0⟩, 4), (⟨11, 1, 0⟩, 4), (⟨6, 0, 2⟩, 4), (⟨6, 1, 2⟩, 4), (⟨7, 0, 2⟩, 4), (⟨7, 1, 2⟩, 4), (⟨8, 1, 2⟩, 4), (⟨9, 1, 2⟩, 4), (⟨8, 0, 1⟩, 5), (⟨9, 0, 1⟩, 5), (⟨10, 0, 1⟩, 5), (⟨10, 1, 1⟩, 5), (⟨11, 0, 1⟩, 5), (⟨11, 1, 1⟩, 5), (⟨12, 0, 0⟩, 6), (⟨12, 1, 0⟩, 6), (⟨12, 1, 1⟩, 6), (⟨12, 1, 2⟩, 6), (⟨8, 0, 2⟩, 6), (⟨9, 0, 2⟩, 6), (⟨10, 0, 2⟩, 6), (⟨10, 1, 2⟩, 6), (⟨11, 0, 2⟩, 6), (⟨11, 1, 2⟩, 6), (⟨12, 0, 1⟩, 6), (⟨12, 0, 2⟩, 6)]
def millL (s : Sta) : Int := millYs.getD ((s.stock.toNat * 2 + s.short.toNat) * 3 + s.dry.toNat) 0
def millLow : Bool := (sts mill).all fun s => (List.range 6).all fun n => !(decide ((n : Int) ≤ millL s)) || mill.rats.any fun q =>
  mill.can s q && decide ((n : Int) ≤ millL (mill.next s q false)) && (decide (n = 0) || !(decide (s.dry < mill.run)) || decide ((n : Int) - 1 ≤ millL (mill.next s q true)))
theorem mill_check : mill.check = 0 := by decide +kernel
theorem mill_low : millLow = true := by decide +kernel
theorem mill_high : fatesOk mill [] millFl = true := by decide +kernel
theorem mill_pos : (millFl.all fun p => decide (0 ≤ p.2)) = true := by decide +kernel
theorem mill_all : ((sts mill).all fun s => millFl.contains (s, millL s + 1) && decide (-1 ≤ millL s) && decide (millL s ≤ 5)) = true := by decide +kernel
theorem mill_ok : mill.ok := (ok_of_check mill_check).1
theorem mill_srv : ∀ n : Nat, n ≤ 5 → ∀ s, s.right mill = true → (n : Int) ≤ millL s → Srv mill n s := by
  intro n
  induction n with
  | zero =>
    intro _ s hs hl
    refine srv_max (X := fun s => s.right mill = true ∧ ((0 : Nat) : Int) ≤ millL s) (fun u ⟨hu, hul⟩ => ?_) ⟨hs, hl⟩
    have h := List.all_eq_true.1 (List.all_eq_true.1 mill_low u (right_sts hu)) 0 (by simp)
    simp only [hul, decide_true, Bool.not_true, Bool.false_or] at h
    obtain ⟨q, hq, h⟩ := List.any_eq_true.1 h
    simp only [Bool.and_eq_true, decide_eq_true_eq] at h
    exact ⟨hu, q, hq, h.1.1, ⟨next_right (bad := false) mill_ok hu hq h.1.1 (by simp), h.1.2⟩, .inl rfl⟩
  | succ n ih =>
    intro hn s hs hl
    refine srv_max (X := fun s => s.right mill = true ∧ ((n + 1 : Nat) : Int) ≤ millL s) (fun u ⟨hu, hul⟩ => ?_) ⟨hs, hl⟩
    have h := List.all_eq_true.1 (List.all_eq_true.1 mill_low u (right_sts hu)) (n + 1) (by simp; omega)
    simp only [hul, decide_true, Bool.not_true, Bool.false_or] at h
    obtain ⟨q, hq, h⟩ := List.any_eq_true.1 h
    simp only [Bool.and_eq_true, Bool.or_eq_true, decide_eq_true_eq, Bool.not_eq_true', decide_eq_false_iff_not] at h
    refine ⟨hu, q, hq, h.1.1, ⟨next_right (bad := false) mill_ok hu hq h.1.1 (by simp), h.1.2⟩, ?_⟩
    by_cases hd : u.dry < mill.run
    · refine .inr (.inr (ih (by omega) _ (next_right (bad := true) mill_ok hu hq h.1.1 (fun _ => hd)) ?_))
      rcases h.2 with (h | h) | h
      · omega
      · exact absurd hd h
      · omega
    · exact .inr (.inl hd)
theorem mill_ls {s : Sta} (hs : s.right mill = true) : LS mill s (millL s) := by
  have h := List.all_eq_true.1 mill_all s (right_sts hs)
  simp only [Bool.and_eq_true, decide_eq_true_eq] at h
  refine .inr ⟨(millL s + 1).toNat, by omega, by omega, ?_, fun j hj => mill_srv j (by omega) s hs (by omega)⟩
  have hm := List.contains_iff_mem.1 h.1.1
  exact fates_sound millFl [] (fun _ h => by cases h) (fun p hp => by simpa using List.all_eq_true.1 mill_pos p hp) mill_high _ hm _ (by simp only; omega)
theorem mill_lat {σ : Sv} (h : Solv mill σ) {s : Sta} (hs : s.right mill = true) : lat σ.y s = millL s := (solv_spec mill_ok h hs).uniq (mill_ls hs)
def millY : List Int := (sts mill).foldl (fun y s => y.set s.ix (millL s)) (List.replicate 496 0)
theorem millY_all : ((sts mill).all fun s => decide (lat millY s = millL s)) = true := by decide +kernel
theorem mill_same {σ : Sv} (h : Solv mill σ) : Same mill σ.y millY := fun s hs => (mill_lat h hs).trans (Eq.symm (by simpa using List.all_eq_true.1 millY_all s (right_sts hs)))
theorem find_congr {α : Type} {p q : α → Bool} : ∀ {l : List α}, (∀ x ∈ l, p x = q x) → l.find? p = l.find? q
  | [], _ => rfl
  | a :: l, h => by rw [List.find?_cons, List.find?_cons, h a (by simp), find_congr fun x hx => h x (by simp [hx])]
theorem solv_lsa {t : Twn} (ht : t.ok) {σ : Sv} (h : Solv t σ) : LSA t σ.y := fun _ hs => solv_spec ht h hs
end Go.Proofs.Ytaldphhdkmchhaa
