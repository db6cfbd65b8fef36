/-
  Plain mathematics of layer 9 (bread), ninth part: states by the reference's numbers; what is allowed, picked; the reference's way to how long states last.
-/
import Derived.Test.YtaldphhdkmchhaaMg
import Derived.Test.YtaldphhdkmchhaaWk5
namespace Go.Proofs.Ytaldphhdkmchhaa
set_option linter.unusedSimpArgs false
set_option linter.unusedVariables false

/-- The number of a state among all of a town. -/
def ixr (t : Twn) (s : Sta) : Nat := (s.stock.toNat * (t.patience.toNat + 1) + s.short.toNat) * (t.run.toNat + 1) + s.dry.toNat
theorem ixr_get {t : Twn} {s : Sta} (h : s.right t = true) : (sts t)[ixr t s]? = some s ∧ ixr t s < t.nst := by
  have h1 := right_iff.1 h
  have h2 := nst_lt (t := t) (a := s.stock.toNat) (b := s.short.toNat) (c := s.dry.toNat) (by omega) (by omega) (by omega)
  refine ⟨?_, h2⟩
  rw [ixr, sts_get h2, staAt_of (by omega) (by omega)]
  obtain ⟨a, b, c⟩ := s
  simp only at h1 ⊢
  rw [Int.toNat_of_nonneg h1.1.1, Int.toNat_of_nonneg h1.2.1.1, Int.toNat_of_nonneg h1.2.2.1]
theorem ixr_lt {t : Twn} {s : Sta} (h : s.right t = true) : ixr t s < t.nst := (ixr_get h).2
theorem ixr_at {t : Twn} {s : Sta} {i : Nat} (h : (sts t)[i]? = some s) (hs : s.right t = true) : ixr t s = i := by
  have h1 := (ixr_get hs).1
  have hi := (List.getElem?_eq_some_iff.1 h).1
  have hj := (List.getElem?_eq_some_iff.1 h1).1
  have := (List.getElem?_inj hj (sts_nodup t)).1 (h1.trans h.symm)
  exact this
theorem ixr_inj {t : Twn} {s u : Sta} (hs : s.right t = true) (hu : u.right t = true) (h : ixr t s = ixr t u) : s = u := by
  have h1 := (ixr_get hs).1
  rw [h, (ixr_get hu).1] at h1
  cases h1; rfl
theorem ixr_int {t : Twn} (ht : t.ok) {s : Sta} (h : s.right t = true) : (ixr t s : Int) = (s.stock * (t.patience + 1) + s.short) * (t.run + 1) + s.dry := by
  have h1 := right_iff.1 h
  have h2 := ht.patience
  have h3 := ht.run
  unfold ixr
  push_cast
  rw [Int.toNat_of_nonneg h1.1.1, Int.toNat_of_nonneg h1.2.1.1, Int.toNat_of_nonneg h1.2.2.1, Int.toNat_of_nonneg h2.1, Int.toNat_of_nonneg h3.1]
theorem pickU_at {p : Rn → Bool} {l : List Rn} : ∀ (m : Nat), m ≤ l.length → (pickU p l m).length = ((l.take m).filter p).length ∧
    ∀ (k : Nat) (r : Int), (pickU p l m)[k]? = some r → ∃ q, 0 ≤ r ∧ l[r.toNat]? = some q ∧ p q = true ∧ ((l.take m).filter p)[k]? = some q
  | 0, _ => ⟨by simp [pickU], fun k r h => by simp [pickU] at h⟩
  | m + 1, hm => by
    obtain ⟨h1, h2⟩ := pickU_at (p := p) (l := l) m (by omega)
    obtain ⟨q, hq⟩ : ∃ q, l[m]? = some q := ⟨_, List.getElem?_eq_getElem (by omega)⟩
    rw [pickU_succ hq, List.take_add_one, hq, Option.toList_some, List.filter_append]
    cases hp : p q with
    | false => simp only [cond_false, List.filter_cons, hp, Bool.false_eq_true, if_false, List.filter_nil, List.append_nil]; exact ⟨h1, h2⟩
    | true =>
      simp only [cond_true, List.filter_cons, hp, if_true, List.filter_nil]
      refine ⟨by simp [h1], fun k r h => ?_⟩
      rcases Nat.lt_or_ge k (pickU p l m).length with h3 | h3
      · rw [List.getElem?_append_left h3] at h
        obtain ⟨q', a, b, c, d⟩ := h2 k r h
        exact ⟨q', a, b, c, by rw [List.getElem?_append_left (by omega)]; exact d⟩
      · rw [List.getElem?_append_right h3] at h
        have hk : k - (pickU p l m).length = 0 := by
          rcases Nat.eq_zero_or_pos (k - (pickU p l m).length) with h4 | h4
          · exact h4
          · rw [List.getElem?_eq_none (by simp; omega)] at h; cases h
        rw [hk] at h
        simp only [List.getElem?_cons_zero, Option.some.injEq] at h
        subst h
        refine ⟨q, by omega, by simpa using hq, hp, ?_⟩
        rw [List.getElem?_append_right (by omega), ← h1, hk]; rfl
/-- What is allowed in a state. -/
def canL (t : Twn) (s : Sta) : List Rn := t.rats.filter (t.can s)
def canU (t : Twn) (s : Sta) : List Int := pickU (t.can s) t.rats t.rats.length
theorem canU_len (t : Twn) (s : Sta) : (canU t s).length = (canL t s).length := by
  have := (pickU_at (p := t.can s) (l := t.rats) t.rats.length (Nat.le_refl _)).1
  rwa [List.take_length] at this
theorem canU_get {t : Twn} {s : Sta} {k : Nat} {r : Int} (h : (canU t s)[k]? = some r) : ∃ q, 0 ≤ r ∧ t.rats[r.toNat]? = some q ∧ t.can s q = true ∧ (canL t s)[k]? = some q := by
  have := (pickU_at (p := t.can s) (l := t.rats) t.rats.length (Nat.le_refl _)).2 k r h
  rwa [List.take_length] at this
theorem canU_le (t : Twn) (s : Sta) : (canU t s).length ≤ t.rats.length := pickU_len _ _ _
theorem can_mem {t : Twn} {s : Sta} {q : Rn} (h : q ∈ canL t s) : q ∈ t.rats ∧ t.can s q = true := List.mem_filter.1 h
theorem mem_can {t : Twn} {s : Sta} {q : Rn} (h : q ∈ t.rats) (h2 : t.can s q = true) : q ∈ canL t s := List.mem_filter.2 ⟨h, h2⟩
theorem can_le {t : Twn} {s : Sta} {q : Rn} (h : t.can s q = true) : q.sacks ≤ s.stock := by
  simp only [Twn.can, Bool.and_eq_true, decide_eq_true_eq] at h; exact h.1

/-! ### what is known of all states: by the reference's numbers, and by the program's -/
def bo (l : List Bool) (i : Nat) : Bool := l.getD i false
def io (l : List Int) (i : Nat) : Int := l.getD i 0
theorem bo_of {l : List Bool} {i : Nat} {x : Bool} (h : l[i]? = some x) : bo l i = x := by simp [bo, List.getD, h]
theorem io_of {l : List Int} {i : Nat} {x : Int} (h : l[i]? = some x) : io l i = x := by simp [io, List.getD, h]
theorem bo_get {l : List Bool} {i : Nat} (h : i < l.length) : l[i]? = some (bo l i) := by simp [bo, List.getD, List.getElem?_eq_getElem h]
theorem io_get {l : List Int} {i : Nat} (h : i < l.length) : l[i]? = some (io l i) := by simp [io, List.getD, List.getElem?_eq_getElem h]
theorem bo_set {l : List Bool} {i j : Nat} {x : Bool} (h : i < l.length) : bo (l.set i x) j = bif decide (i = j) then x else bo l j := by
  unfold bo
  simp only [List.getD, List.getElem?_set]
  by_cases e : i = j
  · subst e; simp [h]
  · simp [e]
theorem io_set {l : List Int} {i j : Nat} {x : Int} (h : i < l.length) : io (l.set i x) j = bif decide (i = j) then x else io l j := by
  unfold io
  simp only [List.getD, List.getElem?_set]
  by_cases e : i = j
  · subst e; simp [h]
  · simp [e]
structure Rel (t : Twn) (la y : List Int) : Prop where
  len : la.length = t.nst
  ylen : y.length = 496
  at_ : ∀ u, u.right t = true → io la (ixr t u) = lat y u
theorem Rel.set {t : Twn} (ht : t.ok) {la y : List Int} (h : Rel t la y) {s : Sta} (hs : s.right t = true) (v : Int) : Rel t (la.set (ixr t s) v) (y.set s.ix v) where
  len := by rw [List.length_set]; exact h.len
  ylen := by rw [List.length_set]; exact h.ylen
  at_ := fun u hu => by
    rw [io_set (by rw [h.len]; exact ixr_lt hs)]
    by_cases e : ixr t s = ixr t u
    · obtain rfl := ixr_inj hs hu e
      simp only [decide_true, cond_true]
      rw [lat_set_self (by rw [h.ylen]; exact ix_lt ht hs)]
    · simp only [e, decide_false, cond_false]
      rw [lat_set_ne (fun e2 => e (by rw [ix_inj ht hs hu e2])), h.at_ u hu]
def mkY (g : Sta → Int) : List Int := (List.range 496).map fun (i : Nat) => g ⟨(i / 16 : Nat), (i % 16 / 4 : Nat), (i % 4 : Nat)⟩
theorem mkY_lat {t : Twn} (ht : t.ok) (g : Sta → Int) {s : Sta} (h : s.right t = true) : lat (mkY g) s = g s := by
  have h1 := right_iff.1 h
  have h2 := ht.patience
  have h3 := ht.run
  have h4 := ix_lt ht h
  unfold lat mkY
  simp only [List.getD, List.getElem?_map, List.getElem?_range h4, Option.map_some, Option.getD_some]
  congr 1
  obtain ⟨a, b, c⟩ := s
  simp only [Sta.ix, Sta.mk.injEq] at *
  omega
theorem mkY_rel {t : Twn} (ht : t.ok) {la : List Int} (h : la.length = t.nst) : Rel t la (mkY fun s => io la (ixr t s)) where
  len := h
  ylen := by simp [mkY]
  at_ := fun u hu => (mkY_lat ht (fun s => io la (ixr t s)) hu).symm
/-- Some ration leads to states of nw after a good harvest, and to states of bf after a bad one. -/
def fedP (t : Twn) (nw bf : List Bool) (n : Int) (s : Sta) (q : Rn) : Bool :=
  bo nw (ixr t (t.next s q false)) && (decide (n = 0) || (!decide (s.dry < t.run) || bo bf (ixr t (t.next s q true))))
def fedB (t : Twn) (nw bf : List Bool) (n : Int) (s : Sta) : Bool := (canL t s).any (fedP t nw bf n s)
/-- The states of a list. -/
def InL (t : Twn) (l : List Bool) (s : Sta) : Prop := s.right t = true ∧ bo l (ixr t s) = true
theorem fed_srv {t : Twn} (ht : t.ok) {nw bf : List Bool} {n : Nat} (hb : ∀ s, s.right t = true → Bf t n s → bo bf (ixr t s) = true) (hn : ∀ s, Srv t n s → bo nw (ixr t s) = true) {s : Sta} (h : Srv t n s) : fedB t nw bf n s = true := by
  obtain ⟨h1, q, hq, hc, hg, hbad⟩ := srv_clo t n s h
  refine List.any_eq_true.2 ⟨q, mem_can hq hc, ?_⟩
  unfold fedP
  rw [hn _ hg, Bool.true_and]
  by_cases h0 : n = 0
  · simp [h0]
  · by_cases hd : s.dry < t.run
    · have h2 := (hbad.resolve_left h0).resolve_left (fun h => h hd)
      simp [hb _ (next_right ht h1 hq hc (fun _ => hd)) h2]
    · simp [hd]
theorem fed_clo {t : Twn} (ht : t.ok) {nw bf : List Bool} {n : Nat} (hb : ∀ s, s.right t = true → bo bf (ixr t s) = true → Bf t n s) (hf : ∀ s, s.right t = true → bo nw (ixr t s) = true → fedB t nw bf n s = true) {s : Sta} (hs : s.right t = true) (h : bo nw (ixr t s) = true) : Srv t n s := by
  refine srv_max (X := InL t nw) (fun u hu => ?_) ⟨hs, h⟩
  obtain ⟨q, hq, hp⟩ := List.any_eq_true.1 (hf u hu.1 hu.2)
  obtain ⟨hq, hc⟩ := can_mem hq
  simp only [fedP, Bool.and_eq_true, Bool.or_eq_true, decide_eq_true_eq, Bool.not_eq_true', decide_eq_false_iff_not] at hp
  refine ⟨hu.1, q, hq, hc, ⟨next_right ht hu.1 hq hc (by simp), hp.1⟩, ?_⟩
  rcases hp.2 with h0 | h0 | h0
  · exact .inl (by omega)
  · exact .inr (.inl h0)
  · by_cases hd : u.dry < t.run
    · exact .inr (.inr (hb _ (next_right ht hu.1 hq hc (fun _ => hd)) h0))
    · exact .inr (.inl hd)
/-- What is known ahead of number n. -/
def PL (t : Twn) (n : Nat) (s : Sta) (v : Int) : Prop := (v = (n : Int) - 1 ∧ ∀ j < n, Srv t j s) ∨ ∃ k : Nat, k < n ∧ v = k - 1 ∧ ¬ Srv t k s ∧ ∀ j < k, Srv t j s
theorem PL.yes {t : Twn} {n : Nat} {s : Sta} {v : Int} (h : PL t n s v) (hs : Srv t n s) : PL t (n + 1) s n := by
  refine .inl ⟨by omega, fun j hj => srv_le (by omega) hs⟩
theorem PL.no {t : Twn} {n : Nat} {s : Sta} {v : Int} (h : PL t n s v) (hs : ¬ Srv t n s) : PL t (n + 1) s v := by
  rcases h with ⟨h, h2⟩ | ⟨k, hk, h⟩
  · exact .inr ⟨n, by omega, h, hs, h2⟩
  · exact .inr ⟨k, by omega, h⟩
theorem PL.ls {t : Twn} {n : Nat} {s : Sta} {v : Int} (hn : n ≤ 496) (h : PL t (n + 1) s v) (hs : ¬ Srv t n s) : LS t s v := by
  rcases h with ⟨_, h2⟩ | ⟨k, hk, h⟩
  · exact absurd (h2 n (by omega)) hs
  · exact .inr ⟨k, by omega, h⟩
theorem srv_same {t : Twn} {n : Nat} (h0 : 0 < n) (h : ∀ s, Bf t n s → Srv t n s) : ∀ (m : Nat) {s : Sta}, n ≤ m → Srv t n s → Srv t m s
  | 0, s, hm, _ => by omega
  | m + 1, s, hm, hs => by
    rcases Nat.eq_or_lt_of_le hm with h1 | h1
    · rw [← h1]; exact hs
    · refine srv_max (X := Srv t n) (fun u hu => ?_) hs
      obtain ⟨a, q, b, c, d, e⟩ := srv_clo t n u hu
      refine ⟨a, q, b, c, d, ?_⟩
      rcases e with e | e | e
      · omega
      · exact .inr (.inl e)
      · exact .inr (.inr (srv_same h0 h m (by omega) (h _ e)))
def SolR (t : Twn) (la : List Int) : Prop := la.length = t.nst ∧ ∀ s, s.right t = true → LS t s (io la (ixr t s))
theorem SolR.rel {t : Twn} (ht : t.ok) {la : List Int} (h : SolR t la) : ∃ y, Rel t la y ∧ LSA t y :=
  ⟨_, mkY_rel ht h.1, fun s hs => by rw [mkY_lat ht _ hs]; exact h.2 s hs⟩
theorem Rel.same {t : Twn} {la y y' : List Int} (h : Rel t la y) (hy : LSA t y) (hy' : LSA t y') (hl : y'.length = 496) : Rel t la y' := ⟨h.len, hl, fun u hu => (h.at_ u hu).trans (LS.uniq (hy u hu) (hy' u hu))⟩
theorem cnt_set {l : List Bool} : ∀ {i : Nat}, i < l.length → bo l i = true → (l.set i false).count true + 1 = l.count true := by
  induction l with
  | nil => intro i h; simp at h
  | cons x l ih =>
    intro i hi h
    cases i with
    | zero =>
      have : x = true := by simpa [bo] using h
      subst this
      simp
    | succ i =>
      have := ih (i := i) (by simpa using hi) (by simpa [bo] using h)
      simp only [List.set_cons_succ, List.count_cons]
      omega
theorem cnt_lt {a b : List Bool} (hl : a.length = b.length) (h : ∀ i, i < a.length → bo a i = true → bo b i = true) : a.count true ≤ b.count true ∧ ((∃ i, i < a.length ∧ bo a i ≠ bo b i) → a.count true < b.count true) := by
  induction a generalizing b with
  | nil => refine ⟨by simp, ?_⟩; rintro ⟨i, hi, _⟩; simp at hi
  | cons x a ih =>
    cases b with
    | nil => simp at hl
    | cons z b =>
      have h1 := ih (b := b) (by simpa using hl) (fun i hi hh => by simpa [bo] using h (i + 1) (by simpa using hi) (by simpa [bo] using hh))
      have h0 : x = true → z = true := by simpa [bo] using h 0 (by simp)
      have hx : (if x == true then 1 else 0) ≤ (if z == true then 1 else (0 : Nat)) := by cases x <;> cases z <;> simp_all
      simp only [List.count_cons]
      refine ⟨by omega, ?_⟩
      rintro ⟨i, hi, hne⟩
      cases i with
      | zero =>
        have : x = false ∧ z = true := by cases x <;> cases z <;> simp_all [bo]
        simp only [this.1, this.2]
        simp
        omega
      | succ i =>
        have := h1.2 ⟨i, by simpa using hi, by simpa [bo] using hne⟩
        omega
theorem PL.end_ {t : Twn} {n : Nat} {s : Sta} {v : Int} (h : PL t (n + 1) s v) (h0 : 0 < n) (hn : n ≤ 497) (hs : ¬ Bf t n s) : LS t s v := by
  obtain ⟨m, rfl⟩ : ∃ m, n = m + 1 := ⟨n - 1, by omega⟩
  have hs : ¬ Srv t m s := hs
  rcases h with ⟨_, h2⟩ | ⟨k, hk, h1, h2, h3⟩
  · exact absurd (h2 m (by omega)) hs
  · rcases Nat.lt_or_ge m k with h | h
    · exact absurd (h3 m h) hs
    · exact .inr ⟨k, by omega, h1, h2, h3⟩
theorem bf_right {t : Twn} {n : Nat} {s : Sta} (h0 : 0 < n) (h : Bf t n s) : s.right t = true := by
  obtain ⟨m, rfl⟩ : ∃ m, n = m + 1 := ⟨n - 1, by omega⟩
  exact srv_right h
theorem all_succ {i : Nat} {P : Prop} {f g : Nat → Bool} : (P ∧ ∀ j, j < i + 1 → f j = g j) ↔ (P ∧ (∀ j, j < i → f j = g j) ∧ f i = g i) :=
  ⟨fun h => ⟨h.1, fun j hj => h.2 j (by omega), h.2 i (by omega)⟩, fun h => ⟨h.1, fun j hj => by
    rcases Nat.lt_or_ge j i with h1 | h1
    · exact h.2.1 j h1
    · obtain rfl : j = i := by omega
      exact h.2.2⟩⟩
end Go.Proofs.Ytaldphhdkmchhaa
