/- Walks of the functions of the program, and the laws that join them: what the last theorem of this claim needs, in order. -/
import Derived.Test.YtelegnmfhjfbaaaWd5
namespace Go.Proofs.Ytelegnmfhjfbaaa
set_option linter.unusedSimpArgs false
set_option linter.unusedVariables false
open Go
theorem cal113 : cal Try.prog 113 = true := by kernel_rfl
theorem sc155 : scal Try.prog 155 = true := by kernel_rfl
structure Rz (d : Dsk) (n : Nat) (days : Int) (s t : HSt) : Prop where
  inS : d.inS t
  le : undP d.n s t = true
  lv : t = s ∨ d.lvl n t ≤ days
theorem Rz.same {d : Dsk} {n : Nat} {days : Int} {s : HSt} (h : d.inS s) : Rz d n days s s := ⟨h, undP_iff.2 fun _ _ => Int.le_refl _, .inl rfl⟩
def mz (d : Dsk) (s : HSt) : Int := (na d.most 0 - na s 0) + (na d.most 1 - na s 1) + (na d.most 2 - na s 2) + (na d.most 3 - na s 3)
def rzm (d : Dsk) (s : HSt) (i : Nat) : Nat := (mz d s).toNat + (d.n - i)
theorem mz_nn {d : Dsk} (hd : d.ok) {s : HSt} (hs : d.inS s) : 0 ≤ mz d s := by
  have hn := hd.n
  have key : ∀ k < 4, na s k ≤ na d.most k := fun k hk => by
    have h2 := hd.most.at_ k hk
    rcases Nat.lt_or_ge k d.n with h | h
    · rcases hs.at_ k h with h1 | h1 <;> omega
    · have := hs.out k hk h; omega
  have k0 := key 0 (by omega); have k1 := key 1 (by omega); have k2 := key 2 (by omega); have k3 := key 3 (by omega)
  unfold mz; omega
theorem na_set4 {s : HSt} {i j : Nat} {v : Int} (hs : s.length = 4) (hi : i < 4) : na (s.set i v) j = if i = j then v else na s j := by
  unfold na
  rw [List.getD_eq_getElem?_getD, List.getD_eq_getElem?_getD, List.getElem?_set]
  by_cases h : i = j
  · subst h; rw [if_pos rfl, if_pos (by omega), if_pos rfl]; rfl
  · rw [if_neg h, if_neg h]
theorem up_facts {d : Dsk} (hd : d.ok) {s : HSt} (hs : d.inS s) {i : Nat} (hi : i < d.n) (h : na s i < na d.most i) :
    d.inS (s.set i (na s i + 1)) ∧ undP d.n s (s.set i (na s i + 1)) = true ∧ rzm d (s.set i (na s i + 1)) i < rzm d s i := by
  have hn := hd.n
  have hsl := hs.len
  have hmv := hd.ever i hi
  have hsi := hs.at_ i hi
  have ha : ∀ j, na (s.set i (na s i + 1)) j = if i = j then na s i + 1 else na s j := fun j => na_set4 hsl (by omega)
  have hin : d.inS (s.set i (na s i + 1)) := by
    refine ⟨by rw [List.length_set]; exact hsl, fun k hk => ?_, fun k hk hk' => ?_⟩
    · rw [ha]
      by_cases e : i = k
      · subst e; rw [if_pos rfl]; right; omega
      · rw [if_neg e]; exact hs.at_ k hk
    · rw [ha, if_neg (by omega)]; exact hs.out k hk hk'
  refine ⟨hin, undP_iff.2 fun k hk => ?_, ?_⟩
  · rw [ha]; split
    · rename_i e; subst e; omega
    · exact Int.le_refl _
  · have h0 := mz_nn hd hin
    have e : mz d (s.set i (na s i + 1)) = mz d s - 1 := by
      unfold mz
      rw [ha, ha, ha, ha]
      have hi4 : i < 4 := by omega
      match i, hi4 with
      | 0, _ => simp; omega
      | 1, _ => simp; omega
      | 2, _ => simp; omega
      | 3, _ => simp; omega
    unfold rzm
    rw [e] at h0 ⊢
    omega
theorem Rz.trans {d : Dsk} {n : Nat} {days : Int} {s u t : HSt} (h : Rz d n days u t) (hle : undP d.n s u = true) (hl : d.lvl n u ≤ days) : Rz d n days s t :=
  ⟨h.inS, undP_trans hle h.le, .inr (by rcases h.lv with rfl | h1; exact hl; exact h1)⟩
theorem kpt_next {d : Dsk} (hd : d.ok) {s t : HSt} (hs : d.inS s) {l : List Nat} (hl : l ∈ d.trs false) (hn : d.next s l = some t) {v w : Int} (hv : Kpt d s v) (hw : Kpt d t w) (h : v ≠ 1000000) : w < v := by
  have ht := d.next_inS hd hs (d.trs_lt hl) hn
  have key : ∀ j : Nat, (w = 1000000 ∨ (j : Int) ≤ w) → ((j + 1 : Nat) : Int) ≤ v := fun j hj => by
    obtain ⟨u, c, hp⟩ := (kpt_pth hd ht hw j).2 hj
    rcases (kpt_pth hd hs hv (j + 1)).1 ⟨u, _, d.pth_cons hl hn hp⟩ with h1 | h1
    · exact absurd h1 h
    · exact h1
  have h1 := kpt_nn hw; have h2 := kpt_nn hv
  by_cases h3 : w = 1000000
  · have := key 20000 (.inl h3); omega
  · have := key w.toNat (.inr (by omega)); omega
structure Bq (d : Dsk) (n : Nat) (s0 : HSt) (V : List HSt) (j : Nat) : Prop where
  nd : V.Nodup
  sts : ∀ v ∈ V, d.inS v
  lv : ∀ v ∈ V, d.lvl n v ≤ d.lvl n s0
  fst : ∃ v ∈ V, undP d.n s0 v = true
  cov : ∀ i v, i < j → V[i]? = some v → ∀ l ∈ d.trs false, ∀ t, d.next v l = some t → ∃ u ∈ V, undP d.n t u = true ∧ d.lvl n u < d.lvl n v
theorem Bq.start {d : Dsk} {n : Nat} {s0 u : HSt} (h : Rz d n (d.lvl n s0) s0 u) : Bq d n s0 [u] 0 :=
  ⟨by simp, fun v hv => by rw [List.mem_singleton.1 hv]; exact h.inS, fun v hv => by
    rw [List.mem_singleton.1 hv]
    rcases h.lv with rfl | h1
    · exact Int.le_refl _
    · exact h1, ⟨u, by simp, h.le⟩, fun i v hi => absurd hi (Nat.not_lt_zero _)⟩
theorem Bq.add {d : Dsk} {n : Nat} {s0 u : HSt} {V : List HSt} {j : Nat} (h : Bq d n s0 V j) (hj : j ≤ V.length) (hu : d.inS u) (hn : u ∉ V) (hl : d.lvl n u ≤ d.lvl n s0) : Bq d n s0 (V ++ [u]) j where
  nd := List.nodup_append.2 ⟨h.nd, by simp, fun x hx y hy e => hn (by rw [← List.mem_singleton.1 hy, ← e]; exact hx)⟩
  sts v hv := by
    rcases List.mem_append.1 hv with hv | hv
    · exact h.sts v hv
    · rw [List.mem_singleton.1 hv]; exact hu
  lv v hv := by
    rcases List.mem_append.1 hv with hv | hv
    · exact h.lv v hv
    · rw [List.mem_singleton.1 hv]; exact hl
  fst := by obtain ⟨v, hv, h1⟩ := h.fst; exact ⟨v, List.mem_append_left _ hv, h1⟩
  cov i v hi hv l hl t ht := by
    rw [List.getElem?_append_left (by omega)] at hv
    obtain ⟨w, hw, h1⟩ := h.cov i v hi hv l hl t ht
    exact ⟨w, List.mem_append_left _ hw, h1⟩
def CvK (d : Dsk) (n : Nat) (V : List HSt) (p : HSt) (k : Nat) : Prop := ∀ i l, i < k → (d.trs false)[i]? = some l → ∀ t, d.next p l = some t → ∃ u ∈ V, undP d.n t u = true ∧ d.lvl n u < d.lvl n p
theorem CvK.more {d : Dsk} {n : Nat} {V : List HSt} {p : HSt} {k : Nat} {l : List Nat} (h : CvK d n V p k) (hk : (d.trs false)[k]? = some l) (hl : ∀ t, d.next p l = some t → ∃ u ∈ V, undP d.n t u = true ∧ d.lvl n u < d.lvl n p) : CvK d n V p (k + 1) := fun i m hi hm => by
  rcases Nat.lt_or_ge i k with h1 | h1
  · exact h i m h1 hm
  · obtain rfl : i = k := by omega
    rw [hk] at hm; cases hm; exact hl
theorem CvK.add {d : Dsk} {n : Nat} {V : List HSt} {p : HSt} {k : Nat} (h : CvK d n V p k) (u : HSt) : CvK d n (V ++ [u]) p k := fun i l hi hl t ht => by
  obtain ⟨w, hw, h1⟩ := h i l hi hl t ht
  exact ⟨w, List.mem_append_left _ hw, h1⟩
theorem Bq.next {d : Dsk} {n : Nat} {s0 p : HSt} {V : List HSt} {j : Nat} (h : Bq d n s0 V j) (hp : V[j]? = some p) (hc : CvK d n V p (d.trs false).length) : Bq d n s0 V (j + 1) :=
  ⟨h.nd, h.sts, h.lv, h.fst, fun i v hi hv l hl t ht => by
    rcases Nat.lt_or_ge i j with h1 | h1
    · exact h.cov i v h1 hv l hl t ht
    · obtain rfl : i = j := by omega
      rw [hp] at hv; cases hv
      obtain ⟨k, hk⟩ := List.getElem?_of_mem hl
      exact hc k l (List.getElem?_eq_some_iff.1 hk).1 hk t ht⟩
theorem Bq.few {d : Dsk} (hd : d.ok) {n : Nat} {s0 : HSt} {V : List HSt} {j : Nat} (h : Bq d n s0 V j) : V.length ≤ d.nst := by
  have := nodup_len h.nd (m := d.sts) fun t ht => (d.mem_sts hd t).2 (h.sts t ht)
  rw [d.sts_len] at this
  exact this
def wlV (d : Dsk) (n : Nat) (V : List HSt) : WL := V.map fun v => (v.take d.n, d.lvl n v)
theorem pad_take {d : Dsk} {s : HSt} (hn : d.n ≤ 4) (h : d.inS s) : pad (s.take d.n) = s := by
  have hl := h.len
  refine ext4 (pad_len' (by rw [List.length_take]; omega)) hl fun k hk => ?_
  rw [pad_na]
  by_cases hkn : k < d.n
  · unfold na; rw [List.getD_eq_getElem?_getD, List.getD_eq_getElem?_getD, List.getElem?_take, if_pos hkn]
  · rw [h.out k hk (by omega)]
    unfold na
    rw [List.getD_eq_getElem?_getD, List.getElem?_eq_none (by rw [List.length_take]; omega)]; rfl
theorem undP_take {n : Nat} {s t : List Int} : undP n s (t.take n) = undP n s t := by
  rw [Bool.eq_iff_iff, undP_iff, undP_iff]
  have key : ∀ k < n, na (t.take n) k = na t k := fun k hk => by unfold na; rw [List.getD_eq_getElem?_getD, List.getD_eq_getElem?_getD, List.getElem?_take, if_pos hk]
  exact ⟨fun h k hk => by rw [← key k hk]; exact h k hk, fun h k hk => by rw [key k hk]; exact h k hk⟩
theorem Bq.wall {b : Barn} (hok : b.ok) {n : Nat} (hn : n ≤ 14641) (hfx : b.dsk.alive (n + 1) = b.dsk.alive n) {V : List HSt} (h : Bq b.dsk n b.state V V.length) (hm : b.dsk.lvl n b.state ≠ 1000000) :
    shwV b (wlV b.dsk n V) = (b.dsk.lvl n b.state, 0) := by
  have hd := b.dsk_ok hok
  have hmn := hok.many
  have hdn : b.dsk.n = b.bins.length := rfl
  have hks := kpt_of (b.state_sts hok) hn hfx
  have hk : ∀ v ∈ V, Kpt b.dsk v (b.dsk.lvl n v) := fun v hv => kpt_of ((b.dsk.mem_sts hd v).2 (h.sts v hv)) hn hfx
  have hr : ∀ v ∈ V, 0 ≤ b.dsk.lvl n v ∧ b.dsk.lvl n v ≤ 14641 := fun v hv => by
    have h1 := kpt_nn (hk v hv); have h2 := kpt_nn hks; have h3 := h.lv v hv; omega
  have hf := h.few hd
  have hn14 := (b.dsk.nst_le hd).2
  have hwe : wlErr b (wlV b.dsk n V) = 0 := by
    obtain ⟨v0, hv0, _⟩ := h.fst
    have hpos := List.length_pos_of_mem hv0
    refine wlErr_ok (by unfold wlV; rw [List.length_map]; simp [inB]; omega) fun y hy => ?_
    obtain ⟨v, hv, rfl⟩ := List.mem_map.1 hy
    have hi := h.sts v hv
    have hvl := hi.len
    have hvr := hr v hv
    refine stErr_ok (by dsimp only; rw [List.length_take]; omega) (by simp [inB]; omega) fun k hk => ?_
    obtain ⟨x, hx⟩ : ∃ x, b.bins[k]? = some x := ⟨_, List.getElem?_eq_getElem hk⟩
    have he := (b.most_ever hok hx).1
    have hev := (hd.ever k hk).2.1
    have hna : na (v.take b.dsk.n) k = na v k := by unfold na; rw [List.getD_eq_getElem?_getD, List.getD_eq_getElem?_getD, List.getElem?_take, if_pos (hdn ▸ hk)]
    dsimp only
    rw [hna]
    unfold badL
    rw [bin_getD hx]
    rcases hi.at_ k hk with ⟨h1, h2⟩ | ⟨h1, h2, h3⟩
    · rw [decide_eq_true (he.1 h1), h2]; rfl
    · rw [decide_eq_false (fun h0 => h1 (he.2 h0)), cond_false]
      have : inB (na v k) 0 10 = true := by simp [inB]; omega
      rw [this]; rfl
  have hmem : ∀ v ∈ V, (v.take b.dsk.n, b.dsk.lvl n v) ∈ wlV b.dsk n V := fun v hv => List.mem_map.2 ⟨v, hv, rfl⟩
  have hws : ∀ s ∈ wlV b.dsk n V, wlSt b.dsk (wlV b.dsk n V) s = true := fun s hs => by
    obtain ⟨v, hv, rfl⟩ := List.mem_map.1 hs
    unfold wlSt
    rw [List.all_eq_true]
    intro l hl
    unfold wlL
    dsimp only
    rw [pad_take hd.n.2 (h.sts v hv)]
    cases hnx : b.dsk.next v l with
    | none => rfl
    | some t =>
      obtain ⟨i, hi⟩ := List.getElem?_of_mem hv
      obtain ⟨u, hu, h1, h2⟩ := h.cov i v (List.getElem?_eq_some_iff.1 hi).1 hi l hl t hnx
      have := shnV_mem (n := b.dsk.n) (t := t) (hmem u hu) (by dsimp only; rw [undP_take]; exact h1)
      exact decide_eq_true (by dsimp only at this; omega)
  obtain ⟨v0, hv0, hu0⟩ := h.fst
  have hle : shnV b.dsk.n (wlV b.dsk n V) b.state ≤ b.dsk.lvl n b.state := by
    have := shnV_mem (n := b.dsk.n) (t := b.state) (hmem v0 hv0) (by dsimp only; rw [undP_take]; exact hu0)
    have h3 := h.lv v0 hv0
    dsimp only at this; omega
  have hkn := kpt_nn hks
  have hne : shnV b.dsk.n (wlV b.dsk n V) b.state ≠ 1000000 := by omega
  have hy := shw_yes hwe hws hne
  have hs := wall_sound hok (W := wlV b.dsk n V) (by rw [hy]) hks
  rw [hy] at hs ⊢
  congr 1
  dsimp only at hs
  omega
def kvL (d : Dsk) (n : Nat) (V : List HSt) : KV := V.map fun s => (s, .int .i64 (d.lvl n s))
theorem kvL_len {d : Dsk} {n : Nat} {V : List HSt} (h : ∀ s ∈ V, s.length = 4) : ∀ e ∈ kvL d n V, e.1.length = 4 := fun e he => by
  obtain ⟨s, hs, rfl⟩ := List.mem_map.1 he
  exact h s hs
theorem kvL_put {d : Dsk} {n : Nat} : ∀ {V : List HSt} {s : HSt}, s ∉ V → (kvL d n V).put s (.int .i64 (d.lvl n s)) = kvL d n (V ++ [s])
  | [], s, _ => rfl
  | v :: V, s, h => by
    have h1 : ¬ v = s := fun e => h (by simp [e])
    have ih := kvL_put (d := d) (n := n) (V := V) (s := s) (fun hm => h (by simp [hm]))
    show KV.put ((v, _) :: kvL d n V) s _ = _
    unfold KV.put
    rw [decide_eq_false h1, cond_false, ih]; rfl
theorem kvL_get {d : Dsk} {n : Nat} : ∀ {V : List HSt} {s : HSt}, s ∈ V → (kvL d n V).get s = some (.int .i64 (d.lvl n s))
  | [], s, h => by cases h
  | v :: V, s, h => by
    show KV.get ((v, _) :: kvL d n V) s = _
    unfold KV.get
    rw [List.find?_cons]
    dsimp only
    by_cases e : v = s
    · rw [decide_eq_true e, e]; rfl
    · rw [decide_eq_false e]
      have hm : s ∈ V := by rcases List.mem_cons.1 h with h1 | h1; exact absurd h1.symm e; exact h1
      exact kvL_get hm
theorem kvL_no {d : Dsk} {n : Nat} : ∀ {V : List HSt} {s : HSt}, s ∉ V → (kvL d n V).get s = none
  | [], s, _ => rfl
  | v :: V, s, h => by
    show KV.get ((v, _) :: kvL d n V) s = _
    unfold KV.get
    rw [List.find?_cons]
    dsimp only
    rw [decide_eq_false (fun e => h (by simp [e]))]
    exact kvL_no (d := d) (n := n) (V := V) (s := s) (fun hm => h (by simp [hm]))
theorem PE.slArrHi {P : Program} {L : Slots} {d : Option Tmp} {ty : TypeId} {pos : String} {af : Array Edge} {g : Option (Nat × Bool)} {T m n b off h : Nat} {x y : Operand} {k : IntKind} (hT : arN P T = some (m, n)) (hx : ev L x = some (.pointer (some ⟨b, off, none⟩))) (hy : ev L y = some (.int k h)) (hh : h ≤ m) :
    PE P L ⟨d, .slice T x none (some y) none, ty, pos, af, g⟩ (.slice (some ⟨b, off, none⟩) h m) := fun ρ hρ w => by
  obtain ⟨e, i, hu, hi, rfl⟩ := arN_und hT
  have ha : (⟨b, off, none⟩ : Addr).add (0 * i.size) = ⟨b, off, none⟩ := by rw [addr_add]; simp
  have hb : ∀ c w, (Instr.sliceBound (.int k (h : Int)) m c).run P w = .ok h w := fun c w => by rw [run_bound (by omega)]; simp
  simp only [execOp, hρ _ _ hx, hρ _ _ hy, Option.map_none, Option.map_some, Instr.sliceAt, Sem.run_bind, run_underlying hu, Result.andThen, Instr.sureAddr, Sem.run_pure, Instr.sliceBounds, hb, sizeOf, typeInfo, program, hi, Sem.run]
  rw [ha]
  by_cases h0 : m = 0 <;> simp [h0]
theorem rowsI {b e n : Nat} {l : List Int} {H : Heap} {R : Facts} [m : Mem1 b (cel e (ints l)) H] : ∀ w, St H R w → RowsA (some ⟨b, 0, none⟩) 1 (irows (l.take n)) w := fun w hs i q hi => by
  rw [List.getElem?_map] at hi
  obtain ⟨v, hv, rfl⟩ := Option.map_eq_some_iff.1 hi
  refine ⟨rfl, b, 0, rfl, fun j x hx => ?_⟩
  have hj : j = 0 := by
    have := (List.getElem?_eq_some_iff.1 hx).1
    simp at this; exact this
  subst hj
  rw [cell_of (hs.held _ m.mem)]
  have hl : l[i]? = some v := by
    rw [List.getElem?_take] at hv
    split at hv
    · exact hv
    · cases hv
  simp only [List.getElem?_cons_zero, Option.some.injEq] at hx
  subst hx
  have h1 := ints_get hl
  simpa using h1
theorem c_raise1 (b : Barn) (hok : b.ok) (ab : Option Addr) (cb bd m : Nat) (n : Nat) (hn : n ≤ 14641) (kv : KV) (hkv : KvOk b.dsk n kv) (x4 x6 : Nat) (days : Int) (s : HSt) (hs : b.dsk.inS s) (i : Nat) (hi : i ≤ b.bins.length)
    (ih : ∀ (s' : HSt) (i' : Nat) (H : Heap) (R : Facts) [hD : MemRows (some ⟨bd, 0, none⟩) 18 [dcs b (b.sl ab cb) b.lasts b.most m] R] [hX : MemRows (some ⟨x4, 0, none⟩) 1 [[.pointer (some ⟨bd, 0, none⟩)]] R] [hY : MemRows (some ⟨x6, 0, none⟩) 1 [[.func (.func 113) #[] #[.pointer (some ⟨x4, 0, none⟩), .pointer (some ⟨x6, 0, none⟩)]]] R] [hK : MemF (KpF m kv) R], b.dsk.inS s' → i' ≤ b.bins.length → rzm b.dsk s' i' < rzm b.dsk s i → Fn Try.prog 113 [stv s', .int .i64 days, .int .i64 i', .pointer (some ⟨x4, 0, none⟩), .pointer (some ⟨x6, 0, none⟩)] H R (fun v H' R' => ∃ t, Rz b.dsk n days s' t ∧ v = stv t ∧ H' = H ∧ R' = R)) (H : Heap) (R : Facts) [hD : MemRows (some ⟨bd, 0, none⟩) 18 [dcs b (b.sl ab cb) b.lasts b.most m] R] [hX : MemRows (some ⟨x4, 0, none⟩) 1 [[.pointer (some ⟨bd, 0, none⟩)]] R] [hY : MemRows (some ⟨x6, 0, none⟩) 1 [[.func (.func 113) #[] #[.pointer (some ⟨x4, 0, none⟩), .pointer (some ⟨x6, 0, none⟩)]]] R] [hK : MemF (KpF m kv) R] :
    Fn Try.prog 113 [stv s, .int .i64 days, .int .i64 i, .pointer (some ⟨x4, 0, none⟩), .pointer (some ⟨x6, 0, none⟩)] H R (fun v H' R' => ∃ t, Rz b.dsk n days s t ∧ v = stv t ∧ H' = H ∧ R' = R) := by
 have hmn := hok.many
 have hdk := b.dsk_ok hok
 have hl4 := hdk.lasts.len
 have hm4 := hdk.most.len
 refine fn_of Try.func113 rfl Try.ntmps113 rfl ?_
 refine sy_seq ?_
 refine sy_tx' [0, 1] rfl ?_
 refine bx rfl rfl rfl (fun b5 => ?_)
 refine alc rfl zl127 rfl (fun b8 => ?_)
 refine sy_seq ?_
 refine sy_seq ?_
 refine sy_tx' [0, 1, 2, 3, 4, 5, 6, 7] rfl ?_
 refine sp rfl (PE.move rfl) rfl ?_
 refine spL rfl rfl (lfB (sz := 1) sc123 rfl) rfl ?_
 refine sp rfl (PE.nilCheck rfl) rfl ?_
 refine sp rfl (PE.fieldAddr fo130_0 rfl) rfl ?_
 refine sp rfl (PE.fieldAddr fo25_3 rfl) rfl ?_
 refine spL rfl rfl (lfB (sz := 18) sc23 rfl) rfl ?_
 refine sp rfl (PE.lenSl isl23 rfl) rfl ?_
 refine sp rfl (PE.eql rfl rfl) rfl ?_
 refine sy_cond rfl (fun hc0 => ?_) (fun hc0 => ?_)
 try simp only [decide_eq_true_eq, decide_eq_false_iff_not, Bool.and_eq_true, Bool.or_eq_true, Bool.not_eq_true', Int.not_le, Int.not_lt] at hc0
 refine sy_seq ?_
 refine sy_tx' [0, 1] rfl ?_
 refine spL rfl rfl (lhA (rest := []) (ints s) ag127 rfl (by rw [List.append_nil]; rfl) (by rw [ints_length]; exact hs.len)) rfl ?_
 refine stoA rfl rfl rfl cn127 rfl (by rw [ints_length]; exact hs.len) rfl (ints_one _) ?_
 refine sy_ret ?_
 exact sy_return (vs := [_]) rfl (.cons (RV.cell rfl (lhA (rest := []) (ints s) ag127 rfl (by rw [List.append_nil]; rfl) (by rw [ints_length]; exact hs.len))) .nil) rfl ⟨s, Rz.same hs, rfl, rfl, rfl⟩ (fun w h => (h.del b8).del b5)
 try simp only [decide_eq_true_eq, decide_eq_false_iff_not, Bool.and_eq_true, Bool.or_eq_true, Bool.not_eq_true', Int.not_le, Int.not_lt] at hc0
 refine sy_skip ?_
 refine sy_seq ?_
 refine sy_seq ?_
 refine sy_tx' [0, 1, 2] rfl ?_
 refine spL rfl rfl (lhA (rest := []) (ints s) ag127 rfl (by rw [List.append_nil]; rfl) (by rw [ints_length]; exact hs.len)) rfl ?_
 refine alc rfl zl127 rfl (fun b9 => ?_)
 refine stoA rfl rfl rfl cn127 rfl (by rw [ints_length]; exact hs.len) rfl (ints_one _) ?_
 refine sy_seq ?_
 refine sy_draw [0, 1, 3, 0, 0, 8, 40, 120, 248, 511] (.tk 0 (.tk 1 (.ld 2 (.ld 3 (.tk 4 (.tk 5 (.tk 6 (.tk 7 (.ld 8 (.tk 9 .done)))))))))) mixed (by kernel_rfl) ?_
 refine tk rfl (PE.move rfl) rfl ?_
 refine tk rfl (PE.indexArr ar127 rfl rfl (by omega) (by omega)) rfl ?_
 refine ld rfl rfl (lh sc3 rfl (st_at (s := s) (k := i) (hs.len) (by omega) (by show 0 + ((i : Nat) : Int).toNat * 1 = _; omega))) rfl ?_
 refine ld rfl rfl (lfB (sz := 1) sc123 rfl) rfl ?_
 refine tk rfl (PE.move rfl) rfl ?_
 refine tk rfl (PE.nilCheck rfl) rfl ?_
 refine tk rfl (PE.fieldAddr fo130_2 rfl) rfl ?_
 refine tk rfl (PE.indexArr ar127 rfl rfl (by omega) (by omega)) rfl ?_
 refine ld rfl rfl (lfB (sz := 18) (x := .int .i64 (na b.most i)) sc3 (dcs_most (k := i) hl4 hm4 (by omega) (by show 0 + 13 + ((i : Nat) : Int).toNat * 1 = _; omega))) rfl ?_
 refine tk rfl (PE.lss rfl rfl) rfl ?_
 refine sy_cond rfl (fun hc1 => ?_) (fun hc1 => ?_)
 try simp only [decide_eq_true_eq, decide_eq_false_iff_not, Bool.and_eq_true, Bool.or_eq_true, Bool.not_eq_true', Int.not_le, Int.not_lt] at hc1
 have hmi := (b.dsk.inS_sml hdk hs).at_ i (by omega)
 have hmi2 := hdk.most.at_ i (by omega)
 obtain ⟨hup, hule, hum⟩ := up_facts hdk hs (i := i) (show i < b.bins.length by omega) hc1
 have hkt := hkv.get _ ((b.dsk.mem_sts hdk _).2 hup)
 refine sy_seq ?_
 refine sy_tx' [0, 1, 2, 3, 4, 5] rfl ?_
 refine sp rfl (PE.move rfl) rfl ?_
 refine sp rfl (PE.indexArr ar127 rfl rfl (by omega) (by omega)) rfl ?_
 refine spL rfl rfl (lh sc3 rfl (st_at (s := s) (k := i) (hs.len) (by omega) (by show 0 + ((i : Nat) : Int).toNat * 1 = _; omega))) rfl ?_
 refine sp rfl (PE.add rfl rfl (by omega)) rfl ?_
 refine sp rfl (PE.indexArr ar127 rfl rfl (by omega) (by omega)) rfl ?_
 refine stoE (l' := ints (s.set i (na s i + 1))) rfl rfl rfl cn3 rfl rfl rfl (st_put (k := i) hs.len (by omega) (by show 0 + ((i : Nat) : Int).toNat * 1 = i; omega)) (by rw [ints_length, hs.len]; show 0 + ((i : Nat) : Int).toNat * 1 + 1 ≤ 4; omega) ?_
 refine sy_seq ?_
 refine sy_draw [0, 1, 3, 7, 0, 31, 0, 127] (.ld 0 (.tk 1 (.tk 2 (.ld 3 (.ld 4 (.ld 5 (.tk 6 (.tk 7 .done)))))))) mixed (by kernel_rfl) ?_
 refine ld rfl rfl (lfB (sz := 1) sc123 rfl) rfl ?_
 refine tk rfl (PE.nilCheck rfl) rfl ?_
 refine tk rfl (PE.fieldAddr fo130_3 rfl) rfl ?_
 refine ld rfl rfl (lfB (sz := 18) sc128 (dcs_map hl4 hm4)) rfl ?_
 refine ld rfl rfl (lhA (rest := []) (ints (s.set i (na s i + 1))) ag127 rfl (by rw [List.append_nil]; rfl) (by rw [ints_length]; exact hup.len)) rfl ?_
 refine ldK rfl rfl rfl (lk_fact (b := true) kv (s.set i (na s i + 1)) mke128 (KeyT.of eqf127 noa127) (run_zv zv3) hup.len hkv.len (fun w hs => hs.now hK.mem) false) rfl ?_
 rw [hkt]
 refine tk rfl (PE.move rfl) rfl ?_
 refine tk rfl (PE.leq rfl rfl) rfl ?_
 refine sy_cond rfl (fun hc2 => ?_) (fun hc2 => ?_)
 try simp only [decide_eq_true_eq, decide_eq_false_iff_not, Bool.and_eq_true, Bool.or_eq_true, Bool.not_eq_true', Int.not_le, Int.not_lt] at hc2
 refine sy_seq ?_
 refine sy_tx' [0, 1, 2, 3, 4, 5] rfl ?_
 refine spL rfl rfl (lfB (sz := 1) sc155 rfl) rfl ?_
 refine spL rfl rfl (lhA (rest := []) (ints (s.set i (na s i + 1))) ag127 rfl (by rw [List.append_nil]; rfl) (by rw [ints_length]; exact hup.len)) rfl ?_
 refine sp rfl (PE.move rfl) rfl ?_
 refine sp rfl (PE.move rfl) rfl ?_
 refine clF rfl rfl (cal113) rfl rfl (ih (s.set i (na s i + 1)) i _ _ hup hi hum) ?_
 rintro _ _ _ ⟨t, ht, rfl, rfl, rfl⟩
 refine stoA rfl rfl rfl cn127 rfl (by rw [ints_length]; exact ht.inS.len) rfl (ints_one _) ?_
 refine sy_ret ?_
 exact sy_return (vs := [_]) rfl (.cons (RV.cell rfl (lhA (rest := []) (ints t) ag127 rfl (by rw [List.append_nil]; rfl) (by rw [ints_length]; exact ht.inS.len))) .nil) rfl ⟨t, ht.trans hule hc2, rfl, rfl, rfl⟩ (fun w h => ((h.del b9).del b8).del b5)
 try simp only [decide_eq_true_eq, decide_eq_false_iff_not, Bool.and_eq_true, Bool.or_eq_true, Bool.not_eq_true', Int.not_le, Int.not_lt] at hc2
 refine sy_skip ?_
 refine sy_seq ?_
 refine sy_tx' [0, 1, 2, 3, 4, 5, 6] rfl ?_
 refine spL rfl rfl (lfB (sz := 1) sc155 rfl) rfl ?_
 refine spL rfl rfl (lhA (rest := []) (ints s) ag127 rfl (by rw [List.append_nil]; rfl) (by rw [ints_length]; exact hs.len)) rfl ?_
 refine sp rfl (PE.move rfl) rfl ?_
 refine sp rfl (PE.move rfl) rfl ?_
 refine sp rfl (PE.add rfl rfl (by omega)) rfl ?_
 rw [show (i : Int) + 1 = ((i + 1 : Nat) : Int) by omega]
 refine clF rfl rfl (cal113) rfl rfl (ih s (i + 1) _ _ hs (by omega) (by unfold rzm; have e : b.dsk.n = b.bins.length := rfl; omega)) ?_
 rintro _ _ _ ⟨t, ht, rfl, rfl, rfl⟩
 refine stoA rfl rfl rfl cn127 rfl (by rw [ints_length]; exact ht.inS.len) rfl (ints_one _) ?_
 refine sy_ret ?_
 exact sy_return (vs := [_]) rfl (.cons (RV.cell rfl (lhA (rest := []) (ints t) ag127 rfl (by rw [List.append_nil]; rfl) (by rw [ints_length]; exact ht.inS.len))) .nil) rfl ⟨t, ht, rfl, rfl, rfl⟩ (fun w h => ((h.del b9).del b8).del b5)
 try simp only [decide_eq_true_eq, decide_eq_false_iff_not, Bool.and_eq_true, Bool.or_eq_true, Bool.not_eq_true', Int.not_le, Int.not_lt] at hc1
 refine sy_skip ?_
 refine sy_seq ?_
 refine sy_tx' [0, 1, 2, 3, 4, 5, 6] rfl ?_
 refine spL rfl rfl (lfB (sz := 1) sc155 rfl) rfl ?_
 refine spL rfl rfl (lhA (rest := []) (ints s) ag127 rfl (by rw [List.append_nil]; rfl) (by rw [ints_length]; exact hs.len)) rfl ?_
 refine sp rfl (PE.move rfl) rfl ?_
 refine sp rfl (PE.move rfl) rfl ?_
 refine sp rfl (PE.add rfl rfl (by omega)) rfl ?_
 rw [show (i : Int) + 1 = ((i + 1 : Nat) : Int) by omega]
 refine clF rfl rfl (cal113) rfl rfl (ih s (i + 1) _ _ hs (by omega) (by unfold rzm; have e : b.dsk.n = b.bins.length := rfl; omega)) ?_
 rintro _ _ _ ⟨t, ht, rfl, rfl, rfl⟩
 refine stoA rfl rfl rfl cn127 rfl (by rw [ints_length]; exact ht.inS.len) rfl (ints_one _) ?_
 refine sy_ret ?_
 exact sy_return (vs := [_]) rfl (.cons (RV.cell rfl (lhA (rest := []) (ints t) ag127 rfl (by rw [List.append_nil]; rfl) (by rw [ints_length]; exact ht.inS.len))) .nil) rfl ⟨t, ht, rfl, rfl, rfl⟩ (fun w h => ((h.del b9).del b8).del b5)
theorem c_raiseN (b : Barn) (hok : b.ok) (ab : Option Addr) (cb bd m : Nat) (n : Nat) (hn : n ≤ 14641) (kv : KV) (hkv : KvOk b.dsk n kv) (x4 x6 : Nat) (days : Int) : ∀ (N : Nat) (s : HSt) (i : Nat) (H : Heap) (R : Facts) [hD : MemRows (some ⟨bd, 0, none⟩) 18 [dcs b (b.sl ab cb) b.lasts b.most m] R] [hX : MemRows (some ⟨x4, 0, none⟩) 1 [[.pointer (some ⟨bd, 0, none⟩)]] R] [hY : MemRows (some ⟨x6, 0, none⟩) 1 [[.func (.func 113) #[] #[.pointer (some ⟨x4, 0, none⟩), .pointer (some ⟨x6, 0, none⟩)]]] R] [hK : MemF (KpF m kv) R], b.dsk.inS s → i ≤ b.bins.length → rzm b.dsk s i ≤ N → Fn Try.prog 113 [stv s, .int .i64 days, .int .i64 i, .pointer (some ⟨x4, 0, none⟩), .pointer (some ⟨x6, 0, none⟩)] H R (fun v H' R' => ∃ t, Rz b.dsk n days s t ∧ v = stv t ∧ H' = H ∧ R' = R) := by
  intro N
  induction N with
  | zero => intro s i H R _ _ _ _ hs hi hm; exact c_raise1 b hok ab cb bd m n hn kv hkv x4 x6 days s hs i hi (fun s' i' H R _ _ _ _ _ _ h => absurd h (by omega)) H R
  | succ N ih => intro s i H R _ _ _ _ hs hi hm; exact c_raise1 b hok ab cb bd m n hn kv hkv x4 x6 days s hs i hi (fun s' i' H R _ _ _ _ h1 h2 h3 => ih s' i' H R h1 h2 (by omega)) H R
theorem c_raise (b : Barn) (hok : b.ok) (ab : Option Addr) (cb bd m : Nat) (n : Nat) (hn : n ≤ 14641) (kv : KV) (hkv : KvOk b.dsk n kv) (x4 x6 : Nat) (days : Int) (s : HSt) (hs : b.dsk.inS s) (H : Heap) (R : Facts) [hD : MemRows (some ⟨bd, 0, none⟩) 18 [dcs b (b.sl ab cb) b.lasts b.most m] R] [hX : MemRows (some ⟨x4, 0, none⟩) 1 [[.pointer (some ⟨bd, 0, none⟩)]] R] [hY : MemRows (some ⟨x6, 0, none⟩) 1 [[.func (.func 113) #[] #[.pointer (some ⟨x4, 0, none⟩), .pointer (some ⟨x6, 0, none⟩)]]] R] [hK : MemF (KpF m kv) R] : Fn Try.prog 113 [stv s, .int .i64 days, .int .i64 0, .pointer (some ⟨x4, 0, none⟩), .pointer (some ⟨x6, 0, none⟩)] H R (fun v H' R' => ∃ t, Rz b.dsk n days s t ∧ v = stv t ∧ H' = H ∧ R' = R) :=
  c_raiseN b hok ab cb bd m n hn kv hkv x4 x6 days _ s 0 H R hs (Nat.zero_le _) (Nat.le_refl _)
theorem c_Clone (bk e n c : Nat) (l : List Int) (hn : n ≤ l.length) (hl : l.length ≤ 1000000) (H : Heap) (R : Facts) [hM : Mem1 bk (cel e (ints l)) H] :
    Fn Try.prog 114 [.slice (some ⟨bk, 0, none⟩) n c] H R (fun v H' R' => ∃ o : OSl 3 1 (irows (l.take n)), v = o.fs ∧ H' = o.G ++ H ∧ R' = R) := by
 refine fn_of Try.func114 rfl Try.ntmps114 rfl ?_
 refine sy_seq ?_
 refine sy_tx' [0] rfl ?_
 refine sp rfl (PE.assign rfl) rfl ?_
 refine sy_seq ?_
 refine sy_seq ?_
 refine sy_tx' [0, 1] rfl ?_
 refine sp rfl (PE.move rfl) rfl ?_
 refine sp rfl (PE.eqlNil isl40 rfl rfl) rfl ?_
 refine sy_condF rfl ?_
 refine sy_skip ?_
 refine sy_seq ?_
 refine sy_tx' [0, 1, 2, 3] rfl ?_
 refine bsl0 rfl sl40 rfl (fun o5 ho5 => ?_)
 refine sp rfl (PE.move rfl) rfl ?_
 refine apO o5 rfl ap40 rfl rfl (rowsI (n := n) (l := l) (e := e)) (by rw [irows_len, List.length_take]; omega) (by unfold onecells; rw [List.all_eq_true]; intro r hr; obtain ⟨x, _, rfl⟩ := List.mem_map.1 hr; rfl) (by rw [irows_len, List.length_take]; simp only [List.length_nil]; omega) rfl (fun o7 => ?_)
 refine sp rfl (PE.assign rfl) rfl ?_
 refine sy_ret ?_
 exact sy_return (vs := [_]) rfl (.cons (RV.tmp rfl) .nil) rfl ⟨o7.cast (List.nil_append _), rfl, rfl, rfl⟩ (fun _ h => h)
end Go.Proofs.Ytelegnmfhjfbaaa
namespace Go.Proofs.Ytelegnmfhjfbaaa
set_option linter.unusedSimpArgs false
set_option linter.unusedVariables false
open Go
theorem ap91 : apT Try.prog 91 = some (93, 2, 32) := by kernel_rfl
theorem cal114 : cal Try.prog 114 = true := by kernel_rfl
theorem cn128 : cellN Try.prog 128 = some 1 := by kernel_rfl
theorem cn155 : cellN Try.prog 155 = some 1 := by kernel_rfl
theorem pl93 : placeL Try.prog 93 = some [(0, 1), (1, 1)] := by kernel_rfl
theorem sl91 : slE Try.prog 91 = some (93, 2) := by kernel_rfl
theorem zl128 : zeroL Try.prog 128 = some ([.map none]) := by kernel_rfl
theorem zl155 : zeroL Try.prog 155 = some ([.nilFunc]) := by kernel_rfl
def WallQ (b : Barn) (H : Heap) (R : Facts) : Value → Heap → Facts → Prop := fun v H' R' => H' = H ∧
  ((b.check ≠ 0 ∧ v = .tuple #[.slice none 0 0, .int .i64 b.check] ∧ R' = R) ∨
   (b.check = 0 ∧ Kpt b.dsk b.state 1000000 ∧ v = .tuple #[.slice none 0 0, .int .i64 6] ∧ R' = R) ∨
   (b.check = 0 ∧ ∃ (m : Int) (W : List WE) (aw : Option Addr) (cw : Nat), m ≠ 1000000 ∧ Kpt b.dsk b.state m ∧ shwV b (wls W) = (m, 0) ∧ W.length ≤ b.dsk.nst ∧ W.length ≤ cw ∧ (∀ x ∈ W, x.d ≤ m) ∧ v = .tuple #[.slice aw W.length cw, .int .i64 0] ∧
      R' = RowsA aw 2 (werows W) :: InW W :: R))
theorem lvl_mono {d : Dsk} (hd : d.ok) {n : Nat} (hn : n ≤ 14641) (hf : d.alive (n + 1) = d.alive n) {s t : HSt} (hs : d.inS s) (ht : d.inS t) (h : undP d.n s t = true) : d.lvl n s ≤ d.lvl n t :=
  (Les.kpt (d := d) (d' := d) ⟨rfl, Int.le_refl _, fun _ _ => Int.le_refl _⟩ hd hd hs ht (undP_iff.1 h) (kpt_of ((d.mem_sts hd s).2 hs) hn hf) (kpt_of ((d.mem_sts hd t).2 ht) hn hf)).1
theorem wlV_snoc {d : Dsk} {n : Nat} {V : List HSt} {j : Nat} {p : HSt} (h : V[j]? = some p) : wlV d n (V.take (j + 1)) = wlV d n (V.take j) ++ [(p.take d.n, d.lvl n p)] := by
  rw [take_snoc h]; unfold wlV; rw [List.map_append]; rfl
theorem strows_drop {V : List HSt} {j : Nat} {p : HSt} (h : V[j]? = some p) : strows (V.drop j) = ints p :: strows (V.drop (j + 1)) := by
  rw [List.drop_eq_getElem_cons (List.getElem?_eq_some_iff.1 h).1, (List.getElem?_eq_some_iff.1 h).2]; rfl
theorem strows_add {V : List HSt} {j : Nat} (h : j ≤ V.length) (u : HSt) : strows (V.drop j) ++ [ints u] = strows ((V ++ [u]).drop j) := by
  rw [List.drop_append_of_le_length h]; unfold strows; rw [List.map_append]; rfl
theorem lk_factE {H : Heap} {R : Facts} {kv : KV} {s : HSt} {v : Value} {m : Nat} (hs : s.length = 4) (hk : ∀ e ∈ kv, e.1.length = 4) (hg : kv.get s = some v) (hm : ∀ w, St H R w → w.heap[m]? = some (mapO true kv)) :
    ∀ w, St H R w → Lkp Try.prog 128 (.map (some m)) (mkv true s) false v w := fun w hw => by
  have h := lk_fact (b := true) kv s mke128 (KeyT.of eqf127 noa127) (run_zv zv3) hs hk hm false w hw
  rw [hg] at h
  exact h
set_option maxHeartbeats 1000000 in
theorem c_Wall (b : Barn) (ab : Option Addr) (cb : Nat) (hl : b.bins.length ≤ 9223372036854775807) (hr : b.rise.length = 6) (H : Heap) (R : Facts) [hB : MemRows ab 4 (brows b.bins) R] :
    Fn Try.prog 60 [b.v (b.sl ab cb)] H R (WallQ b H R) := by
 refine fnM_of Try.func60 rfl Try.ntmps60 rfl ?_
 refine sy_seq ?_
 refine sy_tx' [0, 1, 2] rfl ?_
 refine bx rfl rfl rfl (fun b1 => ?_)
 refine sp rfl (PE.assign rfl) rfl ?_
 refine sp rfl (PE.assign rfl) rfl ?_
 refine sy_seq ?_
 refine sy_tx' [0, 1, 2, 3, 4, 5, 6, 7] rfl ?_
 refine spL rfl rfl (lhA (btl b (b.sl ab cb)) ag25 rfl rfl rfl) rfl ?_
 refine cl rfl cal89 rfl rfl (c_opened b ab cb hl hr _ _) ?_
 rintro _ _ _ (⟨hck, rfl, rfl, rfl⟩ | ⟨hck, bd, m, rfl, rfl, rfl⟩)
 refine sp rfl (PE.move rfl) rfl ?_
 refine sp rfl (PE.extract rfl rfl) rfl ?_
 refine sp rfl (PE.extract rfl rfl) rfl ?_
 refine alc rfl zl123 rfl (fun b4 => ?_)
 refine sto rfl rfl rfl cn123 rfl rfl rfl rfl ?_
 refine sp rfl (PE.assign rfl) rfl ?_
 refine sy_seq ?_
 refine sy_seq ?_
 refine sy_tx' [0, 1] rfl ?_
 refine sp rfl (PE.move rfl) rfl ?_
 refine sp rfl (PE.neq rfl rfl) rfl ?_
 refine sy_condT (congrArg (fun b => some (Value.bool b)) (decide_eq_true hck)) ?_
 refine sy_seq ?_
 refine sy_tx' [0, 1, 2] rfl ?_
 refine sp rfl (PE.move rfl) rfl ?_
 refine sp rfl (PE.assign rfl) rfl ?_
 refine sp rfl (PE.assign rfl) rfl ?_
 refine sy_ret ?_
 exact sy_returnM [] (fun _ h => h) rfl (.cons (RV.tmp rfl) (.cons (RV.tmp rfl) .nil)) rfl ⟨rfl, .inl ⟨hck, rfl, rfl⟩⟩ (fun w h => (h.del b4).del b1)
 ·
  have hok := Barn.ok_of hr hck
  have hdk := b.dsk_ok hok
  have hl4 := hdk.lasts.len
  have hm4 := hdk.most.len
  have hmn := hok.many
  refine sp rfl (PE.move rfl) rfl ?_
  refine sp rfl (PE.extract rfl rfl) rfl ?_
  refine sp rfl (PE.extract rfl rfl) rfl ?_
  refine alc rfl zl123 rfl (fun b4 => ?_)
  refine sto rfl rfl rfl cn123 rfl rfl rfl rfl ?_
  refine sp rfl (PE.assign rfl) rfl ?_
  refine sy_seq ?_
  refine sy_seq ?_
  refine sy_tx' [0, 1] rfl ?_
  refine sp rfl (PE.move rfl) rfl ?_
  refine sp rfl (PE.neq rfl rfl) rfl ?_
  refine sy_condF (rfl) ?_
  refine sy_skip ?_
  refine sy_seq ?_
  refine sy_tx' [0, 1] rfl ?_
  refine spL rfl rfl (lh sc123 rfl rfl) rfl ?_
  refine sy_pull m ?_
  refine cl rfl cal90 rfl rfl (c_work b hok ab cb bd m _ _) ?_
  rintro v _ _ ⟨n, kv, hn, hfx, hkv, rfl, rfl⟩
  have hst := b.state_sts hok
  have hsi := b.state_inS hok
  have hks := kpt_of hst hn hfx
  have hkg := hkv.get _ hst
  refine sy_seq ?_
  refine sy_seq ?_
  refine sy_draw [0, 1, 3, 7, 0, 16, 63, 127] (.ld 0 (.tk 1 (.tk 2 (.ld 3 (.ld 4 (.big 5 (.ld 6 (.tk 7 .done)))))))) mixed (by kernel_rfl) ?_
  refine ld rfl rfl (lh sc123 rfl rfl) rfl ?_
  refine tk rfl (PE.nilCheck rfl) rfl ?_
  refine tk rfl (PE.fieldAddr fo130_3 rfl) rfl ?_
  refine ld rfl rfl (lfB (sz := 18) sc128 (dcs_map hl4 hm4)) rfl ?_
  refine ld rfl rfl (lhA (btl b (b.sl ab cb)) ag25 rfl rfl rfl) rfl ?_
  refine clV rfl cal91 rfl rfl (c_state b ab cb hok _ _) ?_
  refine bg (fun w hs => ⟨trivial, (lfB (sz := 18) sc128 (dcs_map hl4 hm4)) w hs, (lh sc123 rfl rfl) w hs, trivial⟩) ?_
  refine ldK rfl rfl rfl ((lk_held (b := true) kv b.state mke128 (KeyT.of eqf127 noa127) (run_zv zv3) (b.state_sml hok).len hkv.len false)) rfl ?_
  rw [hkg]
  refine tk rfl (PE.eql rfl rfl) rfl ?_
  refine sy_cond rfl (fun hc1 => ?_) (fun hc1 => ?_)
  try simp only [decide_eq_true_eq, decide_eq_false_iff_not, Bool.and_eq_true, Bool.or_eq_true, Bool.not_eq_true', Int.not_le, Int.not_lt] at hc1
  refine sy_seq ?_
  refine sy_tx' [0, 1] rfl ?_
  refine sp rfl (PE.assign rfl) rfl ?_
  refine sp rfl (PE.assign rfl) rfl ?_
  refine sy_ret ?_
  exact sy_returnM [] (fun _ h => h) rfl (.cons (RV.tmp rfl) (.cons (RV.tmp rfl) .nil)) rfl ⟨rfl, .inr (.inl ⟨hck, hc1 ▸ hks, rfl, rfl⟩)⟩ (fun w h => St.sub (((h.del m).del b4).del b1))
  ·
   try simp only [decide_eq_true_eq, decide_eq_false_iff_not, Bool.and_eq_true, Bool.or_eq_true, Bool.not_eq_true', Int.not_le, Int.not_lt] at hc1
   have hkr := kpt_nn hks
   have hn14 := (b.dsk.nst_le hdk).2
   refine sy_skip ?_
   refine sy_seq ?_
   refine sy_tx' [0] rfl ?_
   refine alc rfl zl155 rfl (fun b6 => ?_)
   refine sy_seq ?_
   refine sy_tx' [0, 1] rfl ?_
   refine sp rfl (PE.makeFunc rfl rfl) rfl ?_
   refine sto rfl rfl rfl cn155 rfl rfl rfl rfl ?_
   refine sy_seq ?_
   refine sy_tx' [0, 1, 2, 3] rfl ?_
   refine Sy.heap (fun w h => St.kpf (h.pull m)) ?_
   refine Sy.heap (fun w h => St.rows (sz := 1) (rows := [[.pointer (some ⟨bd, 0, none⟩)]]) (rest := []) (h.pull b4) (by simp)) ?_
   refine Sy.heap (fun w h => St.rows (sz := 1) (rows := [[.func (.func 113) #[] #[.pointer (some ⟨b4, 0, none⟩), .pointer (some ⟨b6, 0, none⟩)]]]) (rest := []) (h.pull b6) (by simp)) ?_
   refine spL rfl rfl (lhA (btl b (b.sl ab cb)) ag25 rfl rfl rfl) rfl ?_
   refine clV rfl cal91 rfl rfl (c_state b ab cb hok _ _) ?_
   refine alc rfl zl127 rfl (fun b7 => ?_)
   refine stoA rfl rfl rfl cn127 rfl (by rw [ints_length]; exact hsi.len) rfl (ints_one _) ?_
   refine sy_seq ?_
   refine sy_draw [0, 0, 0, 4, 12, 28, 0, 124, 255, 511, 0, 2047] (.ld 0 (.ld 1 (.ld 2 (.tk 3 (.tk 4 (.ld 5 (.ld 6 (.ld 7 (.any (.alt 8 (.any (.alt 9 (.big 10 (.big 11 .done)) (.alt 10 (.big 9 (.big 11 .done)) .stop))) (.alt 10 (.big 8 (.big 9 (.big 11 .done))) .stop))))))))))) mixed (by kernel_rfl) ?_
   refine ld rfl rfl (lfB (sz := 1) sc155 rfl) rfl ?_
   refine ld rfl rfl (lhA (rest := []) (ints b.state) ag127 rfl (by rw [List.append_nil]; rfl) (by rw [ints_length]; exact hsi.len)) rfl ?_
   refine ld rfl rfl (lfB (sz := 1) sc123 rfl) rfl ?_
   refine tk rfl (PE.nilCheck rfl) rfl ?_
   refine tk rfl (PE.fieldAddr fo130_3 rfl) rfl ?_
   refine ld rfl rfl (lfB (sz := 18) sc128 (dcs_map hl4 hm4)) rfl ?_
   refine ld rfl rfl (lhA (rest := []) (ints b.state) ag127 rfl (by rw [List.append_nil]; rfl) (by rw [ints_length]; exact hsi.len)) rfl ?_
   refine ldK rfl rfl rfl (lk_factE hsi.len hkv.len hkg (fun w hs => hs.now (MemF.mem (f := KpF m kv)))) rfl ?_
   refine sy_alt ?_ ?_
   ·
    refine clF rfl rfl (cal113) rfl rfl (c_raise b hok ab cb bd m n hn kv hkv b4 b6 (b.dsk.lvl n b.state) b.state hsi _ _) ?_
    rintro _ _ _ ⟨uf, huf, rfl, rfl, rfl⟩
    obtain ⟨f0, f1, f2, f3, rfl⟩ := list4 huf.inS.len
    refine bg (fun w hs => ⟨trivial, trivial, trivial, trivial, trivial, trivial, trivial⟩) ?_
    refine sy_alt ?_ ?_
    ·
     refine bsl (out := [_, _, _, _]) rfl sl156 zl127 rfl rfl rfl rfl rfl rfl (fun b47 => ?_)
     refine bg (fun w hs => trivial) ?_
     refine alc rfl zl156 rfl (fun b8 => ?_)
     refine bg (fun w hs => trivial) ?_
     refine sto rfl rfl rfl cn156 rfl rfl rfl rfl ?_
     refine bg (fun w hs => trivial) ?_
     refine sy_seq ?_
     refine sy_cut (ι := {x : (Nat × Nat × Nat × Nat) × HSt // Rz b.dsk n (b.dsk.lvl n b.state) b.state x.2}) (fun x => ⟨[(1, .pointer (some ⟨b1, 0, none⟩)), (4, .pointer (some ⟨b4, 0, none⟩)), (6, .pointer (some ⟨b6, 0, none⟩)), (8, .pointer (some ⟨x.1.1.1, 0, none⟩)), (9, .pointer (some ⟨x.1.1.2.1, 0, none⟩))], (x.1.1.1, cel 156 [.slice (some ⟨x.1.1.2.2.2, 0, none⟩) 1 1]) :: (x.1.1.2.1, cel 128 [.map (some x.1.1.2.2.1)]) :: (x.1.1.2.2.1, mapO true [(x.1.2, .int .i64 (b.dsk.lvl n b.state))]) :: (x.1.1.2.2.2, cel 127 (ints x.1.2)) :: (b1, cel 25 (btl b (b.sl ab cb))) :: H, RowsA (some ⟨b6, 0, none⟩) 1 [[.func (.func 113) #[] #[.pointer (some ⟨b4, 0, none⟩), .pointer (some ⟨b6, 0, none⟩)]]] :: RowsA (some ⟨b4, 0, none⟩) 1 [[.pointer (some ⟨bd, 0, none⟩)]] :: KpF m kv :: RowsA (some ⟨bd, 0, none⟩) 18 [dcs b (b.sl ab cb) b.lasts b.most m] :: R⟩) ?_ ?_
     refine sy_draw [0, 0, 2, 6, 0, 16, 48, 112, 0, 496, 1023, 2047, 0, 8191] (.ld 1 (.tk 2 (.ld 3 (.ld 4 (.tk 5 (.tk 6 (.ld 7 (.ld 8 (.ld 9 (.any (.alt 0 (.any (.alt 10 (.tk 11 (.big 12 (.big 13 .done))) (.alt 12 (.big 10 (.tk 11 (.big 13 .done))) .stop))) (.alt 12 (.big 0 (.big 10 (.tk 11 (.big 13 .done)))) .stop)))))))))))) mixed (by kernel_rfl) ?_
     refine ld rfl rfl (lh sc156 rfl rfl) rfl ?_
     refine tk rfl (PE.indexAddr el156 rfl rfl (by decide) (by decide)) rfl ?_
     refine ld rfl rfl (lhA (rest := []) (ints [f0, f1, f2, f3]) ag127 rfl (by rw [List.append_nil]; rfl) (by rw [ints_length]; exact rfl)) rfl ?_
     refine ld rfl rfl (lfB (sz := 1) sc123 rfl) rfl ?_
     refine tk rfl (PE.nilCheck rfl) rfl ?_
     refine tk rfl (PE.fieldAddr fo130_3 rfl) rfl ?_
     refine ld rfl rfl (lfB (sz := 18) sc128 (dcs_map hl4 hm4)) rfl ?_
     refine ld rfl rfl (lhA (rest := []) (ints b.state) ag127 rfl (by rw [List.append_nil]; rfl) (by rw [ints_length]; exact hsi.len)) rfl ?_
     refine ldK rfl rfl rfl (lk_factE hsi.len hkv.len hkg (fun w hs => hs.now (MemF.mem (f := KpF m kv)))) rfl ?_
     refine sy_alt ?_ ?_
     refine mkm rfl rfl true (fun m48 => ?_)
     refine bg (fun w hs => ⟨(lk_factE hsi.len hkv.len hkg (fun w hs => hs.now (MemF.mem (f := KpF m kv)))) w hs, (lhA (rest := []) (ints b.state) ag127 rfl (by rw [List.append_nil]; rfl) (by rw [ints_length]; exact hsi.len)) w hs, (lfB (sz := 18) sc128 (dcs_map hl4 hm4)) w hs, (lfB (sz := 1) sc123 rfl) w hs, (lhA (rest := []) (ints [f0, f1, f2, f3]) ag127 rfl (by rw [List.append_nil]; rfl) (by rw [ints_length]; exact rfl)) w hs, (lh sc156 rfl rfl) w hs, trivial⟩) ?_
     refine sy_alt ?_ ?_
     refine mpi [] [f0, f1, f2, f3] rfl mke128 (KeyT.of eqf127 noa127) rfl rfl rfl rfl (by simp) ?_
     refine bg (fun w hs => ⟨trivial, trivial, trivial, trivial, trivial, trivial, trivial⟩) ?_
     refine tk rfl (PE.move rfl) rfl ?_
     refine alc rfl zl128 rfl (fun b9 => ?_)
     refine bg (fun w hs => trivial) ?_
     refine sto rfl rfl rfl cn128 rfl rfl rfl rfl ?_
     refine bg (fun w hs => trivial) ?_
     exact sy_cutEnd ⟨((b8, b9, m48, b47), [f0, f1, f2, f3]), huf⟩ (by repeat' first | exact Sub.nil | apply Sub.cons | rfl | (simp [lk]; omega)) (fun w h => (((((h.pull b1).pull b47).pull m48).pull b9).pull b8 |>.del b7))
     refine sy_alt ?_ ?_
     refine alc rfl zl128 rfl (fun b9 => ?_)
     refine bg (fun w hs => ⟨(lk_factE hsi.len hkv.len hkg (fun w hs => hs.now (MemF.mem (f := KpF m kv)))) w hs, (lhA (rest := []) (ints b.state) ag127 rfl (by rw [List.append_nil]; rfl) (by rw [ints_length]; exact hsi.len)) w hs, (lfB (sz := 18) sc128 (dcs_map hl4 hm4)) w hs, (lfB (sz := 1) sc123 rfl) w hs, (lhA (rest := []) (ints [f0, f1, f2, f3]) ag127 rfl (by rw [List.append_nil]; rfl) (by rw [ints_length]; exact rfl)) w hs, (lh sc156 rfl rfl) w hs, trivial⟩) ?_
     refine mpi [] [f0, f1, f2, f3] rfl mke128 (KeyT.of eqf127 noa127) rfl rfl rfl rfl (by simp) ?_
     refine bg (fun w hs => ⟨trivial, trivial, trivial, trivial, trivial, trivial, trivial⟩) ?_
     refine tk rfl (PE.move rfl) rfl ?_
     refine sto rfl rfl rfl cn128 rfl rfl rfl rfl ?_
     refine bg (fun w hs => trivial) ?_
     exact sy_cutEnd ⟨((b8, b9, m48, b47), [f0, f1, f2, f3]), huf⟩ (by repeat' first | exact Sub.nil | apply Sub.cons | rfl | (simp [lk]; omega)) (fun w h => (((((h.pull b1).pull b47).pull m48).pull b9).pull b8 |>.del b7))
     exact sy_stop
     refine sy_alt ?_ ?_
     refine alc rfl zl128 rfl (fun b9 => ?_)
     refine bg (fun w hs => ⟨(lk_factE hsi.len hkv.len hkg (fun w hs => hs.now (MemF.mem (f := KpF m kv)))) w hs, (lhA (rest := []) (ints b.state) ag127 rfl (by rw [List.append_nil]; rfl) (by rw [ints_length]; exact hsi.len)) w hs, (lfB (sz := 18) sc128 (dcs_map hl4 hm4)) w hs, (lfB (sz := 1) sc123 rfl) w hs, (lhA (rest := []) (ints [f0, f1, f2, f3]) ag127 rfl (by rw [List.append_nil]; rfl) (by rw [ints_length]; exact rfl)) w hs, (lh sc156 rfl rfl) w hs, trivial⟩) ?_
     refine mkm rfl rfl true (fun m48 => ?_)
     refine bg (fun w hs => ⟨(lk_factE hsi.len hkv.len hkg (fun w hs => hs.now (MemF.mem (f := KpF m kv)))) w hs, (lhA (rest := []) (ints b.state) ag127 rfl (by rw [List.append_nil]; rfl) (by rw [ints_length]; exact hsi.len)) w hs, (lfB (sz := 18) sc128 (dcs_map hl4 hm4)) w hs, (lfB (sz := 1) sc123 rfl) w hs, (lhA (rest := []) (ints [f0, f1, f2, f3]) ag127 rfl (by rw [List.append_nil]; rfl) (by rw [ints_length]; exact rfl)) w hs, (lh sc156 rfl rfl) w hs, trivial⟩) ?_
     refine mpi [] [f0, f1, f2, f3] rfl mke128 (KeyT.of eqf127 noa127) rfl rfl rfl rfl (by simp) ?_
     refine bg (fun w hs => ⟨trivial, trivial, trivial, trivial, trivial, trivial, trivial⟩) ?_
     refine tk rfl (PE.move rfl) rfl ?_
     refine sto rfl rfl rfl cn128 rfl rfl rfl rfl ?_
     refine bg (fun w hs => trivial) ?_
     exact sy_cutEnd ⟨((b8, b9, m48, b47), [f0, f1, f2, f3]), huf⟩ (by repeat' first | exact Sub.nil | apply Sub.cons | rfl | (simp [lk]; omega)) (fun w h => (((((h.pull b1).pull b47).pull m48).pull b9).pull b8 |>.del b7))
     exact sy_stop
     ·
      rintro ⟨⟨⟨b8, b9, m48, b47⟩, uf⟩, huf⟩
      dsimp only at huf ⊢
      obtain ⟨f0, f1, f2, f3, rfl⟩ := list4 huf.inS.len
      have hfl : b.dsk.lvl n [f0, f1, f2, f3] = b.dsk.lvl n b.state := by
        have h1 := lvl_mono hdk hn hfx hsi huf.inS huf.le
        have h2 := (Bq.start huf).lv [f0, f1, f2, f3] (by simp)
        omega
      refine sy_seq ?_
      refine sy_tx' [0] rfl ?_
      refine sp rfl (PE.assign rfl) rfl ?_
      refine sy_seq ?_
      refine sy_block ?_
      obtain ⟨q0, hq0, hqG⟩ := OQ.one (e := 127) (sz := 4) b47 (row := ints [f0, f1, f2, f3]) rfl
      obtain ⟨q1, hq1, hqG1⟩ : ∃ q1 : OQ 127 4 (strows (([[f0, f1, f2, f3]] : List HSt).drop 0)), q1.fs = .slice (some ⟨b47, 0, none⟩) 1 1 ∧ q1.G = [(b47, cel 127 (ints [f0, f1, f2, f3]))] := ⟨q0, hq0, hqG⟩
      refine Sy.heap (H' := (b8, cel 156 [q1.fs]) :: (b9, cel 128 [.map (some m48)]) :: (m48, mapO true (kvL b.dsk n [[f0, f1, f2, f3]])) :: (q1.G ++ ((OSl.nil 93 2).G ++ (b1, cel 25 (btl b (b.sl ab cb))) :: (mkh [] ++ H)))) (R' := InW [] :: RowsA (some ⟨b6, 0, none⟩) 1 [[.func (.func 113) #[] #[.pointer (some ⟨b4, 0, none⟩), .pointer (some ⟨b6, 0, none⟩)]]] :: RowsA (some ⟨b4, 0, none⟩) 1 [[.pointer (some ⟨bd, 0, none⟩)]] :: KpF m kv :: RowsA (some ⟨bd, 0, none⟩) 18 [dcs b (b.sl ab cb) b.lasts b.most m] :: R) (fun w h => by
        rw [hq1, hqG1, show kvL b.dsk n [[f0, f1, f2, f3]] = [([f0, f1, f2, f3], .int .i64 (b.dsk.lvl n b.state))] by unfold kvL; simp [hfl]]
        exact St.inw0 (show St ((b8, cel 156 [.slice (some ⟨b47, 0, none⟩) 1 1]) :: (b9, cel 128 [.map (some m48)]) :: (m48, mapO true [([f0, f1, f2, f3], .int .i64 (b.dsk.lvl n b.state))]) :: (b47, cel 127 (ints [f0, f1, f2, f3])) :: (b1, cel 25 (btl b (b.sl ab cb))) :: H) _ w from h)) ?_
      refine sy_loopD (ι := (y : {y : List HSt × Nat × List WE × List Nat // Bq b.dsk n b.state y.1 y.2.1 ∧ y.2.1 ≤ y.1.length ∧ wls y.2.2.1 = wlV b.dsk n (y.1.take y.2.1)}) × (OSl 93 2 (werows y.1.2.2.1) × OQ 127 4 (strows (y.1.1.drop y.1.2.1)))) (fun y => ⟨[(1, .pointer (some ⟨b1, 0, none⟩)), (4, .pointer (some ⟨b4, 0, none⟩)), (6, .pointer (some ⟨b6, 0, none⟩)), (8, .pointer (some ⟨b8, 0, none⟩)), (9, .pointer (some ⟨b9, 0, none⟩)), (10, y.2.1.fs)], mks y.1.1.2.2.2, (b8, cel 156 [y.2.2.fs]) :: (b9, cel 128 [.map (some m48)]) :: (m48, mapO true (kvL b.dsk n y.1.1.1)) :: (y.2.2.G ++ (y.2.1.G ++ (b1, cel 25 (btl b (b.sl ab cb))) :: (mkh y.1.1.2.2.2 ++ H))), InW y.1.1.2.2.1 :: RowsA (some ⟨b6, 0, none⟩) 1 [[.func (.func 113) #[] #[.pointer (some ⟨b4, 0, none⟩), .pointer (some ⟨b6, 0, none⟩)]]] :: RowsA (some ⟨b4, 0, none⟩) 1 [[.pointer (some ⟨bd, 0, none⟩)]] :: KpF m kv :: RowsA (some ⟨bd, 0, none⟩) 18 [dcs b (b.sl ab cb) b.lasts b.most m] :: R⟩) (fun y => b.dsk.nst - y.1.1.2.1) ⟨⟨([[f0, f1, f2, f3]], 0, [], []), Bq.start huf, Nat.zero_le _, rfl⟩, OSl.nil _ _, q1⟩ ?_ (fun y => ?_)
      exact sy_atD (by repeat' first | exact Sub.nil | apply Sub.cons | rfl | (simp [lk]; omega)) rfl (fun _ h => h)
      ·
       obtain ⟨⟨⟨V, j, W, mk⟩, hbq, hjv, hwv⟩, o, q⟩ := y
       dsimp only at hbq hjv hwv o q ⊢
       have hfew := hbq.few hdk
       have hWl : W.length = j := by have := congrArg List.length hwv; unfold wlV at this; rw [wls_len, List.length_map, List.length_take] at this; omega
       have hqs : q.fs = .slice (some ⟨q.b, q.off, none⟩) (V.length - j) q.cap := by unfold OQ.fs; rw [strows_len, List.length_drop]
       rw [hqs]
       refine sy_seq ?_
       refine sy_seq ?_
       refine sy_tx' [0, 1, 2] rfl ?_
       refine spL rfl rfl (lh sc156 rfl rfl) rfl ?_
       refine sp rfl (PE.lenSl isl156 rfl) rfl ?_
       refine sp rfl (PE.gtr rfl rfl) rfl ?_
       refine sy_cond rfl (fun hc2 => ?_) (fun hc2 => ?_)
       ·
        try simp only [decide_eq_true_eq, decide_eq_false_iff_not, Bool.and_eq_true, Bool.or_eq_true, Bool.not_eq_true', Int.not_le, Int.not_lt] at hc2
        obtain ⟨p, hp⟩ : ∃ p, V[j]? = some p := ⟨_, List.getElem?_eq_getElem (by omega)⟩
        have hpV := List.mem_of_getElem? hp
        have hps := hbq.sts p hpV
        have hpl := hps.len
        have hpm := b.dsk.inS_sml hdk hps
        have hplv := hbq.lv p hpV
        have hpk := kpt_of ((b.dsk.mem_sts hdk p).2 hps) hn hfx
        have hpr := kpt_nn hpk
        have hpe : (ints p).length = 4 := by rw [ints_length]; exact hpl
        have hV4 : ∀ s ∈ V, s.length = 4 := fun s hs => (hbq.sts s hs).len
        refine Sy.heap (H' := (b8, cel 156 [.slice (some ⟨q.b, q.off, none⟩) (V.length - j) q.cap]) :: (b9, cel 128 [.map (some m48)]) :: (m48, mapO true (kvL b.dsk n V)) :: (q.b, cel 127 (q.pre ++ ((strows (V.drop j)).flatten ++ q.junk))) :: (o.G ++ (b1, cel 25 (btl b (b.sl ab cb))) :: (mkh mk ++ H))) (fun w h => h) ?_
        have hdr : (q.pre ++ ((strows (V.drop j)).flatten ++ q.junk)).drop (q.off + (0 : Int).toNat * 4) = ints p ++ ((strows (V.drop (j + 1))).flatten ++ q.junk) := by
          have hfl : (strows (V.drop j)).flatten = ints p ++ (strows (V.drop (j + 1))).flatten := by rw [strows_drop hp, List.flatten_cons]
          rw [hfl, show q.off + (0 : Int).toNat * 4 = q.pre.length by rw [q.pl]; simp, List.drop_left, List.append_assoc]
        obtain ⟨q2, hq2, hqG2⟩ := (q.cast (strows_drop hp)).pop
        have hqc : (q.cast (strows_drop hp)).b = q.b ∧ (q.cast (strows_drop hp)).off = q.off ∧ (q.cast (strows_drop hp)).cap = q.cap := by
          generalize strows_drop hp = e
          generalize ints p :: strows (V.drop (j + 1)) = r at e
          subst e; exact ⟨rfl, rfl, rfl⟩
        rw [hqc.1, hqc.2.1, hqc.2.2, strows_len, List.length_drop] at hq2
        rw [OQ.cast_G] at hqG2
        refine sy_skip ?_
        refine sy_block ?_
        refine sy_seq ?_
        refine sy_tx' [0, 1, 2, 3, 4] rfl ?_
        refine spL rfl rfl (lh sc156 rfl rfl) rfl ?_
        refine sp rfl (PE.indexAddr el156 rfl rfl (by omega) (by omega)) rfl ?_
        refine spL rfl rfl (lhA (ints p) ag127 rfl hdr hpe) rfl ?_
        refine alc rfl zl127 rfl (fun b11 => ?_)
        refine stoA rfl rfl rfl cn127 rfl (by rw [ints_length]; exact hpl) rfl (ints_one _) ?_
        refine sy_seq ?_
        refine sy_tx' [0, 1, 2] rfl ?_
        refine spL rfl rfl (lh sc156 rfl rfl) rfl ?_
        refine sp rfl (PE.slLoA (l := 1) sl156 rfl rfl (by omega)) rfl ?_
        have hq2e : Value.slice (if q.cap = 1 then some ⟨q.b, q.off, none⟩ else (some (⟨q.b, q.off, none⟩ : Addr)).map (·.add (1 * 4))) (V.length - j - 1) (q.cap - 1) = q2.fs := by
          rw [hq2, Option.map_some, addr_add, show V.length - (j + 1) = V.length - j - 1 by omega]
        rw [hq2e]
        refine stoE (l' := [q2.fs]) rfl rfl rfl cn156 rfl rfl rfl rfl (Nat.le_refl _) ?_
        refine Sy.heap (H' := (b11, cel 127 (ints p)) :: (b8, cel 156 [q2.fs]) :: (b9, cel 128 [.map (some m48)]) :: (m48, mapO true (kvL b.dsk n V)) :: (q2.G ++ (o.G ++ (b1, cel 25 (btl b (b.sl ab cb))) :: (mkh mk ++ H)))) (fun w h => by rw [hqG2]; exact h) ?_
        refine sy_seq ?_
        refine sy_draw [0, 0, 2, 6, 14, 30, 0, 0, 192, 510, 1022, 2047, 4095] (.tk 0 (.tk 1 (.ld 2 (.tk 3 (.tk 4 (.ld 6 (.ld 7 (.ld 8 (.big 5 (.tk 9 (.big 10 (.big 11 (.tk 12 .done))))))))))))) mixed (by kernel_rfl) ?_
        refine tk rfl (PE.move rfl) rfl ?_
        refine tk rfl (PE.fieldAddr fo25_3 rfl) rfl ?_
        refine ld rfl rfl (lh sc23 rfl rfl) rfl ?_
        refine tk rfl (PE.lenSl isl23 rfl) rfl ?_
        refine tk rfl (PE.slArrHi (h := b.bins.length) ar127 rfl rfl (by omega)) rfl ?_
        refine ld rfl rfl (lh sc128 rfl rfl) rfl ?_
        refine ld rfl rfl (lhA (rest := []) (ints p) ag127 rfl (by rw [List.append_nil]; rfl) (by rw [ints_length]; exact hpl)) rfl ?_
        refine ldK rfl rfl rfl (lk_factE hpl (kvL_len hV4) (kvL_get hpV) (heldM (x := m48))) rfl ?_
        refine cl rfl cal114 rfl rfl (c_Clone b11 127 b.bins.length 4 p (by omega) (by omega) _ _) ?_
        rintro _ _ _ ⟨ol, rfl, rfl, rfl⟩
        obtain ⟨ay, cy, he, hf⟩ := ol.freeze
        rw [he, irows_len]
        refine Sy.heap (fun w h => hf h) ?_
        clear he hf
        refine bg (fun w hs => ⟨(lk_factE hpl (kvL_len hV4) (kvL_get hpV) (heldM (x := m48))) w hs, (lhA (rest := []) (ints p) ag127 rfl (by rw [List.append_nil]; rfl) (by rw [ints_length]; exact hpl)) w hs, (lh sc128 rfl rfl) w hs, trivial, trivial⟩) ?_
        refine tk rfl (PE.build (out := [_, _]) pl93 zl93 rfl rfl) rfl ?_
        refine bsl (out := [_, _]) rfl sl91 zl93 rfl rfl rfl rfl rfl rfl (fun b77 => ?_)
        refine bg (fun w hs => ⟨trivial, trivial, trivial, trivial⟩) ?_
        refine apO (o) rfl ap91 rfl rfl (rowsH (row := werow ⟨ay, cy, p.take b.bins.length, b.dsk.lvl n p⟩) rfl) rfl rfl ((by rw [werows_len]; simp only [List.length_singleton]; omega)) rfl (fun o78 => ?_)
        refine bg (fun w hs => trivial) ?_
        refine tk rfl (PE.assign rfl) rfl ?_
        refine sy_seq ?_
        refine sy_tx' [0, 1] rfl ?_
        refine Sy.heap (fun w h => St.inwSnoc (l := W) ⟨ay, cy, p.take b.bins.length, b.dsk.lvl n p⟩ h) ?_
        obtain ⟨o78, e78, g78⟩ : ∃ o' : OSl 93 2 (werows (W ++ [⟨ay, cy, p.take b.bins.length, b.dsk.lvl n p⟩])), o'.fs = o78.fs ∧ o'.G = o78.G := ⟨o78.cast (by rw [werows_app]; rfl), rfl, rfl⟩
        rw [← e78]
        refine Sy.heap (H' := (b11, cel 127 (ints p)) :: (b8, cel 156 [q2.fs]) :: (b9, cel 128 [.map (some m48)]) :: (m48, mapO true (kvL b.dsk n V)) :: (q2.G ++ (o78.G ++ (b1, cel 25 (btl b (b.sl ab cb))) :: (mkh mk ++ H)))) (R' := InW (W ++ [⟨ay, cy, p.take b.bins.length, b.dsk.lvl n p⟩]) :: RowsA (some ⟨b6, 0, none⟩) 1 [[.func (.func 113) #[] #[.pointer (some ⟨b4, 0, none⟩), .pointer (some ⟨b6, 0, none⟩)]]] :: RowsA (some ⟨b4, 0, none⟩) 1 [[.pointer (some ⟨bd, 0, none⟩)]] :: KpF m kv :: RowsA (some ⟨bd, 0, none⟩) 18 [dcs b (b.sl ab cb) b.lasts b.most m] :: R) (fun w h => by rw [← g78] at h; exact St.sub (h.del b77)) ?_
        clear e78 g78
        refine spL rfl rfl (lfB (sz := 1) sc123 rfl) rfl ?_
        refine cl rfl cal115 rfl rfl (c_turnings bd false _ _) ?_
        rintro _ _ _ ⟨xb, xf, rfl, rfl, rfl⟩
        refine sy_block ?_
        refine sy_range rfl cal133 (fun c0 bl0 bd0 hcp0 hca0 hcb0 hck0 => ?_)
        refine ⟨fun st pend T R' => st = .ready ∧ pend = none ∧ ∃ (V' : List HSt) (q' : OQ 127 4 (strows (V'.drop (j + 1)))), Bq b.dsk n b.state V' j ∧ V'.take (j + 1) = V.take (j + 1) ∧ V'[j]? = some p ∧ CvK b.dsk n V' p ((b.dsk.trs false).length) ∧ T = (bd0, .deferred (some [])) :: (b11, cel 127 (ints p)) :: (b8, cel 156 [q'.fs]) :: (b9, cel 128 [.map (some m48)]) :: (m48, mapO true (kvL b.dsk n V')) :: (q'.G ++ (o78.G ++ (b1, cel 25 (btl b (b.sl ab cb))) :: (mkh mk ++ H))) ∧ R' = RowsA (some ⟨xf, 0, none⟩) 1 [[.bool false]] :: RowsA (some ⟨xb, 0, none⟩) 1 [[.pointer (some ⟨bd, 0, none⟩)]] :: InW (W ++ [⟨ay, cy, p.take b.bins.length, b.dsk.lvl n p⟩]) :: RowsA (some ⟨b6, 0, none⟩) 1 [[.func (.func 113) #[] #[.pointer (some ⟨b4, 0, none⟩), .pointer (some ⟨b6, 0, none⟩)]]] :: RowsA (some ⟨b4, 0, none⟩) 1 [[.pointer (some ⟨bd, 0, none⟩)]] :: KpF m kv :: RowsA (some ⟨bd, 0, none⟩) 18 [dcs b (b.sl ab cb) b.lasts b.most m] :: R,
          Fn.mono (c_turnings1 b hok ab cb bd m false xb xf bl0 (fun k H' R' => ∃ (V' : List HSt) (q' : OQ 127 4 (strows (V'.drop (j + 1)))), Bq b.dsk n b.state V' j ∧ V'.take (j + 1) = V.take (j + 1) ∧ V'[j]? = some p ∧ CvK b.dsk n V' p (k) ∧ H' = (bl0, lob c0 .ready none) :: (bd0, .deferred (some [])) :: (b11, cel 127 (ints p)) :: (b8, cel 156 [q'.fs]) :: (b9, cel 128 [.map (some m48)]) :: (m48, mapO true (kvL b.dsk n V')) :: (q'.G ++ (o78.G ++ (b1, cel 25 (btl b (b.sl ab cb))) :: (mkh mk ++ H))) ∧ R' = RowsA (some ⟨xf, 0, none⟩) 1 [[.bool false]] :: RowsA (some ⟨xb, 0, none⟩) 1 [[.pointer (some ⟨bd, 0, none⟩)]] :: InW (W ++ [⟨ay, cy, p.take b.bins.length, b.dsk.lvl n p⟩]) :: RowsA (some ⟨b6, 0, none⟩) 1 [[.func (.func 113) #[] #[.pointer (some ⟨b4, 0, none⟩), .pointer (some ⟨b6, 0, none⟩)]]] :: RowsA (some ⟨b4, 0, none⟩) 1 [[.pointer (some ⟨bd, 0, none⟩)]] :: KpF m kv :: RowsA (some ⟨bd, 0, none⟩) 18 [dcs b (b.sl ab cb) b.lasts b.most m] :: R)
            (fun _ _ => False)
            (fun k H' R' h => by obtain ⟨_, _, _, _, _, _, _, rfl⟩ := h; exact ⟨by simp, by simp, by simp⟩) (fun k l a c H' R' hk hI => ?_) _ _ ⟨V, q2, hbq, rfl, hp, fun i l hi => absurd hi (Nat.not_lt_zero _), rfl, rfl⟩) (fun v H' R' h => ?_), ?_⟩
        rotate_left
        · rcases h with ⟨V', q', h1, h2, h3, h4, rfl, rfl⟩ | h
          · exact ⟨.ready, none, _, by simp, .refl _, rfl, rfl, V', q', h1, h2, h3, h4, rfl, rfl⟩
          · exact h.elim
        rotate_left
        have hlm := List.mem_of_getElem? hk
        have hlt := b.dsk.trs_lt hlm
        have hll : l.length ≤ 1000000 := by
          obtain ⟨i, _, rfl⟩ := List.mem_map.1 (List.mem_filter.1 hlm).1
          have := bitl_len b.dsk.n i
          have := hdk.n
          omega
        obtain ⟨V1, q3, hb1, ht1, hp1, hcv, rfl, rfl⟩ := hI
        have hj1 := (List.getElem?_eq_some_iff.1 hp1).1
        have hf1 := hb1.few hdk
        have hp1V := List.mem_of_getElem? hp1
        have hV14 : ∀ s ∈ V1, s.length = 4 := fun s hs => (hb1.sts s hs).len
        refine yd_of hcp0 hca0 hcb0 hck0 rfl ?_
        refine sy_tx' [0] rfl ?_
        refine sp rfl (PE.assign rfl) rfl ?_
        refine sy_beginRound ?_
        refine sy_block ?_
        refine sy_seq ?_
        refine sy_tx' [0, 1, 2, 3, 4, 5, 6, 7, 8, 9] rfl ?_
        refine spL rfl rfl (lfB (sz := 1) sc123 rfl) rfl ?_
        refine spL rfl rfl (lhA (rest := []) (ints p) ag127 rfl (by rw [List.append_nil]; rfl) (by rw [ints_length]; exact hpl)) rfl ?_
        refine sp rfl (PE.move rfl) rfl ?_
        refine cl rfl cal116 rfl rfl (c_next b hok ab cb bd m p hpm l hlt hll a c _ _) ?_
        rintro _ _ _ ⟨rfl, rfl, rfl⟩
        rcases hnx : b.dsk.next p l with _ | t
        refine sp rfl (PE.move rfl) rfl ?_
        refine sp rfl (PE.extract rfl rfl) rfl ?_
        refine sp rfl (PE.extract rfl rfl) rfl ?_
        refine alc rfl zl127 rfl (fun b13 => ?_)
        first | (refine stoA rfl rfl rfl cn127 rfl rfl rfl (ints_one _) ?_) | (refine stoA rfl rfl rfl cn127 rfl (by rw [ints_length]; exact htl) rfl (ints_one _) ?_)
        refine sp rfl (PE.assign rfl) rfl ?_
        refine sy_seq ?_
        refine sy_seq ?_
        refine sy_tx' [0, 1] rfl ?_
        refine sp rfl (PE.move rfl) rfl ?_
        refine sp rfl (PE.not rfl) rfl ?_
        refine sy_condT rfl ?_
        refine sy_exit ?_
        refine sy_tx ?_
        refine sy_bx ?_
        exact sy_roundOn (.inl ⟨rfl, V1, q3, hb1, ht1, hp1, hcv.more hk (fun t ht => by rw [hnx] at ht; cases ht), rfl, rfl⟩) (fun _ h => (h.del b13).ftail)
        refine sp rfl (PE.move rfl) rfl ?_
        have hts := b.dsk.next_inS hdk hps hlt hnx
        have htl := hts.len
        have htlv : b.dsk.lvl n t < b.dsk.lvl n p := kpt_next hdk hps hlm hnx hpk (kpt_of ((b.dsk.mem_sts hdk t).2 hts) hn hfx) (by omega)
        refine sp rfl (PE.extract rfl rfl) rfl ?_
        refine sp rfl (PE.extract rfl rfl) rfl ?_
        refine alc rfl zl127 rfl (fun b13 => ?_)
        first | (refine stoA rfl rfl rfl cn127 rfl rfl rfl (ints_one _) ?_) | (refine stoA rfl rfl rfl cn127 rfl (by rw [ints_length]; exact htl) rfl (ints_one _) ?_)
        refine sp rfl (PE.assign rfl) rfl ?_
        refine sy_seq ?_
        refine sy_seq ?_
        refine sy_tx' [0, 1] rfl ?_
        refine sp rfl (PE.move rfl) rfl ?_
        refine sp rfl (PE.not rfl) rfl ?_
        refine sy_condF rfl ?_
        refine sy_skip ?_
        refine sy_seq ?_
        refine sy_draw [0, 0, 0, 0, 12, 28, 63, 127] (.ld 0 (.ld 1 (.ld 2 (.ld 3 (.ld 4 (.tk 5 (.big 6 (.big 7 .done)))))))) mixed (by kernel_rfl) ?_
        refine ld rfl rfl (lfB (sz := 1) sc155 rfl) rfl ?_
        refine ld rfl rfl (lhA (rest := []) (ints t) ag127 rfl (by rw [List.append_nil]; rfl) (by rw [ints_length]; exact htl)) rfl ?_
        refine ld rfl rfl (lh sc128 rfl rfl) rfl ?_
        refine ld rfl rfl (lhA (rest := []) (ints p) ag127 rfl (by rw [List.append_nil]; rfl) (by rw [ints_length]; exact hpl)) rfl ?_
        refine ldK rfl rfl rfl (lk_factE hpl (kvL_len hV14) (kvL_get hp1V) (heldM (x := m48))) rfl ?_
        refine tk rfl (PE.sub rfl rfl (by omega)) rfl ?_
        refine clF rfl rfl (cal113) rfl rfl (c_raise b hok ab cb bd m n hn kv hkv b4 b6 (b.dsk.lvl n p - 1) t hts _ _) ?_
        rintro _ _ _ ⟨uf, hu, rfl, rfl, rfl⟩
        obtain ⟨u0, u1, u2, u3, rfl⟩ := list4 hu.inS.len
        have hulv : b.dsk.lvl n [u0, u1, u2, u3] < b.dsk.lvl n p := by
          rcases hu.lv with h1 | h1
          · rw [h1]; exact htlv
          · omega
        have hum := (b.dsk.mem_sts hdk _).2 hu.inS
        have hukv := hkv.get _ hum
        have hcvu : ∀ V2 : List HSt, [u0, u1, u2, u3] ∈ V2 → ∀ t2, b.dsk.next p l = some t2 → ∃ u ∈ V2, undP b.dsk.n t2 u = true ∧ b.dsk.lvl n u < b.dsk.lvl n p := fun V2 hm t2 ht2 => by rw [hnx] at ht2; cases ht2; exact ⟨_, hm, hu.le, hulv⟩
        obtain ⟨go, hgo⟩ : ∃ go, (kvL b.dsk n V1).get [u0, u1, u2, u3] = go := ⟨_, rfl⟩
        refine bg (fun w hs => ⟨trivial, trivial, trivial, trivial, trivial, trivial⟩) ?_
        refine stoA rfl rfl rfl cn127 rfl (by rw [ints_length]; rfl) (by rw [ints_length]; exact htl) (ints_one _) ?_
        refine bg (fun w hs => trivial) ?_
        refine sy_seq ?_
        refine sy_tx' [0, 1, 2, 3, 4, 5, 6, 7] rfl ?_
        refine spL rfl rfl (lh sc128 rfl rfl) rfl ?_
        refine spL rfl rfl (lhA (rest := []) (ints [u0, u1, u2, u3]) ag127 rfl (by rw [List.append_nil]; rfl) (by rw [ints_length]; exact rfl)) rfl ?_
        refine spK rfl rfl rfl (lk_held (b := true) (kvL b.dsk n V1) [u0, u1, u2, u3] mke128 (KeyT.of eqf127 noa127) (run_zv zv3) rfl (kvL_len hV14) true) rfl ?_
        rw [hgo]
        refine sp rfl (PE.move rfl) rfl ?_
        refine sp rfl (PE.extract rfl rfl) rfl ?_
        refine sp rfl (PE.extract rfl rfl) rfl ?_
        refine sp rfl (PE.assign rfl) rfl ?_
        refine sp rfl (PE.assign rfl) rfl ?_
        refine sy_seq ?_
        refine sy_draw [0, 1, 3, 7, 7, 23, 55, 119, 7, 503, 1023, 2047] (.tk 0 (.tk 1 (.tk 2 (.tk 3 (.ld 4 (.tk 5 (.tk 6 (.ld 7 (.ld 8 (.ld 9 (.tk 10 (.tk 11 .done)))))))))))) mixed (by kernel_rfl) ?_
        refine tk rfl (PE.move rfl) rfl ?_
        refine tk rfl (PE.not rfl) rfl ?_
        refine tk rfl (PE.move rfl) rfl ?_
        refine sy_case (t := 106) rfl (fun g106 => ?_) (fun g106 => ?_)
        obtain rfl : go = none := by cases go with
          | none => rfl
          | some g => exact absurd g106 (by simp)
        have hun : [u0, u1, u2, u3] ∉ V1 := fun hm => by rw [kvL_get hm] at hgo; cases hgo
        refine tkN rfl rfl rfl rfl rfl rfl rfl rfl ?_
        refine ldN rfl rfl rfl rfl rfl rfl rfl rfl ?_
        repeat refine tkN rfl rfl rfl rfl rfl rfl rfl rfl ?_
        repeat refine ldN rfl rfl rfl rfl rfl rfl rfl rfl ?_
        refine tkN rfl rfl rfl rfl rfl rfl rfl rfl ?_
        refine tk rfl (PE.pick rfl rfl rfl) rfl ?_
        refine sy_condT rfl ?_
        refine sy_seq ?_
        refine sy_draw [0, 0, 0, 4, 12, 28, 0, 124, 255] (.ld 0 (.ld 1 (.ld 2 (.tk 3 (.tk 4 (.ld 5 (.ld 6 (.ld 7 (.big 8 .done))))))))) mixed (by kernel_rfl) ?_
        refine ld rfl rfl (lh sc128 rfl rfl) rfl ?_
        refine ld rfl rfl (lhA (rest := []) (ints [u0, u1, u2, u3]) ag127 rfl (by rw [List.append_nil]; rfl) (by rw [ints_length]; exact rfl)) rfl ?_
        refine ld rfl rfl (lfB (sz := 1) sc123 rfl) rfl ?_
        refine tk rfl (PE.nilCheck rfl) rfl ?_
        refine tk rfl (PE.fieldAddr fo130_3 rfl) rfl ?_
        refine ld rfl rfl (lfB (sz := 18) sc128 (dcs_map hl4 hm4)) rfl ?_
        refine ld rfl rfl (lhA (rest := []) (ints [u0, u1, u2, u3]) ag127 rfl (by rw [List.append_nil]; rfl) (by rw [ints_length]; exact rfl)) rfl ?_
        refine ldK rfl rfl rfl (lk_factE rfl hkv.len hukv (fun w hs => hs.now (MemF.mem (f := KpF m kv)))) rfl ?_
        refine mpu (kvL b.dsk n V1) [u0, u1, u2, u3] (v := .int .i64 (b.dsk.lvl n [u0, u1, u2, u3])) rfl mke128 (KeyT.of eqf127 noa127) rfl rfl rfl rfl (kvL_len hV14) ?_
        rw [kvL_put hun]
        refine bg (fun w hs => ⟨trivial, trivial, trivial, trivial, trivial, trivial, trivial⟩) ?_
        refine sy_tx' [0, 1, 2, 3, 4] rfl ?_
        refine spL rfl rfl (lh sc156 rfl rfl) rfl ?_
        refine spL rfl rfl (lhA (rest := []) (ints [u0, u1, u2, u3]) ag127 rfl (by rw [List.append_nil]; rfl) (by rw [ints_length]; exact rfl)) rfl ?_
        refine bsl (out := [_, _, _, _]) rfl sl156 zl127 rfl rfl rfl rfl rfl rfl (fun b126 => ?_)
        refine apQ q3 rfl ap156 rfl rfl (rowsH (row := ints [u0, u1, u2, u3]) rfl) rfl (by simp) rfl (by rw [strows_len, List.length_drop]; simp only [List.length_singleton]; omega) rfl (fun q4 => ?_)
        refine stoE (l' := [q4.fs]) rfl rfl rfl cn156 rfl rfl rfl rfl (Nat.le_refl _) ?_
        obtain ⟨q5, e5, g5⟩ : ∃ q5 : OQ 127 4 (strows ((V1 ++ [[u0, u1, u2, u3]]).drop (j + 1))), q5.fs = q4.fs ∧ q5.G = q4.G := ⟨q4.cast (strows_add (by omega) _), OQ.cast_fs _ _, OQ.cast_G _ _⟩
        exact sy_roundOn (.inl ⟨rfl, V1 ++ [[u0, u1, u2, u3]], q5, hb1.add (by omega) hu.inS hun (by have := hulv; omega), by rw [List.take_append_of_le_length (by omega)]; exact ht1, by rw [List.getElem?_append_left hj1]; exact hp1, (hcv.add _).more hk (hcvu _ (by simp)), rfl, rfl⟩) (fun _ h => by rw [e5, g5]; exact ((h.del b126).del b13).ftail)
        obtain ⟨g, rfl⟩ : ∃ g, go = some g := by cases go with
          | none => exact absurd g106 (by simp)
          | some g => exact ⟨g, rfl⟩
        have hui : [u0, u1, u2, u3] ∈ V1 := Classical.byContradiction fun hm => by rw [kvL_no hm] at hgo; cases hgo
        obtain rfl : g = .int .i64 (b.dsk.lvl n [u0, u1, u2, u3]) := by rw [kvL_get hui] at hgo; cases hgo; rfl
        refine tkG rfl rfl rfl rfl (PE.move rfl) rfl ?_
        refine ldG rfl rfl rfl rfl rfl (lfB (sz := 1) sc123 rfl) rfl ?_
        refine tkG rfl rfl rfl rfl (PE.nilCheck rfl) rfl ?_
        refine tkG rfl rfl rfl rfl (PE.fieldAddr fo130_3 rfl) rfl ?_
        refine ldG rfl rfl rfl rfl rfl (lfB (sz := 18) sc128 (dcs_map hl4 hm4)) rfl ?_
        refine ldG rfl rfl rfl rfl rfl (lhA (rest := []) (ints [u0, u1, u2, u3]) ag127 rfl (by rw [List.append_nil]; rfl) (by rw [ints_length]; exact rfl)) rfl ?_
        refine ldKG rfl rfl rfl rfl rfl rfl (lk_factE rfl hkv.len hukv (fun w hs => hs.now (MemF.mem (f := KpF m kv)))) rfl ?_
        refine tkG rfl rfl rfl rfl (PE.neq rfl rfl) rfl ?_
        refine tk rfl (PE.pick rfl rfl rfl) rfl ?_
        refine sy_cond rfl (fun hc4 => ?_) (fun hc4 => ?_)
        exact absurd hc4 (by simp)
        refine sy_skip ?_
        exact sy_roundOn (.inl ⟨rfl, V1, q3, hb1, ht1, hp1, hcv.more hk (hcvu V1 hui), rfl, rfl⟩) (fun _ h => (h.del b13).ftail)
        ·
         rintro _ _ _ _ ⟨rfl, rfl, V1, q3, hb1, ht1, hp1, hcv, rfl, rfl⟩
         refine sy_jn ?_
         have hj1 := (List.getElem?_eq_some_iff.1 hp1).1
         have hf1 := hb1.few hdk
         exact sy_nextD ⟨⟨(V1, j + 1, W ++ [⟨ay, cy, p.take b.bins.length, b.dsk.lvl n p⟩], bd0 :: mk), hb1.next hp1 hcv, hj1, by dsimp only; rw [wls_app, hwv, ht1, wlV_snoc hp]; rfl⟩, o78, q3⟩ (by dsimp only; omega) (by repeat' first | exact Sub.nil | apply Sub.cons | rfl | (simp [lk]; omega)) rfl (fun w h => St.sub ((h.del b11).perm ((perm_swap3 [_] [_, _, _] _).trans (List.Perm.append_left [_, _, _] ((List.perm_middle (l₁ := q3.G)).symm.trans (List.Perm.append_left q3.G ((List.perm_middle (l₁ := o78.G)).symm.trans (List.Perm.append_left o78.G (List.Perm.swap _ _ _)))))))))
       try simp only [decide_eq_true_eq, decide_eq_false_iff_not, Bool.and_eq_true, Bool.or_eq_true, Bool.not_eq_true', Int.not_le, Int.not_lt] at hc2
       obtain rfl : j = V.length := by omega
       rw [List.take_of_length_le (Nat.le_refl _)] at hwv
       have hw := hbq.wall hok hn hfx hc1
       rw [← hwv] at hw
       have hdm : ∀ x ∈ W, x.d ≤ b.dsk.lvl n b.state := fun x hx => by
         have h1 := wls_mem hx
         rw [hwv] at h1
         obtain ⟨v, hv, e⟩ := List.mem_map.1 h1
         have h2 := hbq.lv v hv
         have h3 : b.dsk.lvl n v = x.d := congrArg Prod.snd e
         omega
       obtain ⟨aw, cw, he, hcw, hf⟩ := o.freezeC
       rw [he, werows_len]
       rw [werows_len] at hcw
       refine sy_exit ?_
       repeat refine sy_tx ?_
       refine sy_bx ?_
       refine sy_seq ?_
       refine sy_tx' [0, 1, 2] rfl ?_
       refine sp rfl (PE.move rfl) rfl ?_
       refine sp rfl (PE.assign rfl) rfl ?_
       refine sp rfl (PE.assign rfl) rfl ?_
       refine sy_ret ?_
       refine Sy.heap (H' := mkh mk ++ H) (R' := RowsA aw 2 (werows W) :: InW W :: R) (fun w h => St.sub (hf ((St.drop (G := q.G) (((h.del m48).del b9).del b8)).del b1))) ?_
       exact sy_returnM mk (fun _ h => h) rfl (.cons (RV.tmp rfl) (.cons (RV.tmp rfl) .nil)) rfl ⟨rfl, .inr (.inr ⟨hck, _, W, aw, cw, hc1, hks, hw, by omega, hcw, hdm, rfl, rfl⟩)⟩ (fun w h => h)
    refine sy_alt ?_ ?_
    ·
     refine alc rfl zl156 rfl (fun b8 => ?_)
     refine bg (fun w hs => trivial) ?_
     refine bsl (out := [_, _, _, _]) rfl sl156 zl127 rfl rfl rfl rfl rfl rfl (fun b47 => ?_)
     refine bg (fun w hs => trivial) ?_
     refine sto rfl rfl rfl cn156 rfl rfl rfl rfl ?_
     refine bg (fun w hs => trivial) ?_
     refine sy_seq ?_
     refine sy_cut (ι := {x : (Nat × Nat × Nat × Nat) × HSt // Rz b.dsk n (b.dsk.lvl n b.state) b.state x.2}) (fun x => ⟨[(1, .pointer (some ⟨b1, 0, none⟩)), (4, .pointer (some ⟨b4, 0, none⟩)), (6, .pointer (some ⟨b6, 0, none⟩)), (8, .pointer (some ⟨x.1.1.1, 0, none⟩)), (9, .pointer (some ⟨x.1.1.2.1, 0, none⟩))], (x.1.1.1, cel 156 [.slice (some ⟨x.1.1.2.2.2, 0, none⟩) 1 1]) :: (x.1.1.2.1, cel 128 [.map (some x.1.1.2.2.1)]) :: (x.1.1.2.2.1, mapO true [(x.1.2, .int .i64 (b.dsk.lvl n b.state))]) :: (x.1.1.2.2.2, cel 127 (ints x.1.2)) :: (b1, cel 25 (btl b (b.sl ab cb))) :: H, RowsA (some ⟨b6, 0, none⟩) 1 [[.func (.func 113) #[] #[.pointer (some ⟨b4, 0, none⟩), .pointer (some ⟨b6, 0, none⟩)]]] :: RowsA (some ⟨b4, 0, none⟩) 1 [[.pointer (some ⟨bd, 0, none⟩)]] :: KpF m kv :: RowsA (some ⟨bd, 0, none⟩) 18 [dcs b (b.sl ab cb) b.lasts b.most m] :: R⟩) ?_ ?_
     refine sy_draw [0, 0, 2, 6, 0, 16, 48, 112, 0, 496, 1023, 2047, 0, 8191] (.ld 1 (.tk 2 (.ld 3 (.ld 4 (.tk 5 (.tk 6 (.ld 7 (.ld 8 (.ld 9 (.any (.alt 0 (.any (.alt 10 (.tk 11 (.big 12 (.big 13 .done))) (.alt 12 (.big 10 (.tk 11 (.big 13 .done))) .stop))) (.alt 12 (.big 0 (.big 10 (.tk 11 (.big 13 .done)))) .stop)))))))))))) mixed (by kernel_rfl) ?_
     refine ld rfl rfl (lh sc156 rfl rfl) rfl ?_
     refine tk rfl (PE.indexAddr el156 rfl rfl (by decide) (by decide)) rfl ?_
     refine ld rfl rfl (lhA (rest := []) (ints [f0, f1, f2, f3]) ag127 rfl (by rw [List.append_nil]; rfl) (by rw [ints_length]; exact rfl)) rfl ?_
     refine ld rfl rfl (lfB (sz := 1) sc123 rfl) rfl ?_
     refine tk rfl (PE.nilCheck rfl) rfl ?_
     refine tk rfl (PE.fieldAddr fo130_3 rfl) rfl ?_
     refine ld rfl rfl (lfB (sz := 18) sc128 (dcs_map hl4 hm4)) rfl ?_
     refine ld rfl rfl (lhA (rest := []) (ints b.state) ag127 rfl (by rw [List.append_nil]; rfl) (by rw [ints_length]; exact hsi.len)) rfl ?_
     refine ldK rfl rfl rfl (lk_factE hsi.len hkv.len hkg (fun w hs => hs.now (MemF.mem (f := KpF m kv)))) rfl ?_
     refine sy_alt ?_ ?_
     refine mkm rfl rfl true (fun m48 => ?_)
     refine bg (fun w hs => ⟨(lk_factE hsi.len hkv.len hkg (fun w hs => hs.now (MemF.mem (f := KpF m kv)))) w hs, (lhA (rest := []) (ints b.state) ag127 rfl (by rw [List.append_nil]; rfl) (by rw [ints_length]; exact hsi.len)) w hs, (lfB (sz := 18) sc128 (dcs_map hl4 hm4)) w hs, (lfB (sz := 1) sc123 rfl) w hs, (lhA (rest := []) (ints [f0, f1, f2, f3]) ag127 rfl (by rw [List.append_nil]; rfl) (by rw [ints_length]; exact rfl)) w hs, (lh sc156 rfl rfl) w hs, trivial⟩) ?_
     refine sy_alt ?_ ?_
     refine mpi [] [f0, f1, f2, f3] rfl mke128 (KeyT.of eqf127 noa127) rfl rfl rfl rfl (by simp) ?_
     refine bg (fun w hs => ⟨trivial, trivial, trivial, trivial, trivial, trivial, trivial⟩) ?_
     refine tk rfl (PE.move rfl) rfl ?_
     refine alc rfl zl128 rfl (fun b9 => ?_)
     refine bg (fun w hs => trivial) ?_
     refine sto rfl rfl rfl cn128 rfl rfl rfl rfl ?_
     refine bg (fun w hs => trivial) ?_
     exact sy_cutEnd ⟨((b8, b9, m48, b47), [f0, f1, f2, f3]), huf⟩ (by repeat' first | exact Sub.nil | apply Sub.cons | rfl | (simp [lk]; omega)) (fun w h => (((((h.pull b1).pull b47).pull m48).pull b9).pull b8 |>.del b7))
     refine sy_alt ?_ ?_
     refine alc rfl zl128 rfl (fun b9 => ?_)
     refine bg (fun w hs => ⟨(lk_factE hsi.len hkv.len hkg (fun w hs => hs.now (MemF.mem (f := KpF m kv)))) w hs, (lhA (rest := []) (ints b.state) ag127 rfl (by rw [List.append_nil]; rfl) (by rw [ints_length]; exact hsi.len)) w hs, (lfB (sz := 18) sc128 (dcs_map hl4 hm4)) w hs, (lfB (sz := 1) sc123 rfl) w hs, (lhA (rest := []) (ints [f0, f1, f2, f3]) ag127 rfl (by rw [List.append_nil]; rfl) (by rw [ints_length]; exact rfl)) w hs, (lh sc156 rfl rfl) w hs, trivial⟩) ?_
     refine mpi [] [f0, f1, f2, f3] rfl mke128 (KeyT.of eqf127 noa127) rfl rfl rfl rfl (by simp) ?_
     refine bg (fun w hs => ⟨trivial, trivial, trivial, trivial, trivial, trivial, trivial⟩) ?_
     refine tk rfl (PE.move rfl) rfl ?_
     refine sto rfl rfl rfl cn128 rfl rfl rfl rfl ?_
     refine bg (fun w hs => trivial) ?_
     exact sy_cutEnd ⟨((b8, b9, m48, b47), [f0, f1, f2, f3]), huf⟩ (by repeat' first | exact Sub.nil | apply Sub.cons | rfl | (simp [lk]; omega)) (fun w h => (((((h.pull b1).pull b47).pull m48).pull b9).pull b8 |>.del b7))
     exact sy_stop
     refine sy_alt ?_ ?_
     refine alc rfl zl128 rfl (fun b9 => ?_)
     refine bg (fun w hs => ⟨(lk_factE hsi.len hkv.len hkg (fun w hs => hs.now (MemF.mem (f := KpF m kv)))) w hs, (lhA (rest := []) (ints b.state) ag127 rfl (by rw [List.append_nil]; rfl) (by rw [ints_length]; exact hsi.len)) w hs, (lfB (sz := 18) sc128 (dcs_map hl4 hm4)) w hs, (lfB (sz := 1) sc123 rfl) w hs, (lhA (rest := []) (ints [f0, f1, f2, f3]) ag127 rfl (by rw [List.append_nil]; rfl) (by rw [ints_length]; exact rfl)) w hs, (lh sc156 rfl rfl) w hs, trivial⟩) ?_
     refine mkm rfl rfl true (fun m48 => ?_)
     refine bg (fun w hs => ⟨(lk_factE hsi.len hkv.len hkg (fun w hs => hs.now (MemF.mem (f := KpF m kv)))) w hs, (lhA (rest := []) (ints b.state) ag127 rfl (by rw [List.append_nil]; rfl) (by rw [ints_length]; exact hsi.len)) w hs, (lfB (sz := 18) sc128 (dcs_map hl4 hm4)) w hs, (lfB (sz := 1) sc123 rfl) w hs, (lhA (rest := []) (ints [f0, f1, f2, f3]) ag127 rfl (by rw [List.append_nil]; rfl) (by rw [ints_length]; exact rfl)) w hs, (lh sc156 rfl rfl) w hs, trivial⟩) ?_
     refine mpi [] [f0, f1, f2, f3] rfl mke128 (KeyT.of eqf127 noa127) rfl rfl rfl rfl (by simp) ?_
     refine bg (fun w hs => ⟨trivial, trivial, trivial, trivial, trivial, trivial, trivial⟩) ?_
     refine tk rfl (PE.move rfl) rfl ?_
     refine sto rfl rfl rfl cn128 rfl rfl rfl rfl ?_
     refine bg (fun w hs => trivial) ?_
     exact sy_cutEnd ⟨((b8, b9, m48, b47), [f0, f1, f2, f3]), huf⟩ (by repeat' first | exact Sub.nil | apply Sub.cons | rfl | (simp [lk]; omega)) (fun w h => (((((h.pull b1).pull b47).pull m48).pull b9).pull b8 |>.del b7))
     exact sy_stop
     ·
      rintro ⟨⟨⟨b8, b9, m48, b47⟩, uf⟩, huf⟩
      dsimp only at huf ⊢
      obtain ⟨f0, f1, f2, f3, rfl⟩ := list4 huf.inS.len
      have hfl : b.dsk.lvl n [f0, f1, f2, f3] = b.dsk.lvl n b.state := by
        have h1 := lvl_mono hdk hn hfx hsi huf.inS huf.le
        have h2 := (Bq.start huf).lv [f0, f1, f2, f3] (by simp)
        omega
      refine sy_seq ?_
      refine sy_tx' [0] rfl ?_
      refine sp rfl (PE.assign rfl) rfl ?_
      refine sy_seq ?_
      refine sy_block ?_
      obtain ⟨q0, hq0, hqG⟩ := OQ.one (e := 127) (sz := 4) b47 (row := ints [f0, f1, f2, f3]) rfl
      obtain ⟨q1, hq1, hqG1⟩ : ∃ q1 : OQ 127 4 (strows (([[f0, f1, f2, f3]] : List HSt).drop 0)), q1.fs = .slice (some ⟨b47, 0, none⟩) 1 1 ∧ q1.G = [(b47, cel 127 (ints [f0, f1, f2, f3]))] := ⟨q0, hq0, hqG⟩
      refine Sy.heap (H' := (b8, cel 156 [q1.fs]) :: (b9, cel 128 [.map (some m48)]) :: (m48, mapO true (kvL b.dsk n [[f0, f1, f2, f3]])) :: (q1.G ++ ((OSl.nil 93 2).G ++ (b1, cel 25 (btl b (b.sl ab cb))) :: (mkh [] ++ H)))) (R' := InW [] :: RowsA (some ⟨b6, 0, none⟩) 1 [[.func (.func 113) #[] #[.pointer (some ⟨b4, 0, none⟩), .pointer (some ⟨b6, 0, none⟩)]]] :: RowsA (some ⟨b4, 0, none⟩) 1 [[.pointer (some ⟨bd, 0, none⟩)]] :: KpF m kv :: RowsA (some ⟨bd, 0, none⟩) 18 [dcs b (b.sl ab cb) b.lasts b.most m] :: R) (fun w h => by
        rw [hq1, hqG1, show kvL b.dsk n [[f0, f1, f2, f3]] = [([f0, f1, f2, f3], .int .i64 (b.dsk.lvl n b.state))] by unfold kvL; simp [hfl]]
        exact St.inw0 (show St ((b8, cel 156 [.slice (some ⟨b47, 0, none⟩) 1 1]) :: (b9, cel 128 [.map (some m48)]) :: (m48, mapO true [([f0, f1, f2, f3], .int .i64 (b.dsk.lvl n b.state))]) :: (b47, cel 127 (ints [f0, f1, f2, f3])) :: (b1, cel 25 (btl b (b.sl ab cb))) :: H) _ w from h)) ?_
      refine sy_loopD (ι := (y : {y : List HSt × Nat × List WE × List Nat // Bq b.dsk n b.state y.1 y.2.1 ∧ y.2.1 ≤ y.1.length ∧ wls y.2.2.1 = wlV b.dsk n (y.1.take y.2.1)}) × (OSl 93 2 (werows y.1.2.2.1) × OQ 127 4 (strows (y.1.1.drop y.1.2.1)))) (fun y => ⟨[(1, .pointer (some ⟨b1, 0, none⟩)), (4, .pointer (some ⟨b4, 0, none⟩)), (6, .pointer (some ⟨b6, 0, none⟩)), (8, .pointer (some ⟨b8, 0, none⟩)), (9, .pointer (some ⟨b9, 0, none⟩)), (10, y.2.1.fs)], mks y.1.1.2.2.2, (b8, cel 156 [y.2.2.fs]) :: (b9, cel 128 [.map (some m48)]) :: (m48, mapO true (kvL b.dsk n y.1.1.1)) :: (y.2.2.G ++ (y.2.1.G ++ (b1, cel 25 (btl b (b.sl ab cb))) :: (mkh y.1.1.2.2.2 ++ H))), InW y.1.1.2.2.1 :: RowsA (some ⟨b6, 0, none⟩) 1 [[.func (.func 113) #[] #[.pointer (some ⟨b4, 0, none⟩), .pointer (some ⟨b6, 0, none⟩)]]] :: RowsA (some ⟨b4, 0, none⟩) 1 [[.pointer (some ⟨bd, 0, none⟩)]] :: KpF m kv :: RowsA (some ⟨bd, 0, none⟩) 18 [dcs b (b.sl ab cb) b.lasts b.most m] :: R⟩) (fun y => b.dsk.nst - y.1.1.2.1) ⟨⟨([[f0, f1, f2, f3]], 0, [], []), Bq.start huf, Nat.zero_le _, rfl⟩, OSl.nil _ _, q1⟩ ?_ (fun y => ?_)
      exact sy_atD (by repeat' first | exact Sub.nil | apply Sub.cons | rfl | (simp [lk]; omega)) rfl (fun _ h => h)
      ·
       obtain ⟨⟨⟨V, j, W, mk⟩, hbq, hjv, hwv⟩, o, q⟩ := y
       dsimp only at hbq hjv hwv o q ⊢
       have hfew := hbq.few hdk
       have hWl : W.length = j := by have := congrArg List.length hwv; unfold wlV at this; rw [wls_len, List.length_map, List.length_take] at this; omega
       have hqs : q.fs = .slice (some ⟨q.b, q.off, none⟩) (V.length - j) q.cap := by unfold OQ.fs; rw [strows_len, List.length_drop]
       rw [hqs]
       refine sy_seq ?_
       refine sy_seq ?_
       refine sy_tx' [0, 1, 2] rfl ?_
       refine spL rfl rfl (lh sc156 rfl rfl) rfl ?_
       refine sp rfl (PE.lenSl isl156 rfl) rfl ?_
       refine sp rfl (PE.gtr rfl rfl) rfl ?_
       refine sy_cond rfl (fun hc2 => ?_) (fun hc2 => ?_)
       ·
        try simp only [decide_eq_true_eq, decide_eq_false_iff_not, Bool.and_eq_true, Bool.or_eq_true, Bool.not_eq_true', Int.not_le, Int.not_lt] at hc2
        obtain ⟨p, hp⟩ : ∃ p, V[j]? = some p := ⟨_, List.getElem?_eq_getElem (by omega)⟩
        have hpV := List.mem_of_getElem? hp
        have hps := hbq.sts p hpV
        have hpl := hps.len
        have hpm := b.dsk.inS_sml hdk hps
        have hplv := hbq.lv p hpV
        have hpk := kpt_of ((b.dsk.mem_sts hdk p).2 hps) hn hfx
        have hpr := kpt_nn hpk
        have hpe : (ints p).length = 4 := by rw [ints_length]; exact hpl
        have hV4 : ∀ s ∈ V, s.length = 4 := fun s hs => (hbq.sts s hs).len
        refine Sy.heap (H' := (b8, cel 156 [.slice (some ⟨q.b, q.off, none⟩) (V.length - j) q.cap]) :: (b9, cel 128 [.map (some m48)]) :: (m48, mapO true (kvL b.dsk n V)) :: (q.b, cel 127 (q.pre ++ ((strows (V.drop j)).flatten ++ q.junk))) :: (o.G ++ (b1, cel 25 (btl b (b.sl ab cb))) :: (mkh mk ++ H))) (fun w h => h) ?_
        have hdr : (q.pre ++ ((strows (V.drop j)).flatten ++ q.junk)).drop (q.off + (0 : Int).toNat * 4) = ints p ++ ((strows (V.drop (j + 1))).flatten ++ q.junk) := by
          have hfl : (strows (V.drop j)).flatten = ints p ++ (strows (V.drop (j + 1))).flatten := by rw [strows_drop hp, List.flatten_cons]
          rw [hfl, show q.off + (0 : Int).toNat * 4 = q.pre.length by rw [q.pl]; simp, List.drop_left, List.append_assoc]
        obtain ⟨q2, hq2, hqG2⟩ := (q.cast (strows_drop hp)).pop
        have hqc : (q.cast (strows_drop hp)).b = q.b ∧ (q.cast (strows_drop hp)).off = q.off ∧ (q.cast (strows_drop hp)).cap = q.cap := by
          generalize strows_drop hp = e
          generalize ints p :: strows (V.drop (j + 1)) = r at e
          subst e; exact ⟨rfl, rfl, rfl⟩
        rw [hqc.1, hqc.2.1, hqc.2.2, strows_len, List.length_drop] at hq2
        rw [OQ.cast_G] at hqG2
        refine sy_skip ?_
        refine sy_block ?_
        refine sy_seq ?_
        refine sy_tx' [0, 1, 2, 3, 4] rfl ?_
        refine spL rfl rfl (lh sc156 rfl rfl) rfl ?_
        refine sp rfl (PE.indexAddr el156 rfl rfl (by omega) (by omega)) rfl ?_
        refine spL rfl rfl (lhA (ints p) ag127 rfl hdr hpe) rfl ?_
        refine alc rfl zl127 rfl (fun b11 => ?_)
        refine stoA rfl rfl rfl cn127 rfl (by rw [ints_length]; exact hpl) rfl (ints_one _) ?_
        refine sy_seq ?_
        refine sy_tx' [0, 1, 2] rfl ?_
        refine spL rfl rfl (lh sc156 rfl rfl) rfl ?_
        refine sp rfl (PE.slLoA (l := 1) sl156 rfl rfl (by omega)) rfl ?_
        have hq2e : Value.slice (if q.cap = 1 then some ⟨q.b, q.off, none⟩ else (some (⟨q.b, q.off, none⟩ : Addr)).map (·.add (1 * 4))) (V.length - j - 1) (q.cap - 1) = q2.fs := by
          rw [hq2, Option.map_some, addr_add, show V.length - (j + 1) = V.length - j - 1 by omega]
        rw [hq2e]
        refine stoE (l' := [q2.fs]) rfl rfl rfl cn156 rfl rfl rfl rfl (Nat.le_refl _) ?_
        refine Sy.heap (H' := (b11, cel 127 (ints p)) :: (b8, cel 156 [q2.fs]) :: (b9, cel 128 [.map (some m48)]) :: (m48, mapO true (kvL b.dsk n V)) :: (q2.G ++ (o.G ++ (b1, cel 25 (btl b (b.sl ab cb))) :: (mkh mk ++ H)))) (fun w h => by rw [hqG2]; exact h) ?_
        refine sy_seq ?_
        refine sy_draw [0, 0, 2, 6, 14, 30, 0, 0, 192, 510, 1022, 2047, 4095] (.tk 0 (.tk 1 (.ld 2 (.tk 3 (.tk 4 (.ld 6 (.ld 7 (.ld 8 (.big 5 (.tk 9 (.big 10 (.big 11 (.tk 12 .done))))))))))))) mixed (by kernel_rfl) ?_
        refine tk rfl (PE.move rfl) rfl ?_
        refine tk rfl (PE.fieldAddr fo25_3 rfl) rfl ?_
        refine ld rfl rfl (lh sc23 rfl rfl) rfl ?_
        refine tk rfl (PE.lenSl isl23 rfl) rfl ?_
        refine tk rfl (PE.slArrHi (h := b.bins.length) ar127 rfl rfl (by omega)) rfl ?_
        refine ld rfl rfl (lh sc128 rfl rfl) rfl ?_
        refine ld rfl rfl (lhA (rest := []) (ints p) ag127 rfl (by rw [List.append_nil]; rfl) (by rw [ints_length]; exact hpl)) rfl ?_
        refine ldK rfl rfl rfl (lk_factE hpl (kvL_len hV4) (kvL_get hpV) (heldM (x := m48))) rfl ?_
        refine cl rfl cal114 rfl rfl (c_Clone b11 127 b.bins.length 4 p (by omega) (by omega) _ _) ?_
        rintro _ _ _ ⟨ol, rfl, rfl, rfl⟩
        obtain ⟨ay, cy, he, hf⟩ := ol.freeze
        rw [he, irows_len]
        refine Sy.heap (fun w h => hf h) ?_
        clear he hf
        refine bg (fun w hs => ⟨(lk_factE hpl (kvL_len hV4) (kvL_get hpV) (heldM (x := m48))) w hs, (lhA (rest := []) (ints p) ag127 rfl (by rw [List.append_nil]; rfl) (by rw [ints_length]; exact hpl)) w hs, (lh sc128 rfl rfl) w hs, trivial, trivial⟩) ?_
        refine tk rfl (PE.build (out := [_, _]) pl93 zl93 rfl rfl) rfl ?_
        refine bsl (out := [_, _]) rfl sl91 zl93 rfl rfl rfl rfl rfl rfl (fun b77 => ?_)
        refine bg (fun w hs => ⟨trivial, trivial, trivial, trivial⟩) ?_
        refine apO (o) rfl ap91 rfl rfl (rowsH (row := werow ⟨ay, cy, p.take b.bins.length, b.dsk.lvl n p⟩) rfl) rfl rfl ((by rw [werows_len]; simp only [List.length_singleton]; omega)) rfl (fun o78 => ?_)
        refine bg (fun w hs => trivial) ?_
        refine tk rfl (PE.assign rfl) rfl ?_
        refine sy_seq ?_
        refine sy_tx' [0, 1] rfl ?_
        refine Sy.heap (fun w h => St.inwSnoc (l := W) ⟨ay, cy, p.take b.bins.length, b.dsk.lvl n p⟩ h) ?_
        obtain ⟨o78, e78, g78⟩ : ∃ o' : OSl 93 2 (werows (W ++ [⟨ay, cy, p.take b.bins.length, b.dsk.lvl n p⟩])), o'.fs = o78.fs ∧ o'.G = o78.G := ⟨o78.cast (by rw [werows_app]; rfl), rfl, rfl⟩
        rw [← e78]
        refine Sy.heap (H' := (b11, cel 127 (ints p)) :: (b8, cel 156 [q2.fs]) :: (b9, cel 128 [.map (some m48)]) :: (m48, mapO true (kvL b.dsk n V)) :: (q2.G ++ (o78.G ++ (b1, cel 25 (btl b (b.sl ab cb))) :: (mkh mk ++ H)))) (R' := InW (W ++ [⟨ay, cy, p.take b.bins.length, b.dsk.lvl n p⟩]) :: RowsA (some ⟨b6, 0, none⟩) 1 [[.func (.func 113) #[] #[.pointer (some ⟨b4, 0, none⟩), .pointer (some ⟨b6, 0, none⟩)]]] :: RowsA (some ⟨b4, 0, none⟩) 1 [[.pointer (some ⟨bd, 0, none⟩)]] :: KpF m kv :: RowsA (some ⟨bd, 0, none⟩) 18 [dcs b (b.sl ab cb) b.lasts b.most m] :: R) (fun w h => by rw [← g78] at h; exact St.sub (h.del b77)) ?_
        clear e78 g78
        refine spL rfl rfl (lfB (sz := 1) sc123 rfl) rfl ?_
        refine cl rfl cal115 rfl rfl (c_turnings bd false _ _) ?_
        rintro _ _ _ ⟨xb, xf, rfl, rfl, rfl⟩
        refine sy_block ?_
        refine sy_range rfl cal133 (fun c0 bl0 bd0 hcp0 hca0 hcb0 hck0 => ?_)
        refine ⟨fun st pend T R' => st = .ready ∧ pend = none ∧ ∃ (V' : List HSt) (q' : OQ 127 4 (strows (V'.drop (j + 1)))), Bq b.dsk n b.state V' j ∧ V'.take (j + 1) = V.take (j + 1) ∧ V'[j]? = some p ∧ CvK b.dsk n V' p ((b.dsk.trs false).length) ∧ T = (bd0, .deferred (some [])) :: (b11, cel 127 (ints p)) :: (b8, cel 156 [q'.fs]) :: (b9, cel 128 [.map (some m48)]) :: (m48, mapO true (kvL b.dsk n V')) :: (q'.G ++ (o78.G ++ (b1, cel 25 (btl b (b.sl ab cb))) :: (mkh mk ++ H))) ∧ R' = RowsA (some ⟨xf, 0, none⟩) 1 [[.bool false]] :: RowsA (some ⟨xb, 0, none⟩) 1 [[.pointer (some ⟨bd, 0, none⟩)]] :: InW (W ++ [⟨ay, cy, p.take b.bins.length, b.dsk.lvl n p⟩]) :: RowsA (some ⟨b6, 0, none⟩) 1 [[.func (.func 113) #[] #[.pointer (some ⟨b4, 0, none⟩), .pointer (some ⟨b6, 0, none⟩)]]] :: RowsA (some ⟨b4, 0, none⟩) 1 [[.pointer (some ⟨bd, 0, none⟩)]] :: KpF m kv :: RowsA (some ⟨bd, 0, none⟩) 18 [dcs b (b.sl ab cb) b.lasts b.most m] :: R,
          Fn.mono (c_turnings1 b hok ab cb bd m false xb xf bl0 (fun k H' R' => ∃ (V' : List HSt) (q' : OQ 127 4 (strows (V'.drop (j + 1)))), Bq b.dsk n b.state V' j ∧ V'.take (j + 1) = V.take (j + 1) ∧ V'[j]? = some p ∧ CvK b.dsk n V' p (k) ∧ H' = (bl0, lob c0 .ready none) :: (bd0, .deferred (some [])) :: (b11, cel 127 (ints p)) :: (b8, cel 156 [q'.fs]) :: (b9, cel 128 [.map (some m48)]) :: (m48, mapO true (kvL b.dsk n V')) :: (q'.G ++ (o78.G ++ (b1, cel 25 (btl b (b.sl ab cb))) :: (mkh mk ++ H))) ∧ R' = RowsA (some ⟨xf, 0, none⟩) 1 [[.bool false]] :: RowsA (some ⟨xb, 0, none⟩) 1 [[.pointer (some ⟨bd, 0, none⟩)]] :: InW (W ++ [⟨ay, cy, p.take b.bins.length, b.dsk.lvl n p⟩]) :: RowsA (some ⟨b6, 0, none⟩) 1 [[.func (.func 113) #[] #[.pointer (some ⟨b4, 0, none⟩), .pointer (some ⟨b6, 0, none⟩)]]] :: RowsA (some ⟨b4, 0, none⟩) 1 [[.pointer (some ⟨bd, 0, none⟩)]] :: KpF m kv :: RowsA (some ⟨bd, 0, none⟩) 18 [dcs b (b.sl ab cb) b.lasts b.most m] :: R)
            (fun _ _ => False)
            (fun k H' R' h => by obtain ⟨_, _, _, _, _, _, _, rfl⟩ := h; exact ⟨by simp, by simp, by simp⟩) (fun k l a c H' R' hk hI => ?_) _ _ ⟨V, q2, hbq, rfl, hp, fun i l hi => absurd hi (Nat.not_lt_zero _), rfl, rfl⟩) (fun v H' R' h => ?_), ?_⟩
        rotate_left
        · rcases h with ⟨V', q', h1, h2, h3, h4, rfl, rfl⟩ | h
          · exact ⟨.ready, none, _, by simp, .refl _, rfl, rfl, V', q', h1, h2, h3, h4, rfl, rfl⟩
          · exact h.elim
        rotate_left
        have hlm := List.mem_of_getElem? hk
        have hlt := b.dsk.trs_lt hlm
        have hll : l.length ≤ 1000000 := by
          obtain ⟨i, _, rfl⟩ := List.mem_map.1 (List.mem_filter.1 hlm).1
          have := bitl_len b.dsk.n i
          have := hdk.n
          omega
        obtain ⟨V1, q3, hb1, ht1, hp1, hcv, rfl, rfl⟩ := hI
        have hj1 := (List.getElem?_eq_some_iff.1 hp1).1
        have hf1 := hb1.few hdk
        have hp1V := List.mem_of_getElem? hp1
        have hV14 : ∀ s ∈ V1, s.length = 4 := fun s hs => (hb1.sts s hs).len
        refine yd_of hcp0 hca0 hcb0 hck0 rfl ?_
        refine sy_tx' [0] rfl ?_
        refine sp rfl (PE.assign rfl) rfl ?_
        refine sy_beginRound ?_
        refine sy_block ?_
        refine sy_seq ?_
        refine sy_tx' [0, 1, 2, 3, 4, 5, 6, 7, 8, 9] rfl ?_
        refine spL rfl rfl (lfB (sz := 1) sc123 rfl) rfl ?_
        refine spL rfl rfl (lhA (rest := []) (ints p) ag127 rfl (by rw [List.append_nil]; rfl) (by rw [ints_length]; exact hpl)) rfl ?_
        refine sp rfl (PE.move rfl) rfl ?_
        refine cl rfl cal116 rfl rfl (c_next b hok ab cb bd m p hpm l hlt hll a c _ _) ?_
        rintro _ _ _ ⟨rfl, rfl, rfl⟩
        rcases hnx : b.dsk.next p l with _ | t
        refine sp rfl (PE.move rfl) rfl ?_
        refine sp rfl (PE.extract rfl rfl) rfl ?_
        refine sp rfl (PE.extract rfl rfl) rfl ?_
        refine alc rfl zl127 rfl (fun b13 => ?_)
        first | (refine stoA rfl rfl rfl cn127 rfl rfl rfl (ints_one _) ?_) | (refine stoA rfl rfl rfl cn127 rfl (by rw [ints_length]; exact htl) rfl (ints_one _) ?_)
        refine sp rfl (PE.assign rfl) rfl ?_
        refine sy_seq ?_
        refine sy_seq ?_
        refine sy_tx' [0, 1] rfl ?_
        refine sp rfl (PE.move rfl) rfl ?_
        refine sp rfl (PE.not rfl) rfl ?_
        refine sy_condT rfl ?_
        refine sy_exit ?_
        refine sy_tx ?_
        refine sy_bx ?_
        exact sy_roundOn (.inl ⟨rfl, V1, q3, hb1, ht1, hp1, hcv.more hk (fun t ht => by rw [hnx] at ht; cases ht), rfl, rfl⟩) (fun _ h => (h.del b13).ftail)
        refine sp rfl (PE.move rfl) rfl ?_
        have hts := b.dsk.next_inS hdk hps hlt hnx
        have htl := hts.len
        have htlv : b.dsk.lvl n t < b.dsk.lvl n p := kpt_next hdk hps hlm hnx hpk (kpt_of ((b.dsk.mem_sts hdk t).2 hts) hn hfx) (by omega)
        refine sp rfl (PE.extract rfl rfl) rfl ?_
        refine sp rfl (PE.extract rfl rfl) rfl ?_
        refine alc rfl zl127 rfl (fun b13 => ?_)
        first | (refine stoA rfl rfl rfl cn127 rfl rfl rfl (ints_one _) ?_) | (refine stoA rfl rfl rfl cn127 rfl (by rw [ints_length]; exact htl) rfl (ints_one _) ?_)
        refine sp rfl (PE.assign rfl) rfl ?_
        refine sy_seq ?_
        refine sy_seq ?_
        refine sy_tx' [0, 1] rfl ?_
        refine sp rfl (PE.move rfl) rfl ?_
        refine sp rfl (PE.not rfl) rfl ?_
        refine sy_condF rfl ?_
        refine sy_skip ?_
        refine sy_seq ?_
        refine sy_draw [0, 0, 0, 0, 12, 28, 63, 127] (.ld 0 (.ld 1 (.ld 2 (.ld 3 (.ld 4 (.tk 5 (.big 6 (.big 7 .done)))))))) mixed (by kernel_rfl) ?_
        refine ld rfl rfl (lfB (sz := 1) sc155 rfl) rfl ?_
        refine ld rfl rfl (lhA (rest := []) (ints t) ag127 rfl (by rw [List.append_nil]; rfl) (by rw [ints_length]; exact htl)) rfl ?_
        refine ld rfl rfl (lh sc128 rfl rfl) rfl ?_
        refine ld rfl rfl (lhA (rest := []) (ints p) ag127 rfl (by rw [List.append_nil]; rfl) (by rw [ints_length]; exact hpl)) rfl ?_
        refine ldK rfl rfl rfl (lk_factE hpl (kvL_len hV14) (kvL_get hp1V) (heldM (x := m48))) rfl ?_
        refine tk rfl (PE.sub rfl rfl (by omega)) rfl ?_
        refine clF rfl rfl (cal113) rfl rfl (c_raise b hok ab cb bd m n hn kv hkv b4 b6 (b.dsk.lvl n p - 1) t hts _ _) ?_
        rintro _ _ _ ⟨uf, hu, rfl, rfl, rfl⟩
        obtain ⟨u0, u1, u2, u3, rfl⟩ := list4 hu.inS.len
        have hulv : b.dsk.lvl n [u0, u1, u2, u3] < b.dsk.lvl n p := by
          rcases hu.lv with h1 | h1
          · rw [h1]; exact htlv
          · omega
        have hum := (b.dsk.mem_sts hdk _).2 hu.inS
        have hukv := hkv.get _ hum
        have hcvu : ∀ V2 : List HSt, [u0, u1, u2, u3] ∈ V2 → ∀ t2, b.dsk.next p l = some t2 → ∃ u ∈ V2, undP b.dsk.n t2 u = true ∧ b.dsk.lvl n u < b.dsk.lvl n p := fun V2 hm t2 ht2 => by rw [hnx] at ht2; cases ht2; exact ⟨_, hm, hu.le, hulv⟩
        obtain ⟨go, hgo⟩ : ∃ go, (kvL b.dsk n V1).get [u0, u1, u2, u3] = go := ⟨_, rfl⟩
        refine bg (fun w hs => ⟨trivial, trivial, trivial, trivial, trivial, trivial⟩) ?_
        refine stoA rfl rfl rfl cn127 rfl (by rw [ints_length]; rfl) (by rw [ints_length]; exact htl) (ints_one _) ?_
        refine bg (fun w hs => trivial) ?_
        refine sy_seq ?_
        refine sy_tx' [0, 1, 2, 3, 4, 5, 6, 7] rfl ?_
        refine spL rfl rfl (lh sc128 rfl rfl) rfl ?_
        refine spL rfl rfl (lhA (rest := []) (ints [u0, u1, u2, u3]) ag127 rfl (by rw [List.append_nil]; rfl) (by rw [ints_length]; exact rfl)) rfl ?_
        refine spK rfl rfl rfl (lk_held (b := true) (kvL b.dsk n V1) [u0, u1, u2, u3] mke128 (KeyT.of eqf127 noa127) (run_zv zv3) rfl (kvL_len hV14) true) rfl ?_
        rw [hgo]
        refine sp rfl (PE.move rfl) rfl ?_
        refine sp rfl (PE.extract rfl rfl) rfl ?_
        refine sp rfl (PE.extract rfl rfl) rfl ?_
        refine sp rfl (PE.assign rfl) rfl ?_
        refine sp rfl (PE.assign rfl) rfl ?_
        refine sy_seq ?_
        refine sy_draw [0, 1, 3, 7, 7, 23, 55, 119, 7, 503, 1023, 2047] (.tk 0 (.tk 1 (.tk 2 (.tk 3 (.ld 4 (.tk 5 (.tk 6 (.ld 7 (.ld 8 (.ld 9 (.tk 10 (.tk 11 .done)))))))))))) mixed (by kernel_rfl) ?_
        refine tk rfl (PE.move rfl) rfl ?_
        refine tk rfl (PE.not rfl) rfl ?_
        refine tk rfl (PE.move rfl) rfl ?_
        refine sy_case (t := 106) rfl (fun g106 => ?_) (fun g106 => ?_)
        obtain rfl : go = none := by cases go with
          | none => rfl
          | some g => exact absurd g106 (by simp)
        have hun : [u0, u1, u2, u3] ∉ V1 := fun hm => by rw [kvL_get hm] at hgo; cases hgo
        refine tkN rfl rfl rfl rfl rfl rfl rfl rfl ?_
        refine ldN rfl rfl rfl rfl rfl rfl rfl rfl ?_
        repeat refine tkN rfl rfl rfl rfl rfl rfl rfl rfl ?_
        repeat refine ldN rfl rfl rfl rfl rfl rfl rfl rfl ?_
        refine tkN rfl rfl rfl rfl rfl rfl rfl rfl ?_
        refine tk rfl (PE.pick rfl rfl rfl) rfl ?_
        refine sy_condT rfl ?_
        refine sy_seq ?_
        refine sy_draw [0, 0, 0, 4, 12, 28, 0, 124, 255] (.ld 0 (.ld 1 (.ld 2 (.tk 3 (.tk 4 (.ld 5 (.ld 6 (.ld 7 (.big 8 .done))))))))) mixed (by kernel_rfl) ?_
        refine ld rfl rfl (lh sc128 rfl rfl) rfl ?_
        refine ld rfl rfl (lhA (rest := []) (ints [u0, u1, u2, u3]) ag127 rfl (by rw [List.append_nil]; rfl) (by rw [ints_length]; exact rfl)) rfl ?_
        refine ld rfl rfl (lfB (sz := 1) sc123 rfl) rfl ?_
        refine tk rfl (PE.nilCheck rfl) rfl ?_
        refine tk rfl (PE.fieldAddr fo130_3 rfl) rfl ?_
        refine ld rfl rfl (lfB (sz := 18) sc128 (dcs_map hl4 hm4)) rfl ?_
        refine ld rfl rfl (lhA (rest := []) (ints [u0, u1, u2, u3]) ag127 rfl (by rw [List.append_nil]; rfl) (by rw [ints_length]; exact rfl)) rfl ?_
        refine ldK rfl rfl rfl (lk_factE rfl hkv.len hukv (fun w hs => hs.now (MemF.mem (f := KpF m kv)))) rfl ?_
        refine mpu (kvL b.dsk n V1) [u0, u1, u2, u3] (v := .int .i64 (b.dsk.lvl n [u0, u1, u2, u3])) rfl mke128 (KeyT.of eqf127 noa127) rfl rfl rfl rfl (kvL_len hV14) ?_
        rw [kvL_put hun]
        refine bg (fun w hs => ⟨trivial, trivial, trivial, trivial, trivial, trivial, trivial⟩) ?_
        refine sy_tx' [0, 1, 2, 3, 4] rfl ?_
        refine spL rfl rfl (lh sc156 rfl rfl) rfl ?_
        refine spL rfl rfl (lhA (rest := []) (ints [u0, u1, u2, u3]) ag127 rfl (by rw [List.append_nil]; rfl) (by rw [ints_length]; exact rfl)) rfl ?_
        refine bsl (out := [_, _, _, _]) rfl sl156 zl127 rfl rfl rfl rfl rfl rfl (fun b126 => ?_)
        refine apQ q3 rfl ap156 rfl rfl (rowsH (row := ints [u0, u1, u2, u3]) rfl) rfl (by simp) rfl (by rw [strows_len, List.length_drop]; simp only [List.length_singleton]; omega) rfl (fun q4 => ?_)
        refine stoE (l' := [q4.fs]) rfl rfl rfl cn156 rfl rfl rfl rfl (Nat.le_refl _) ?_
        obtain ⟨q5, e5, g5⟩ : ∃ q5 : OQ 127 4 (strows ((V1 ++ [[u0, u1, u2, u3]]).drop (j + 1))), q5.fs = q4.fs ∧ q5.G = q4.G := ⟨q4.cast (strows_add (by omega) _), OQ.cast_fs _ _, OQ.cast_G _ _⟩
        exact sy_roundOn (.inl ⟨rfl, V1 ++ [[u0, u1, u2, u3]], q5, hb1.add (by omega) hu.inS hun (by have := hulv; omega), by rw [List.take_append_of_le_length (by omega)]; exact ht1, by rw [List.getElem?_append_left hj1]; exact hp1, (hcv.add _).more hk (hcvu _ (by simp)), rfl, rfl⟩) (fun _ h => by rw [e5, g5]; exact ((h.del b126).del b13).ftail)
        obtain ⟨g, rfl⟩ : ∃ g, go = some g := by cases go with
          | none => exact absurd g106 (by simp)
          | some g => exact ⟨g, rfl⟩
        have hui : [u0, u1, u2, u3] ∈ V1 := Classical.byContradiction fun hm => by rw [kvL_no hm] at hgo; cases hgo
        obtain rfl : g = .int .i64 (b.dsk.lvl n [u0, u1, u2, u3]) := by rw [kvL_get hui] at hgo; cases hgo; rfl
        refine tkG rfl rfl rfl rfl (PE.move rfl) rfl ?_
        refine ldG rfl rfl rfl rfl rfl (lfB (sz := 1) sc123 rfl) rfl ?_
        refine tkG rfl rfl rfl rfl (PE.nilCheck rfl) rfl ?_
        refine tkG rfl rfl rfl rfl (PE.fieldAddr fo130_3 rfl) rfl ?_
        refine ldG rfl rfl rfl rfl rfl (lfB (sz := 18) sc128 (dcs_map hl4 hm4)) rfl ?_
        refine ldG rfl rfl rfl rfl rfl (lhA (rest := []) (ints [u0, u1, u2, u3]) ag127 rfl (by rw [List.append_nil]; rfl) (by rw [ints_length]; exact rfl)) rfl ?_
        refine ldKG rfl rfl rfl rfl rfl rfl (lk_factE rfl hkv.len hukv (fun w hs => hs.now (MemF.mem (f := KpF m kv)))) rfl ?_
        refine tkG rfl rfl rfl rfl (PE.neq rfl rfl) rfl ?_
        refine tk rfl (PE.pick rfl rfl rfl) rfl ?_
        refine sy_cond rfl (fun hc4 => ?_) (fun hc4 => ?_)
        exact absurd hc4 (by simp)
        refine sy_skip ?_
        exact sy_roundOn (.inl ⟨rfl, V1, q3, hb1, ht1, hp1, hcv.more hk (hcvu V1 hui), rfl, rfl⟩) (fun _ h => (h.del b13).ftail)
        ·
         rintro _ _ _ _ ⟨rfl, rfl, V1, q3, hb1, ht1, hp1, hcv, rfl, rfl⟩
         refine sy_jn ?_
         have hj1 := (List.getElem?_eq_some_iff.1 hp1).1
         have hf1 := hb1.few hdk
         exact sy_nextD ⟨⟨(V1, j + 1, W ++ [⟨ay, cy, p.take b.bins.length, b.dsk.lvl n p⟩], bd0 :: mk), hb1.next hp1 hcv, hj1, by dsimp only; rw [wls_app, hwv, ht1, wlV_snoc hp]; rfl⟩, o78, q3⟩ (by dsimp only; omega) (by repeat' first | exact Sub.nil | apply Sub.cons | rfl | (simp [lk]; omega)) rfl (fun w h => St.sub ((h.del b11).perm ((perm_swap3 [_] [_, _, _] _).trans (List.Perm.append_left [_, _, _] ((List.perm_middle (l₁ := q3.G)).symm.trans (List.Perm.append_left q3.G ((List.perm_middle (l₁ := o78.G)).symm.trans (List.Perm.append_left o78.G (List.Perm.swap _ _ _)))))))))
       try simp only [decide_eq_true_eq, decide_eq_false_iff_not, Bool.and_eq_true, Bool.or_eq_true, Bool.not_eq_true', Int.not_le, Int.not_lt] at hc2
       obtain rfl : j = V.length := by omega
       rw [List.take_of_length_le (Nat.le_refl _)] at hwv
       have hw := hbq.wall hok hn hfx hc1
       rw [← hwv] at hw
       have hdm : ∀ x ∈ W, x.d ≤ b.dsk.lvl n b.state := fun x hx => by
         have h1 := wls_mem hx
         rw [hwv] at h1
         obtain ⟨v, hv, e⟩ := List.mem_map.1 h1
         have h2 := hbq.lv v hv
         have h3 : b.dsk.lvl n v = x.d := congrArg Prod.snd e
         omega
       obtain ⟨aw, cw, he, hcw, hf⟩ := o.freezeC
       rw [he, werows_len]
       rw [werows_len] at hcw
       refine sy_exit ?_
       repeat refine sy_tx ?_
       refine sy_bx ?_
       refine sy_seq ?_
       refine sy_tx' [0, 1, 2] rfl ?_
       refine sp rfl (PE.move rfl) rfl ?_
       refine sp rfl (PE.assign rfl) rfl ?_
       refine sp rfl (PE.assign rfl) rfl ?_
       refine sy_ret ?_
       refine Sy.heap (H' := mkh mk ++ H) (R' := RowsA aw 2 (werows W) :: InW W :: R) (fun w h => St.sub (hf ((St.drop (G := q.G) (((h.del m48).del b9).del b8)).del b1))) ?_
       exact sy_returnM mk (fun _ h => h) rfl (.cons (RV.tmp rfl) (.cons (RV.tmp rfl) .nil)) rfl ⟨rfl, .inr (.inr ⟨hck, _, W, aw, cw, hc1, hks, hw, by omega, hcw, hdm, rfl, rfl⟩)⟩ (fun w h => h)
    exact sy_stop
   refine sy_alt ?_ ?_
   ·
    refine alc rfl zl156 rfl (fun b8 => ?_)
    refine bg (fun w hs => ⟨(lk_factE hsi.len hkv.len hkg (fun w hs => hs.now (MemF.mem (f := KpF m kv)))) w hs, (lhA (rest := []) (ints b.state) ag127 rfl (by rw [List.append_nil]; rfl) (by rw [ints_length]; exact hsi.len)) w hs, (lfB (sz := 18) sc128 (dcs_map hl4 hm4)) w hs, (lfB (sz := 1) sc123 rfl) w hs, (lhA (rest := []) (ints b.state) ag127 rfl (by rw [List.append_nil]; rfl) (by rw [ints_length]; exact hsi.len)) w hs, (lfB (sz := 1) sc155 rfl) w hs, trivial⟩) ?_
    refine clF rfl rfl (cal113) rfl rfl (c_raise b hok ab cb bd m n hn kv hkv b4 b6 (b.dsk.lvl n b.state) b.state hsi _ _) ?_
    rintro _ _ _ ⟨uf, huf, rfl, rfl, rfl⟩
    obtain ⟨f0, f1, f2, f3, rfl⟩ := list4 huf.inS.len
    refine bg (fun w hs => ⟨trivial, trivial, trivial, trivial, trivial, trivial, trivial⟩) ?_
    refine bsl (out := [_, _, _, _]) rfl sl156 zl127 rfl rfl rfl rfl rfl rfl (fun b47 => ?_)
    refine bg (fun w hs => trivial) ?_
    refine sto rfl rfl rfl cn156 rfl rfl rfl rfl ?_
    refine bg (fun w hs => trivial) ?_
    refine sy_seq ?_
    refine sy_cut (ι := {x : (Nat × Nat × Nat × Nat) × HSt // Rz b.dsk n (b.dsk.lvl n b.state) b.state x.2}) (fun x => ⟨[(1, .pointer (some ⟨b1, 0, none⟩)), (4, .pointer (some ⟨b4, 0, none⟩)), (6, .pointer (some ⟨b6, 0, none⟩)), (8, .pointer (some ⟨x.1.1.1, 0, none⟩)), (9, .pointer (some ⟨x.1.1.2.1, 0, none⟩))], (x.1.1.1, cel 156 [.slice (some ⟨x.1.1.2.2.2, 0, none⟩) 1 1]) :: (x.1.1.2.1, cel 128 [.map (some x.1.1.2.2.1)]) :: (x.1.1.2.2.1, mapO true [(x.1.2, .int .i64 (b.dsk.lvl n b.state))]) :: (x.1.1.2.2.2, cel 127 (ints x.1.2)) :: (b1, cel 25 (btl b (b.sl ab cb))) :: H, RowsA (some ⟨b6, 0, none⟩) 1 [[.func (.func 113) #[] #[.pointer (some ⟨b4, 0, none⟩), .pointer (some ⟨b6, 0, none⟩)]]] :: RowsA (some ⟨b4, 0, none⟩) 1 [[.pointer (some ⟨bd, 0, none⟩)]] :: KpF m kv :: RowsA (some ⟨bd, 0, none⟩) 18 [dcs b (b.sl ab cb) b.lasts b.most m] :: R⟩) ?_ ?_
    refine sy_draw [0, 0, 2, 6, 0, 16, 48, 112, 0, 496, 1023, 2047, 0, 8191] (.ld 1 (.tk 2 (.ld 3 (.ld 4 (.tk 5 (.tk 6 (.ld 7 (.ld 8 (.ld 9 (.any (.alt 0 (.any (.alt 10 (.tk 11 (.big 12 (.big 13 .done))) (.alt 12 (.big 10 (.tk 11 (.big 13 .done))) .stop))) (.alt 12 (.big 0 (.big 10 (.tk 11 (.big 13 .done)))) .stop)))))))))))) mixed (by kernel_rfl) ?_
    refine ld rfl rfl (lh sc156 rfl rfl) rfl ?_
    refine tk rfl (PE.indexAddr el156 rfl rfl (by decide) (by decide)) rfl ?_
    refine ld rfl rfl (lhA (rest := []) (ints [f0, f1, f2, f3]) ag127 rfl (by rw [List.append_nil]; rfl) (by rw [ints_length]; exact rfl)) rfl ?_
    refine ld rfl rfl (lfB (sz := 1) sc123 rfl) rfl ?_
    refine tk rfl (PE.nilCheck rfl) rfl ?_
    refine tk rfl (PE.fieldAddr fo130_3 rfl) rfl ?_
    refine ld rfl rfl (lfB (sz := 18) sc128 (dcs_map hl4 hm4)) rfl ?_
    refine ld rfl rfl (lhA (rest := []) (ints b.state) ag127 rfl (by rw [List.append_nil]; rfl) (by rw [ints_length]; exact hsi.len)) rfl ?_
    refine ldK rfl rfl rfl (lk_factE hsi.len hkv.len hkg (fun w hs => hs.now (MemF.mem (f := KpF m kv)))) rfl ?_
    refine sy_alt ?_ ?_
    refine mkm rfl rfl true (fun m48 => ?_)
    refine bg (fun w hs => ⟨(lk_factE hsi.len hkv.len hkg (fun w hs => hs.now (MemF.mem (f := KpF m kv)))) w hs, (lhA (rest := []) (ints b.state) ag127 rfl (by rw [List.append_nil]; rfl) (by rw [ints_length]; exact hsi.len)) w hs, (lfB (sz := 18) sc128 (dcs_map hl4 hm4)) w hs, (lfB (sz := 1) sc123 rfl) w hs, (lhA (rest := []) (ints [f0, f1, f2, f3]) ag127 rfl (by rw [List.append_nil]; rfl) (by rw [ints_length]; exact rfl)) w hs, (lh sc156 rfl rfl) w hs, trivial⟩) ?_
    refine sy_alt ?_ ?_
    refine mpi [] [f0, f1, f2, f3] rfl mke128 (KeyT.of eqf127 noa127) rfl rfl rfl rfl (by simp) ?_
    refine bg (fun w hs => ⟨trivial, trivial, trivial, trivial, trivial, trivial, trivial⟩) ?_
    refine tk rfl (PE.move rfl) rfl ?_
    refine alc rfl zl128 rfl (fun b9 => ?_)
    refine bg (fun w hs => trivial) ?_
    refine sto rfl rfl rfl cn128 rfl rfl rfl rfl ?_
    refine bg (fun w hs => trivial) ?_
    exact sy_cutEnd ⟨((b8, b9, m48, b47), [f0, f1, f2, f3]), huf⟩ (by repeat' first | exact Sub.nil | apply Sub.cons | rfl | (simp [lk]; omega)) (fun w h => (((((h.pull b1).pull b47).pull m48).pull b9).pull b8 |>.del b7))
    refine sy_alt ?_ ?_
    refine alc rfl zl128 rfl (fun b9 => ?_)
    refine bg (fun w hs => ⟨(lk_factE hsi.len hkv.len hkg (fun w hs => hs.now (MemF.mem (f := KpF m kv)))) w hs, (lhA (rest := []) (ints b.state) ag127 rfl (by rw [List.append_nil]; rfl) (by rw [ints_length]; exact hsi.len)) w hs, (lfB (sz := 18) sc128 (dcs_map hl4 hm4)) w hs, (lfB (sz := 1) sc123 rfl) w hs, (lhA (rest := []) (ints [f0, f1, f2, f3]) ag127 rfl (by rw [List.append_nil]; rfl) (by rw [ints_length]; exact rfl)) w hs, (lh sc156 rfl rfl) w hs, trivial⟩) ?_
    refine mpi [] [f0, f1, f2, f3] rfl mke128 (KeyT.of eqf127 noa127) rfl rfl rfl rfl (by simp) ?_
    refine bg (fun w hs => ⟨trivial, trivial, trivial, trivial, trivial, trivial, trivial⟩) ?_
    refine tk rfl (PE.move rfl) rfl ?_
    refine sto rfl rfl rfl cn128 rfl rfl rfl rfl ?_
    refine bg (fun w hs => trivial) ?_
    exact sy_cutEnd ⟨((b8, b9, m48, b47), [f0, f1, f2, f3]), huf⟩ (by repeat' first | exact Sub.nil | apply Sub.cons | rfl | (simp [lk]; omega)) (fun w h => (((((h.pull b1).pull b47).pull m48).pull b9).pull b8 |>.del b7))
    exact sy_stop
    refine sy_alt ?_ ?_
    refine alc rfl zl128 rfl (fun b9 => ?_)
    refine bg (fun w hs => ⟨(lk_factE hsi.len hkv.len hkg (fun w hs => hs.now (MemF.mem (f := KpF m kv)))) w hs, (lhA (rest := []) (ints b.state) ag127 rfl (by rw [List.append_nil]; rfl) (by rw [ints_length]; exact hsi.len)) w hs, (lfB (sz := 18) sc128 (dcs_map hl4 hm4)) w hs, (lfB (sz := 1) sc123 rfl) w hs, (lhA (rest := []) (ints [f0, f1, f2, f3]) ag127 rfl (by rw [List.append_nil]; rfl) (by rw [ints_length]; exact rfl)) w hs, (lh sc156 rfl rfl) w hs, trivial⟩) ?_
    refine mkm rfl rfl true (fun m48 => ?_)
    refine bg (fun w hs => ⟨(lk_factE hsi.len hkv.len hkg (fun w hs => hs.now (MemF.mem (f := KpF m kv)))) w hs, (lhA (rest := []) (ints b.state) ag127 rfl (by rw [List.append_nil]; rfl) (by rw [ints_length]; exact hsi.len)) w hs, (lfB (sz := 18) sc128 (dcs_map hl4 hm4)) w hs, (lfB (sz := 1) sc123 rfl) w hs, (lhA (rest := []) (ints [f0, f1, f2, f3]) ag127 rfl (by rw [List.append_nil]; rfl) (by rw [ints_length]; exact rfl)) w hs, (lh sc156 rfl rfl) w hs, trivial⟩) ?_
    refine mpi [] [f0, f1, f2, f3] rfl mke128 (KeyT.of eqf127 noa127) rfl rfl rfl rfl (by simp) ?_
    refine bg (fun w hs => ⟨trivial, trivial, trivial, trivial, trivial, trivial, trivial⟩) ?_
    refine tk rfl (PE.move rfl) rfl ?_
    refine sto rfl rfl rfl cn128 rfl rfl rfl rfl ?_
    refine bg (fun w hs => trivial) ?_
    exact sy_cutEnd ⟨((b8, b9, m48, b47), [f0, f1, f2, f3]), huf⟩ (by repeat' first | exact Sub.nil | apply Sub.cons | rfl | (simp [lk]; omega)) (fun w h => (((((h.pull b1).pull b47).pull m48).pull b9).pull b8 |>.del b7))
    exact sy_stop
    ·
     rintro ⟨⟨⟨b8, b9, m48, b47⟩, uf⟩, huf⟩
     dsimp only at huf ⊢
     obtain ⟨f0, f1, f2, f3, rfl⟩ := list4 huf.inS.len
     have hfl : b.dsk.lvl n [f0, f1, f2, f3] = b.dsk.lvl n b.state := by
       have h1 := lvl_mono hdk hn hfx hsi huf.inS huf.le
       have h2 := (Bq.start huf).lv [f0, f1, f2, f3] (by simp)
       omega
     refine sy_seq ?_
     refine sy_tx' [0] rfl ?_
     refine sp rfl (PE.assign rfl) rfl ?_
     refine sy_seq ?_
     refine sy_block ?_
     obtain ⟨q0, hq0, hqG⟩ := OQ.one (e := 127) (sz := 4) b47 (row := ints [f0, f1, f2, f3]) rfl
     obtain ⟨q1, hq1, hqG1⟩ : ∃ q1 : OQ 127 4 (strows (([[f0, f1, f2, f3]] : List HSt).drop 0)), q1.fs = .slice (some ⟨b47, 0, none⟩) 1 1 ∧ q1.G = [(b47, cel 127 (ints [f0, f1, f2, f3]))] := ⟨q0, hq0, hqG⟩
     refine Sy.heap (H' := (b8, cel 156 [q1.fs]) :: (b9, cel 128 [.map (some m48)]) :: (m48, mapO true (kvL b.dsk n [[f0, f1, f2, f3]])) :: (q1.G ++ ((OSl.nil 93 2).G ++ (b1, cel 25 (btl b (b.sl ab cb))) :: (mkh [] ++ H)))) (R' := InW [] :: RowsA (some ⟨b6, 0, none⟩) 1 [[.func (.func 113) #[] #[.pointer (some ⟨b4, 0, none⟩), .pointer (some ⟨b6, 0, none⟩)]]] :: RowsA (some ⟨b4, 0, none⟩) 1 [[.pointer (some ⟨bd, 0, none⟩)]] :: KpF m kv :: RowsA (some ⟨bd, 0, none⟩) 18 [dcs b (b.sl ab cb) b.lasts b.most m] :: R) (fun w h => by
       rw [hq1, hqG1, show kvL b.dsk n [[f0, f1, f2, f3]] = [([f0, f1, f2, f3], .int .i64 (b.dsk.lvl n b.state))] by unfold kvL; simp [hfl]]
       exact St.inw0 (show St ((b8, cel 156 [.slice (some ⟨b47, 0, none⟩) 1 1]) :: (b9, cel 128 [.map (some m48)]) :: (m48, mapO true [([f0, f1, f2, f3], .int .i64 (b.dsk.lvl n b.state))]) :: (b47, cel 127 (ints [f0, f1, f2, f3])) :: (b1, cel 25 (btl b (b.sl ab cb))) :: H) _ w from h)) ?_
     refine sy_loopD (ι := (y : {y : List HSt × Nat × List WE × List Nat // Bq b.dsk n b.state y.1 y.2.1 ∧ y.2.1 ≤ y.1.length ∧ wls y.2.2.1 = wlV b.dsk n (y.1.take y.2.1)}) × (OSl 93 2 (werows y.1.2.2.1) × OQ 127 4 (strows (y.1.1.drop y.1.2.1)))) (fun y => ⟨[(1, .pointer (some ⟨b1, 0, none⟩)), (4, .pointer (some ⟨b4, 0, none⟩)), (6, .pointer (some ⟨b6, 0, none⟩)), (8, .pointer (some ⟨b8, 0, none⟩)), (9, .pointer (some ⟨b9, 0, none⟩)), (10, y.2.1.fs)], mks y.1.1.2.2.2, (b8, cel 156 [y.2.2.fs]) :: (b9, cel 128 [.map (some m48)]) :: (m48, mapO true (kvL b.dsk n y.1.1.1)) :: (y.2.2.G ++ (y.2.1.G ++ (b1, cel 25 (btl b (b.sl ab cb))) :: (mkh y.1.1.2.2.2 ++ H))), InW y.1.1.2.2.1 :: RowsA (some ⟨b6, 0, none⟩) 1 [[.func (.func 113) #[] #[.pointer (some ⟨b4, 0, none⟩), .pointer (some ⟨b6, 0, none⟩)]]] :: RowsA (some ⟨b4, 0, none⟩) 1 [[.pointer (some ⟨bd, 0, none⟩)]] :: KpF m kv :: RowsA (some ⟨bd, 0, none⟩) 18 [dcs b (b.sl ab cb) b.lasts b.most m] :: R⟩) (fun y => b.dsk.nst - y.1.1.2.1) ⟨⟨([[f0, f1, f2, f3]], 0, [], []), Bq.start huf, Nat.zero_le _, rfl⟩, OSl.nil _ _, q1⟩ ?_ (fun y => ?_)
     exact sy_atD (by repeat' first | exact Sub.nil | apply Sub.cons | rfl | (simp [lk]; omega)) rfl (fun _ h => h)
     ·
      obtain ⟨⟨⟨V, j, W, mk⟩, hbq, hjv, hwv⟩, o, q⟩ := y
      dsimp only at hbq hjv hwv o q ⊢
      have hfew := hbq.few hdk
      have hWl : W.length = j := by have := congrArg List.length hwv; unfold wlV at this; rw [wls_len, List.length_map, List.length_take] at this; omega
      have hqs : q.fs = .slice (some ⟨q.b, q.off, none⟩) (V.length - j) q.cap := by unfold OQ.fs; rw [strows_len, List.length_drop]
      rw [hqs]
      refine sy_seq ?_
      refine sy_seq ?_
      refine sy_tx' [0, 1, 2] rfl ?_
      refine spL rfl rfl (lh sc156 rfl rfl) rfl ?_
      refine sp rfl (PE.lenSl isl156 rfl) rfl ?_
      refine sp rfl (PE.gtr rfl rfl) rfl ?_
      refine sy_cond rfl (fun hc2 => ?_) (fun hc2 => ?_)
      ·
       try simp only [decide_eq_true_eq, decide_eq_false_iff_not, Bool.and_eq_true, Bool.or_eq_true, Bool.not_eq_true', Int.not_le, Int.not_lt] at hc2
       obtain ⟨p, hp⟩ : ∃ p, V[j]? = some p := ⟨_, List.getElem?_eq_getElem (by omega)⟩
       have hpV := List.mem_of_getElem? hp
       have hps := hbq.sts p hpV
       have hpl := hps.len
       have hpm := b.dsk.inS_sml hdk hps
       have hplv := hbq.lv p hpV
       have hpk := kpt_of ((b.dsk.mem_sts hdk p).2 hps) hn hfx
       have hpr := kpt_nn hpk
       have hpe : (ints p).length = 4 := by rw [ints_length]; exact hpl
       have hV4 : ∀ s ∈ V, s.length = 4 := fun s hs => (hbq.sts s hs).len
       refine Sy.heap (H' := (b8, cel 156 [.slice (some ⟨q.b, q.off, none⟩) (V.length - j) q.cap]) :: (b9, cel 128 [.map (some m48)]) :: (m48, mapO true (kvL b.dsk n V)) :: (q.b, cel 127 (q.pre ++ ((strows (V.drop j)).flatten ++ q.junk))) :: (o.G ++ (b1, cel 25 (btl b (b.sl ab cb))) :: (mkh mk ++ H))) (fun w h => h) ?_
       have hdr : (q.pre ++ ((strows (V.drop j)).flatten ++ q.junk)).drop (q.off + (0 : Int).toNat * 4) = ints p ++ ((strows (V.drop (j + 1))).flatten ++ q.junk) := by
         have hfl : (strows (V.drop j)).flatten = ints p ++ (strows (V.drop (j + 1))).flatten := by rw [strows_drop hp, List.flatten_cons]
         rw [hfl, show q.off + (0 : Int).toNat * 4 = q.pre.length by rw [q.pl]; simp, List.drop_left, List.append_assoc]
       obtain ⟨q2, hq2, hqG2⟩ := (q.cast (strows_drop hp)).pop
       have hqc : (q.cast (strows_drop hp)).b = q.b ∧ (q.cast (strows_drop hp)).off = q.off ∧ (q.cast (strows_drop hp)).cap = q.cap := by
         generalize strows_drop hp = e
         generalize ints p :: strows (V.drop (j + 1)) = r at e
         subst e; exact ⟨rfl, rfl, rfl⟩
       rw [hqc.1, hqc.2.1, hqc.2.2, strows_len, List.length_drop] at hq2
       rw [OQ.cast_G] at hqG2
       refine sy_skip ?_
       refine sy_block ?_
       refine sy_seq ?_
       refine sy_tx' [0, 1, 2, 3, 4] rfl ?_
       refine spL rfl rfl (lh sc156 rfl rfl) rfl ?_
       refine sp rfl (PE.indexAddr el156 rfl rfl (by omega) (by omega)) rfl ?_
       refine spL rfl rfl (lhA (ints p) ag127 rfl hdr hpe) rfl ?_
       refine alc rfl zl127 rfl (fun b11 => ?_)
       refine stoA rfl rfl rfl cn127 rfl (by rw [ints_length]; exact hpl) rfl (ints_one _) ?_
       refine sy_seq ?_
       refine sy_tx' [0, 1, 2] rfl ?_
       refine spL rfl rfl (lh sc156 rfl rfl) rfl ?_
       refine sp rfl (PE.slLoA (l := 1) sl156 rfl rfl (by omega)) rfl ?_
       have hq2e : Value.slice (if q.cap = 1 then some ⟨q.b, q.off, none⟩ else (some (⟨q.b, q.off, none⟩ : Addr)).map (·.add (1 * 4))) (V.length - j - 1) (q.cap - 1) = q2.fs := by
         rw [hq2, Option.map_some, addr_add, show V.length - (j + 1) = V.length - j - 1 by omega]
       rw [hq2e]
       refine stoE (l' := [q2.fs]) rfl rfl rfl cn156 rfl rfl rfl rfl (Nat.le_refl _) ?_
       refine Sy.heap (H' := (b11, cel 127 (ints p)) :: (b8, cel 156 [q2.fs]) :: (b9, cel 128 [.map (some m48)]) :: (m48, mapO true (kvL b.dsk n V)) :: (q2.G ++ (o.G ++ (b1, cel 25 (btl b (b.sl ab cb))) :: (mkh mk ++ H)))) (fun w h => by rw [hqG2]; exact h) ?_
       refine sy_seq ?_
       refine sy_draw [0, 0, 2, 6, 14, 30, 0, 0, 192, 510, 1022, 2047, 4095] (.tk 0 (.tk 1 (.ld 2 (.tk 3 (.tk 4 (.ld 6 (.ld 7 (.ld 8 (.big 5 (.tk 9 (.big 10 (.big 11 (.tk 12 .done))))))))))))) mixed (by kernel_rfl) ?_
       refine tk rfl (PE.move rfl) rfl ?_
       refine tk rfl (PE.fieldAddr fo25_3 rfl) rfl ?_
       refine ld rfl rfl (lh sc23 rfl rfl) rfl ?_
       refine tk rfl (PE.lenSl isl23 rfl) rfl ?_
       refine tk rfl (PE.slArrHi (h := b.bins.length) ar127 rfl rfl (by omega)) rfl ?_
       refine ld rfl rfl (lh sc128 rfl rfl) rfl ?_
       refine ld rfl rfl (lhA (rest := []) (ints p) ag127 rfl (by rw [List.append_nil]; rfl) (by rw [ints_length]; exact hpl)) rfl ?_
       refine ldK rfl rfl rfl (lk_factE hpl (kvL_len hV4) (kvL_get hpV) (heldM (x := m48))) rfl ?_
       refine cl rfl cal114 rfl rfl (c_Clone b11 127 b.bins.length 4 p (by omega) (by omega) _ _) ?_
       rintro _ _ _ ⟨ol, rfl, rfl, rfl⟩
       obtain ⟨ay, cy, he, hf⟩ := ol.freeze
       rw [he, irows_len]
       refine Sy.heap (fun w h => hf h) ?_
       clear he hf
       refine bg (fun w hs => ⟨(lk_factE hpl (kvL_len hV4) (kvL_get hpV) (heldM (x := m48))) w hs, (lhA (rest := []) (ints p) ag127 rfl (by rw [List.append_nil]; rfl) (by rw [ints_length]; exact hpl)) w hs, (lh sc128 rfl rfl) w hs, trivial, trivial⟩) ?_
       refine tk rfl (PE.build (out := [_, _]) pl93 zl93 rfl rfl) rfl ?_
       refine bsl (out := [_, _]) rfl sl91 zl93 rfl rfl rfl rfl rfl rfl (fun b77 => ?_)
       refine bg (fun w hs => ⟨trivial, trivial, trivial, trivial⟩) ?_
       refine apO (o) rfl ap91 rfl rfl (rowsH (row := werow ⟨ay, cy, p.take b.bins.length, b.dsk.lvl n p⟩) rfl) rfl rfl ((by rw [werows_len]; simp only [List.length_singleton]; omega)) rfl (fun o78 => ?_)
       refine bg (fun w hs => trivial) ?_
       refine tk rfl (PE.assign rfl) rfl ?_
       refine sy_seq ?_
       refine sy_tx' [0, 1] rfl ?_
       refine Sy.heap (fun w h => St.inwSnoc (l := W) ⟨ay, cy, p.take b.bins.length, b.dsk.lvl n p⟩ h) ?_
       obtain ⟨o78, e78, g78⟩ : ∃ o' : OSl 93 2 (werows (W ++ [⟨ay, cy, p.take b.bins.length, b.dsk.lvl n p⟩])), o'.fs = o78.fs ∧ o'.G = o78.G := ⟨o78.cast (by rw [werows_app]; rfl), rfl, rfl⟩
       rw [← e78]
       refine Sy.heap (H' := (b11, cel 127 (ints p)) :: (b8, cel 156 [q2.fs]) :: (b9, cel 128 [.map (some m48)]) :: (m48, mapO true (kvL b.dsk n V)) :: (q2.G ++ (o78.G ++ (b1, cel 25 (btl b (b.sl ab cb))) :: (mkh mk ++ H)))) (R' := InW (W ++ [⟨ay, cy, p.take b.bins.length, b.dsk.lvl n p⟩]) :: RowsA (some ⟨b6, 0, none⟩) 1 [[.func (.func 113) #[] #[.pointer (some ⟨b4, 0, none⟩), .pointer (some ⟨b6, 0, none⟩)]]] :: RowsA (some ⟨b4, 0, none⟩) 1 [[.pointer (some ⟨bd, 0, none⟩)]] :: KpF m kv :: RowsA (some ⟨bd, 0, none⟩) 18 [dcs b (b.sl ab cb) b.lasts b.most m] :: R) (fun w h => by rw [← g78] at h; exact St.sub (h.del b77)) ?_
       clear e78 g78
       refine spL rfl rfl (lfB (sz := 1) sc123 rfl) rfl ?_
       refine cl rfl cal115 rfl rfl (c_turnings bd false _ _) ?_
       rintro _ _ _ ⟨xb, xf, rfl, rfl, rfl⟩
       refine sy_block ?_
       refine sy_range rfl cal133 (fun c0 bl0 bd0 hcp0 hca0 hcb0 hck0 => ?_)
       refine ⟨fun st pend T R' => st = .ready ∧ pend = none ∧ ∃ (V' : List HSt) (q' : OQ 127 4 (strows (V'.drop (j + 1)))), Bq b.dsk n b.state V' j ∧ V'.take (j + 1) = V.take (j + 1) ∧ V'[j]? = some p ∧ CvK b.dsk n V' p ((b.dsk.trs false).length) ∧ T = (bd0, .deferred (some [])) :: (b11, cel 127 (ints p)) :: (b8, cel 156 [q'.fs]) :: (b9, cel 128 [.map (some m48)]) :: (m48, mapO true (kvL b.dsk n V')) :: (q'.G ++ (o78.G ++ (b1, cel 25 (btl b (b.sl ab cb))) :: (mkh mk ++ H))) ∧ R' = RowsA (some ⟨xf, 0, none⟩) 1 [[.bool false]] :: RowsA (some ⟨xb, 0, none⟩) 1 [[.pointer (some ⟨bd, 0, none⟩)]] :: InW (W ++ [⟨ay, cy, p.take b.bins.length, b.dsk.lvl n p⟩]) :: RowsA (some ⟨b6, 0, none⟩) 1 [[.func (.func 113) #[] #[.pointer (some ⟨b4, 0, none⟩), .pointer (some ⟨b6, 0, none⟩)]]] :: RowsA (some ⟨b4, 0, none⟩) 1 [[.pointer (some ⟨bd, 0, none⟩)]] :: KpF m kv :: RowsA (some ⟨bd, 0, none⟩) 18 [dcs b (b.sl ab cb) b.lasts b.most m] :: R,
         Fn.mono (c_turnings1 b hok ab cb bd m false xb xf bl0 (fun k H' R' => ∃ (V' : List HSt) (q' : OQ 127 4 (strows (V'.drop (j + 1)))), Bq b.dsk n b.state V' j ∧ V'.take (j + 1) = V.take (j + 1) ∧ V'[j]? = some p ∧ CvK b.dsk n V' p (k) ∧ H' = (bl0, lob c0 .ready none) :: (bd0, .deferred (some [])) :: (b11, cel 127 (ints p)) :: (b8, cel 156 [q'.fs]) :: (b9, cel 128 [.map (some m48)]) :: (m48, mapO true (kvL b.dsk n V')) :: (q'.G ++ (o78.G ++ (b1, cel 25 (btl b (b.sl ab cb))) :: (mkh mk ++ H))) ∧ R' = RowsA (some ⟨xf, 0, none⟩) 1 [[.bool false]] :: RowsA (some ⟨xb, 0, none⟩) 1 [[.pointer (some ⟨bd, 0, none⟩)]] :: InW (W ++ [⟨ay, cy, p.take b.bins.length, b.dsk.lvl n p⟩]) :: RowsA (some ⟨b6, 0, none⟩) 1 [[.func (.func 113) #[] #[.pointer (some ⟨b4, 0, none⟩), .pointer (some ⟨b6, 0, none⟩)]]] :: RowsA (some ⟨b4, 0, none⟩) 1 [[.pointer (some ⟨bd, 0, none⟩)]] :: KpF m kv :: RowsA (some ⟨bd, 0, none⟩) 18 [dcs b (b.sl ab cb) b.lasts b.most m] :: R)
           (fun _ _ => False)
           (fun k H' R' h => by obtain ⟨_, _, _, _, _, _, _, rfl⟩ := h; exact ⟨by simp, by simp, by simp⟩) (fun k l a c H' R' hk hI => ?_) _ _ ⟨V, q2, hbq, rfl, hp, fun i l hi => absurd hi (Nat.not_lt_zero _), rfl, rfl⟩) (fun v H' R' h => ?_), ?_⟩
       rotate_left
       · rcases h with ⟨V', q', h1, h2, h3, h4, rfl, rfl⟩ | h
         · exact ⟨.ready, none, _, by simp, .refl _, rfl, rfl, V', q', h1, h2, h3, h4, rfl, rfl⟩
         · exact h.elim
       rotate_left
       have hlm := List.mem_of_getElem? hk
       have hlt := b.dsk.trs_lt hlm
       have hll : l.length ≤ 1000000 := by
         obtain ⟨i, _, rfl⟩ := List.mem_map.1 (List.mem_filter.1 hlm).1
         have := bitl_len b.dsk.n i
         have := hdk.n
         omega
       obtain ⟨V1, q3, hb1, ht1, hp1, hcv, rfl, rfl⟩ := hI
       have hj1 := (List.getElem?_eq_some_iff.1 hp1).1
       have hf1 := hb1.few hdk
       have hp1V := List.mem_of_getElem? hp1
       have hV14 : ∀ s ∈ V1, s.length = 4 := fun s hs => (hb1.sts s hs).len
       refine yd_of hcp0 hca0 hcb0 hck0 rfl ?_
       refine sy_tx' [0] rfl ?_
       refine sp rfl (PE.assign rfl) rfl ?_
       refine sy_beginRound ?_
       refine sy_block ?_
       refine sy_seq ?_
       refine sy_tx' [0, 1, 2, 3, 4, 5, 6, 7, 8, 9] rfl ?_
       refine spL rfl rfl (lfB (sz := 1) sc123 rfl) rfl ?_
       refine spL rfl rfl (lhA (rest := []) (ints p) ag127 rfl (by rw [List.append_nil]; rfl) (by rw [ints_length]; exact hpl)) rfl ?_
       refine sp rfl (PE.move rfl) rfl ?_
       refine cl rfl cal116 rfl rfl (c_next b hok ab cb bd m p hpm l hlt hll a c _ _) ?_
       rintro _ _ _ ⟨rfl, rfl, rfl⟩
       rcases hnx : b.dsk.next p l with _ | t
       refine sp rfl (PE.move rfl) rfl ?_
       refine sp rfl (PE.extract rfl rfl) rfl ?_
       refine sp rfl (PE.extract rfl rfl) rfl ?_
       refine alc rfl zl127 rfl (fun b13 => ?_)
       first | (refine stoA rfl rfl rfl cn127 rfl rfl rfl (ints_one _) ?_) | (refine stoA rfl rfl rfl cn127 rfl (by rw [ints_length]; exact htl) rfl (ints_one _) ?_)
       refine sp rfl (PE.assign rfl) rfl ?_
       refine sy_seq ?_
       refine sy_seq ?_
       refine sy_tx' [0, 1] rfl ?_
       refine sp rfl (PE.move rfl) rfl ?_
       refine sp rfl (PE.not rfl) rfl ?_
       refine sy_condT rfl ?_
       refine sy_exit ?_
       refine sy_tx ?_
       refine sy_bx ?_
       exact sy_roundOn (.inl ⟨rfl, V1, q3, hb1, ht1, hp1, hcv.more hk (fun t ht => by rw [hnx] at ht; cases ht), rfl, rfl⟩) (fun _ h => (h.del b13).ftail)
       refine sp rfl (PE.move rfl) rfl ?_
       have hts := b.dsk.next_inS hdk hps hlt hnx
       have htl := hts.len
       have htlv : b.dsk.lvl n t < b.dsk.lvl n p := kpt_next hdk hps hlm hnx hpk (kpt_of ((b.dsk.mem_sts hdk t).2 hts) hn hfx) (by omega)
       refine sp rfl (PE.extract rfl rfl) rfl ?_
       refine sp rfl (PE.extract rfl rfl) rfl ?_
       refine alc rfl zl127 rfl (fun b13 => ?_)
       first | (refine stoA rfl rfl rfl cn127 rfl rfl rfl (ints_one _) ?_) | (refine stoA rfl rfl rfl cn127 rfl (by rw [ints_length]; exact htl) rfl (ints_one _) ?_)
       refine sp rfl (PE.assign rfl) rfl ?_
       refine sy_seq ?_
       refine sy_seq ?_
       refine sy_tx' [0, 1] rfl ?_
       refine sp rfl (PE.move rfl) rfl ?_
       refine sp rfl (PE.not rfl) rfl ?_
       refine sy_condF rfl ?_
       refine sy_skip ?_
       refine sy_seq ?_
       refine sy_draw [0, 0, 0, 0, 12, 28, 63, 127] (.ld 0 (.ld 1 (.ld 2 (.ld 3 (.ld 4 (.tk 5 (.big 6 (.big 7 .done)))))))) mixed (by kernel_rfl) ?_
       refine ld rfl rfl (lfB (sz := 1) sc155 rfl) rfl ?_
       refine ld rfl rfl (lhA (rest := []) (ints t) ag127 rfl (by rw [List.append_nil]; rfl) (by rw [ints_length]; exact htl)) rfl ?_
       refine ld rfl rfl (lh sc128 rfl rfl) rfl ?_
       refine ld rfl rfl (lhA (rest := []) (ints p) ag127 rfl (by rw [List.append_nil]; rfl) (by rw [ints_length]; exact hpl)) rfl ?_
       refine ldK rfl rfl rfl (lk_factE hpl (kvL_len hV14) (kvL_get hp1V) (heldM (x := m48))) rfl ?_
       refine tk rfl (PE.sub rfl rfl (by omega)) rfl ?_
       refine clF rfl rfl (cal113) rfl rfl (c_raise b hok ab cb bd m n hn kv hkv b4 b6 (b.dsk.lvl n p - 1) t hts _ _) ?_
       rintro _ _ _ ⟨uf, hu, rfl, rfl, rfl⟩
       obtain ⟨u0, u1, u2, u3, rfl⟩ := list4 hu.inS.len
       have hulv : b.dsk.lvl n [u0, u1, u2, u3] < b.dsk.lvl n p := by
         rcases hu.lv with h1 | h1
         · rw [h1]; exact htlv
         · omega
       have hum := (b.dsk.mem_sts hdk _).2 hu.inS
       have hukv := hkv.get _ hum
       have hcvu : ∀ V2 : List HSt, [u0, u1, u2, u3] ∈ V2 → ∀ t2, b.dsk.next p l = some t2 → ∃ u ∈ V2, undP b.dsk.n t2 u = true ∧ b.dsk.lvl n u < b.dsk.lvl n p := fun V2 hm t2 ht2 => by rw [hnx] at ht2; cases ht2; exact ⟨_, hm, hu.le, hulv⟩
       obtain ⟨go, hgo⟩ : ∃ go, (kvL b.dsk n V1).get [u0, u1, u2, u3] = go := ⟨_, rfl⟩
       refine bg (fun w hs => ⟨trivial, trivial, trivial, trivial, trivial, trivial⟩) ?_
       refine stoA rfl rfl rfl cn127 rfl (by rw [ints_length]; rfl) (by rw [ints_length]; exact htl) (ints_one _) ?_
       refine bg (fun w hs => trivial) ?_
       refine sy_seq ?_
       refine sy_tx' [0, 1, 2, 3, 4, 5, 6, 7] rfl ?_
       refine spL rfl rfl (lh sc128 rfl rfl) rfl ?_
       refine spL rfl rfl (lhA (rest := []) (ints [u0, u1, u2, u3]) ag127 rfl (by rw [List.append_nil]; rfl) (by rw [ints_length]; exact rfl)) rfl ?_
       refine spK rfl rfl rfl (lk_held (b := true) (kvL b.dsk n V1) [u0, u1, u2, u3] mke128 (KeyT.of eqf127 noa127) (run_zv zv3) rfl (kvL_len hV14) true) rfl ?_
       rw [hgo]
       refine sp rfl (PE.move rfl) rfl ?_
       refine sp rfl (PE.extract rfl rfl) rfl ?_
       refine sp rfl (PE.extract rfl rfl) rfl ?_
       refine sp rfl (PE.assign rfl) rfl ?_
       refine sp rfl (PE.assign rfl) rfl ?_
       refine sy_seq ?_
       refine sy_draw [0, 1, 3, 7, 7, 23, 55, 119, 7, 503, 1023, 2047] (.tk 0 (.tk 1 (.tk 2 (.tk 3 (.ld 4 (.tk 5 (.tk 6 (.ld 7 (.ld 8 (.ld 9 (.tk 10 (.tk 11 .done)))))))))))) mixed (by kernel_rfl) ?_
       refine tk rfl (PE.move rfl) rfl ?_
       refine tk rfl (PE.not rfl) rfl ?_
       refine tk rfl (PE.move rfl) rfl ?_
       refine sy_case (t := 106) rfl (fun g106 => ?_) (fun g106 => ?_)
       obtain rfl : go = none := by cases go with
         | none => rfl
         | some g => exact absurd g106 (by simp)
       have hun : [u0, u1, u2, u3] ∉ V1 := fun hm => by rw [kvL_get hm] at hgo; cases hgo
       refine tkN rfl rfl rfl rfl rfl rfl rfl rfl ?_
       refine ldN rfl rfl rfl rfl rfl rfl rfl rfl ?_
       repeat refine tkN rfl rfl rfl rfl rfl rfl rfl rfl ?_
       repeat refine ldN rfl rfl rfl rfl rfl rfl rfl rfl ?_
       refine tkN rfl rfl rfl rfl rfl rfl rfl rfl ?_
       refine tk rfl (PE.pick rfl rfl rfl) rfl ?_
       refine sy_condT rfl ?_
       refine sy_seq ?_
       refine sy_draw [0, 0, 0, 4, 12, 28, 0, 124, 255] (.ld 0 (.ld 1 (.ld 2 (.tk 3 (.tk 4 (.ld 5 (.ld 6 (.ld 7 (.big 8 .done))))))))) mixed (by kernel_rfl) ?_
       refine ld rfl rfl (lh sc128 rfl rfl) rfl ?_
       refine ld rfl rfl (lhA (rest := []) (ints [u0, u1, u2, u3]) ag127 rfl (by rw [List.append_nil]; rfl) (by rw [ints_length]; exact rfl)) rfl ?_
       refine ld rfl rfl (lfB (sz := 1) sc123 rfl) rfl ?_
       refine tk rfl (PE.nilCheck rfl) rfl ?_
       refine tk rfl (PE.fieldAddr fo130_3 rfl) rfl ?_
       refine ld rfl rfl (lfB (sz := 18) sc128 (dcs_map hl4 hm4)) rfl ?_
       refine ld rfl rfl (lhA (rest := []) (ints [u0, u1, u2, u3]) ag127 rfl (by rw [List.append_nil]; rfl) (by rw [ints_length]; exact rfl)) rfl ?_
       refine ldK rfl rfl rfl (lk_factE rfl hkv.len hukv (fun w hs => hs.now (MemF.mem (f := KpF m kv)))) rfl ?_
       refine mpu (kvL b.dsk n V1) [u0, u1, u2, u3] (v := .int .i64 (b.dsk.lvl n [u0, u1, u2, u3])) rfl mke128 (KeyT.of eqf127 noa127) rfl rfl rfl rfl (kvL_len hV14) ?_
       rw [kvL_put hun]
       refine bg (fun w hs => ⟨trivial, trivial, trivial, trivial, trivial, trivial, trivial⟩) ?_
       refine sy_tx' [0, 1, 2, 3, 4] rfl ?_
       refine spL rfl rfl (lh sc156 rfl rfl) rfl ?_
       refine spL rfl rfl (lhA (rest := []) (ints [u0, u1, u2, u3]) ag127 rfl (by rw [List.append_nil]; rfl) (by rw [ints_length]; exact rfl)) rfl ?_
       refine bsl (out := [_, _, _, _]) rfl sl156 zl127 rfl rfl rfl rfl rfl rfl (fun b126 => ?_)
       refine apQ q3 rfl ap156 rfl rfl (rowsH (row := ints [u0, u1, u2, u3]) rfl) rfl (by simp) rfl (by rw [strows_len, List.length_drop]; simp only [List.length_singleton]; omega) rfl (fun q4 => ?_)
       refine stoE (l' := [q4.fs]) rfl rfl rfl cn156 rfl rfl rfl rfl (Nat.le_refl _) ?_
       obtain ⟨q5, e5, g5⟩ : ∃ q5 : OQ 127 4 (strows ((V1 ++ [[u0, u1, u2, u3]]).drop (j + 1))), q5.fs = q4.fs ∧ q5.G = q4.G := ⟨q4.cast (strows_add (by omega) _), OQ.cast_fs _ _, OQ.cast_G _ _⟩
       exact sy_roundOn (.inl ⟨rfl, V1 ++ [[u0, u1, u2, u3]], q5, hb1.add (by omega) hu.inS hun (by have := hulv; omega), by rw [List.take_append_of_le_length (by omega)]; exact ht1, by rw [List.getElem?_append_left hj1]; exact hp1, (hcv.add _).more hk (hcvu _ (by simp)), rfl, rfl⟩) (fun _ h => by rw [e5, g5]; exact ((h.del b126).del b13).ftail)
       obtain ⟨g, rfl⟩ : ∃ g, go = some g := by cases go with
         | none => exact absurd g106 (by simp)
         | some g => exact ⟨g, rfl⟩
       have hui : [u0, u1, u2, u3] ∈ V1 := Classical.byContradiction fun hm => by rw [kvL_no hm] at hgo; cases hgo
       obtain rfl : g = .int .i64 (b.dsk.lvl n [u0, u1, u2, u3]) := by rw [kvL_get hui] at hgo; cases hgo; rfl
       refine tkG rfl rfl rfl rfl (PE.move rfl) rfl ?_
       refine ldG rfl rfl rfl rfl rfl (lfB (sz := 1) sc123 rfl) rfl ?_
       refine tkG rfl rfl rfl rfl (PE.nilCheck rfl) rfl ?_
       refine tkG rfl rfl rfl rfl (PE.fieldAddr fo130_3 rfl) rfl ?_
       refine ldG rfl rfl rfl rfl rfl (lfB (sz := 18) sc128 (dcs_map hl4 hm4)) rfl ?_
       refine ldG rfl rfl rfl rfl rfl (lhA (rest := []) (ints [u0, u1, u2, u3]) ag127 rfl (by rw [List.append_nil]; rfl) (by rw [ints_length]; exact rfl)) rfl ?_
       refine ldKG rfl rfl rfl rfl rfl rfl (lk_factE rfl hkv.len hukv (fun w hs => hs.now (MemF.mem (f := KpF m kv)))) rfl ?_
       refine tkG rfl rfl rfl rfl (PE.neq rfl rfl) rfl ?_
       refine tk rfl (PE.pick rfl rfl rfl) rfl ?_
       refine sy_cond rfl (fun hc4 => ?_) (fun hc4 => ?_)
       exact absurd hc4 (by simp)
       refine sy_skip ?_
       exact sy_roundOn (.inl ⟨rfl, V1, q3, hb1, ht1, hp1, hcv.more hk (hcvu V1 hui), rfl, rfl⟩) (fun _ h => (h.del b13).ftail)
       ·
        rintro _ _ _ _ ⟨rfl, rfl, V1, q3, hb1, ht1, hp1, hcv, rfl, rfl⟩
        refine sy_jn ?_
        have hj1 := (List.getElem?_eq_some_iff.1 hp1).1
        have hf1 := hb1.few hdk
        exact sy_nextD ⟨⟨(V1, j + 1, W ++ [⟨ay, cy, p.take b.bins.length, b.dsk.lvl n p⟩], bd0 :: mk), hb1.next hp1 hcv, hj1, by dsimp only; rw [wls_app, hwv, ht1, wlV_snoc hp]; rfl⟩, o78, q3⟩ (by dsimp only; omega) (by repeat' first | exact Sub.nil | apply Sub.cons | rfl | (simp [lk]; omega)) rfl (fun w h => St.sub ((h.del b11).perm ((perm_swap3 [_] [_, _, _] _).trans (List.Perm.append_left [_, _, _] ((List.perm_middle (l₁ := q3.G)).symm.trans (List.Perm.append_left q3.G ((List.perm_middle (l₁ := o78.G)).symm.trans (List.Perm.append_left o78.G (List.Perm.swap _ _ _)))))))))
      try simp only [decide_eq_true_eq, decide_eq_false_iff_not, Bool.and_eq_true, Bool.or_eq_true, Bool.not_eq_true', Int.not_le, Int.not_lt] at hc2
      obtain rfl : j = V.length := by omega
      rw [List.take_of_length_le (Nat.le_refl _)] at hwv
      have hw := hbq.wall hok hn hfx hc1
      rw [← hwv] at hw
      have hdm : ∀ x ∈ W, x.d ≤ b.dsk.lvl n b.state := fun x hx => by
        have h1 := wls_mem hx
        rw [hwv] at h1
        obtain ⟨v, hv, e⟩ := List.mem_map.1 h1
        have h2 := hbq.lv v hv
        have h3 : b.dsk.lvl n v = x.d := congrArg Prod.snd e
        omega
      obtain ⟨aw, cw, he, hcw, hf⟩ := o.freezeC
      rw [he, werows_len]
      rw [werows_len] at hcw
      refine sy_exit ?_
      repeat refine sy_tx ?_
      refine sy_bx ?_
      refine sy_seq ?_
      refine sy_tx' [0, 1, 2] rfl ?_
      refine sp rfl (PE.move rfl) rfl ?_
      refine sp rfl (PE.assign rfl) rfl ?_
      refine sp rfl (PE.assign rfl) rfl ?_
      refine sy_ret ?_
      refine Sy.heap (H' := mkh mk ++ H) (R' := RowsA aw 2 (werows W) :: InW W :: R) (fun w h => St.sub (hf ((St.drop (G := q.G) (((h.del m48).del b9).del b8)).del b1))) ?_
      exact sy_returnM mk (fun _ h => h) rfl (.cons (RV.tmp rfl) (.cons (RV.tmp rfl) .nil)) rfl ⟨rfl, .inr (.inr ⟨hck, _, W, aw, cw, hc1, hks, hw, by omega, hcw, hdm, rfl, rfl⟩)⟩ (fun w h => h)
   exact sy_stop
end Go.Proofs.Ytelegnmfhjfbaaa
namespace Go.Proofs.Ytelegnmfhjfbaaa
set_option linter.unusedSimpArgs false
set_option linter.unusedVariables false
open Go
theorem cal60 : cal Try.prog 60 = true := by kernel_rfl
theorem cal61 : cal Try.prog 61 = true := by kernel_rfl
structure WWant (b : Barn) (w lo : Int) : Prop where
  is : (b.check ≠ 0 ∧ w = b.check) ∨ (b.check = 0 ∧ Kpt b.dsk b.state lo ∧ ((lo = 1000000 ∧ w = 6) ∨ (lo ≠ 1000000 ∧ w = 0)))
theorem WWant.zero {b : Barn} {w lo : Int} (h : WWant b w lo) (hw : w = 0) : b.check = 0 ∧ Kpt b.dsk b.state lo ∧ lo ≠ 1000000 := by
  rcases h.is with ⟨h1, h2⟩ | ⟨h1, h2, h3⟩
  · omega
  · exact ⟨h1, h2, by omega⟩
theorem shwE_ok {b : Barn} {W : WL} (h : b.check = 0) : shwE b W = shwV b W := by unfold shwE; rw [decide_eq_true h]; rfl
theorem c_WallX (b : Barn) (ab : Option Addr) (cb : Nat) (hl : b.bins.length ≤ 9223372036854775807) (hr : b.rise.length = 6) {w lo : Int} (hw : WWant b w lo) (H : Heap) (R : Facts) [hB : MemRows ab 4 (brows b.bins) R] : Fn Try.prog 60 [b.v (b.sl ab cb)] H R (fun v H' R' => ∃ (L : List WE) (al : Option Addr) (cl : Nat), (w ≠ 0 → L = []) ∧ (w = 0 → shwV b (wls L) = (lo, 0) ∧ L.length ≤ b.dsk.nst ∧ L.length ≤ cl ∧ ∀ x ∈ L, x.d ≤ lo) ∧ v = .tuple #[.slice al L.length cl, .int .i64 w] ∧ H' = H ∧ R' = RowsA al 2 (werows L) :: InW L :: R) := fun w0 hw0 => by
  refine CallsIn.mono (c_Wall b ab cb hl hr H R w0 hw0) ?_
  rintro e' w' ⟨u, H', R', ⟨rfl, hq⟩, he, hs'⟩
  rcases hq with ⟨h1, rfl, rfl⟩ | ⟨h1, h2, rfl, rfl⟩ | ⟨h1, m, W, aw, cw, h2, h3, h4, h5, h6, h7, rfl, rfl⟩
  · have e : w = b.check := by rcases hw.is with ⟨_, h⟩ | ⟨h, _⟩; exact h; exact absurd h h1
    subst e
    exact ⟨_, _, _, ⟨[], none, 0, fun _ => rfl, fun h => absurd h h1, rfl, rfl, rfl⟩, he, St.noRows (St.inw0 hs')⟩
  · have e : w = 6 := by
      rcases hw.is with ⟨h, _⟩ | ⟨_, h, h3⟩
      · exact absurd h1 h
      · have := kpt_unique h h2; omega
    subst e
    exact ⟨_, _, _, ⟨[], none, 0, fun _ => rfl, fun h => (by cases h), rfl, rfl, rfl⟩, he, St.noRows (St.inw0 hs')⟩
  · have e : w = 0 ∧ lo = m := by
      rcases hw.is with ⟨h, _⟩ | ⟨_, h, h8⟩
      · exact absurd h1 h
      · have := kpt_unique h h3; omega
    obtain ⟨rfl, rfl⟩ := e
    exact ⟨_, _, _, ⟨W, aw, cw, fun h => absurd rfl h, fun _ => ⟨h4, h5, h6, h7⟩, rfl, rfl, rfl⟩, he, hs'⟩
end Go.Proofs.Ytelegnmfhjfbaaa
namespace Go.Proofs.Ytelegnmfhjfbaaa
set_option linter.unusedSimpArgs false
set_option linter.unusedVariables false
open Go
theorem spl_end {A B C : List Value} {n : Nat} (h : n = A.length) : spl (A ++ B) n C = A ++ (C ++ B.drop C.length) := by
  subst h
  unfold spl
  rw [List.take_left, List.drop_append]
  simp
theorem we_flat (W : List WE) : (werows W).flatten.length = W.length * 2 := by rw [flat_len (we_two W), werows_len]
theorem we_ones (W : List WE) : (werows W).flatten.all (·.oneCell') = true := List.all_eq_true.2 (one_flat (we_onec W))
theorem we_cut (W : List WE) (i : Nat) : (werows W).flatten = (werows (W.take i)).flatten ++ (werows (W.drop i)).flatten := by rw [← List.flatten_append, ← werows_app, List.take_append_drop]
theorem we_eraseL (W : List WE) (i : Nat) (hi : i < W.length) : W.eraseIdx i = W.take i ++ W.drop (i + 1) := List.eraseIdx_eq_take_drop_succ W i
theorem spl_eraseW {W : List WE} {junk : List Value} {i : Nat} (hi : i < W.length) : spl ((werows W).flatten ++ junk) (i * 2) (werows (W.drop (i + 1))).flatten = (werows (W.eraseIdx i)).flatten ++ ((werows W).flatten ++ junk).drop ((W.length - 1) * 2) := by
  have h1 : (werows (W.take i)).flatten.length = i * 2 := by rw [we_flat, List.length_take, Nat.min_eq_left (by omega)]
  unfold spl
  have e1 : (((werows W).flatten ++ junk).take (i * 2) : List Value) = (werows (W.take i)).flatten := by
    rw [we_cut W i, List.append_assoc, ← h1, List.take_left]
  have e2 : i * 2 + (werows (W.drop (i + 1))).flatten.length = (W.length - 1) * 2 := by rw [we_flat, List.length_drop]; omega
  rw [e1, e2, we_eraseL W i hi, werows_app, List.flatten_append]
theorem wd_drop {W : List WE} {junk : List Value} {i j : Nat} {v : Value} (hi : i ≤ W.length) (h : ((werows (W.drop i)).flatten)[j]? = some v) : ((werows W).flatten ++ junk)[i * 2 + j]? = some v := by
  have h1 : (werows (W.take i)).flatten.length = i * 2 := by rw [we_flat, List.length_take, Nat.min_eq_left hi]
  have hj := (List.getElem?_eq_some_iff.1 h).1
  rw [we_cut W i, List.append_assoc, List.getElem?_append_right (by omega), show i * 2 + j - (werows (W.take i)).flatten.length = j by omega, List.getElem?_append_left hj]
  exact h
theorem we_getJ {W : List WE} {junk : List Value} {k i j : Nat} {x : WE} {v : Value} (hx : W[k]? = some x) (hv : (werow x)[j]? = some v) (hj : j < 2) (e : i = k * 2 + j) : ((werows W).flatten ++ junk)[i]? = some v := by
  have hk := (List.getElem?_eq_some_iff.1 hx).1
  rw [List.getElem?_append_left (by rw [we_flat]; omega), e]
  exact flat_get (sz := 2) (rows := werows W) (we_two W) (we_get hx) hv
theorem we_putd {A C : List WE} {junk : List Value} {x : WE} {i : Nat} (d : Int) (e : i = A.length * 2 + 1) : spl ((werows (A ++ x :: C)).flatten ++ junk) i [.int .i64 d] = (werows (A ++ { x with d := d } :: C)).flatten ++ junk := by
  have ha : (werows A).flatten.length = A.length * 2 := we_flat A
  subst e
  have e1 : (werows (A ++ x :: C)).flatten ++ junk = ((werows A).flatten ++ [.slice x.a x.l.length x.c]) ++ ([Value.int .i64 x.d] ++ ((werows C).flatten ++ junk)) := by
    rw [werows_app, List.flatten_append]
    show ((werows A).flatten ++ (werow x ++ (werows C).flatten)) ++ junk = _
    simp [werow, List.append_assoc]
  have e2 : (werows (A ++ { x with d := d } :: C)).flatten ++ junk = ((werows A).flatten ++ [.slice x.a x.l.length x.c]) ++ ([Value.int .i64 d] ++ ((werows C).flatten ++ junk)) := by
    rw [werows_app, List.flatten_append]
    show ((werows A).flatten ++ (werow { x with d := d } ++ (werows C).flatten)) ++ junk = _
    simp [werow, List.append_assoc]
  rw [e1, e2, show A.length * 2 + 1 = ((werows A).flatten ++ [Value.slice x.a x.l.length x.c]).length by rw [List.length_append, ha]; rfl]
  exact spl_at rfl
structure WO where
  b : Nat
  cap : Nat
  l : List Int
  junk : List Value
  d : Int
def WO.we (x : WO) : WE := ⟨some ⟨x.b, 0, none⟩, x.cap, x.l, x.d⟩
def wos (l : List WO) : List WE := l.map WO.we
theorem wos_len (l : List WO) : (wos l).length = l.length := List.length_map _
theorem wos_app (l k : List WO) : wos (l ++ k) = wos l ++ wos k := by unfold wos; rw [List.map_append]
def WO.blk (x : WO) : Nat × Obj := (x.b, cel 3 (ints x.l ++ x.junk))
def wob (l : List WO) : Heap := l.map WO.blk
theorem wob_app (l k : List WO) : wob (l ++ k) = wob l ++ wob k := by unfold wob; rw [List.map_append]
theorem St.wobs : ∀ {l : List WO} {H : Heap} {R : Facts} {w : World}, St (wob l ++ H) R w → St H (InW (wos l) :: R) w
  | [], H, R, w, h => St.inw0 h
  | x :: l, H, R, w, h => by
    have h1 : St (wob l ++ H) (RowsA (some ⟨x.b, 0, none⟩) 1 (irows x.l) :: R) w := St.rows (e := 3) (sz := 1) (rows := irows x.l) (rest := x.junk) (by rw [show (irows x.l).flatten = ints x.l from irows_flat x.l]; exact h) (irows_one x.l)
    have h2 := St.wobs (l := l) h1
    have h3 := h2.also (f := InW (wos (x :: l))) (fun w' hw y hy => by
      rcases List.mem_cons.1 hy with rfl | hy
      · exact hw (RowsA (some ⟨x.b, 0, none⟩) 1 (irows x.l)) (by simp)
      · exact hw (InW (wos l)) (by simp) y hy)
    exact h3.facts (fun g hg => by rcases List.mem_cons.1 hg with h4 | h4 <;> simp [h4])
theorem OSl.wo (l : List Int) (d : Int) (o : OSl 3 1 (irows l)) (h : o.here) : ∃ x : WO, x.l = l ∧ x.d = d ∧ o.fs = .slice (some ⟨x.b, 0, none⟩) x.l.length x.cap ∧ o.G = [x.blk] := by
  obtain ⟨b, c, hf⟩ := h
  rcases o.is with ⟨_, h2, _⟩ | ⟨b', cap, junk, h1, h2, _⟩
  · rw [h2] at hf; cases hf
  · refine ⟨⟨b', cap, l, junk, d⟩, rfl, rfl, by rw [h1, irows_len], ?_⟩
    rw [h2, show (irows l).flatten = ints l from irows_flat l]; rfl
theorem c_DeleteW (W : List WE) (b cap : Nat) (junk : List Value) (hl : W.length ≤ 1000000) (hj : W.length * 2 + junk.length = cap * 2) (hcap : W.length ≤ cap) (hmx : cap ≤ 9223372036854775807) (i : Nat) (hi : i < W.length) (H : Heap) (R : Facts) :
    Fn Try.prog 66 [.slice (some ⟨b, 0, none⟩) W.length cap, .int .i64 i, .int .i64 ((i + 1 : Nat) : Int)] ((b, cel 93 ((werows W).flatten ++ junk)) :: H) R (fun v H' R' => ∃ a c', v = .slice a (W.eraseIdx i).length c' ∧ H' = H ∧ R' = RowsA a 2 (werows (W.eraseIdx i)) :: R) := by
 refine fn_of Try.func66 rfl Try.ntmps66 rfl ?_
 refine sy_seq ?_
 refine sy_tx' [0] rfl ?_
 refine sp rfl (PE.assign rfl) rfl ?_
 refine sy_seq ?_
 refine sy_tx' [0, 1, 2, 3, 4, 5] rfl ?_
 refine sp rfl (PE.move rfl) rfl ?_
 refine sp rfl (PE.move rfl) rfl ?_
 refine sp rfl (PE.move rfl) rfl ?_
 refine sp rfl (PE.move rfl) rfl ?_
 refine sp rfl (PE.lenSl isl91 rfl) rfl ?_
 refine sp rfl (PE.slLHM sl91 rfl rfl rfl rfl (by omega) (by omega) (by omega)) rfl ?_
 refine sy_seq ?_
 refine sy_seq ?_
 refine sy_tx' [0, 1, 2] rfl ?_
 refine sp rfl (PE.move rfl) rfl ?_
 refine sp rfl (PE.move rfl) rfl ?_
 refine sp rfl (PE.eql rfl rfl) rfl ?_
 refine sy_cond rfl (fun hc0 => ?_) (fun hc0 => ?_)
 exact absurd hc0 (by simp; omega)
 refine sy_skip ?_
 refine sy_seq ?_
 refine sy_tx' [0, 1, 2] rfl ?_
 refine sp rfl (PE.move rfl) rfl ?_
 refine sp rfl (PE.lenSl isl91 rfl) rfl ?_
 refine sp rfl (PE.assign rfl) rfl ?_
 refine sy_seq ?_
 refine sy_draw [0, 0, 3, 0, 0, 24, 63, 127] (.tk 0 (.tk 1 (.tk 2 (.tk 3 (.tk 4 (.tk 5 (.big 6 (.tk 7 .done)))))))) mixed (by kernel_rfl) ?_
 refine tk rfl (PE.move rfl) rfl ?_
 refine tk rfl (PE.move rfl) rfl ?_
 refine tk rfl (PE.slHi sl91 rfl rfl (by omega)) rfl ?_
 refine tk rfl (PE.move rfl) rfl ?_
 refine tk rfl (PE.move rfl) rfl ?_
 refine tk rfl (PE.slLoA sl91 rfl rfl (by omega)) rfl ?_
 obtain ⟨ax, hax, hsrc⟩ : ∃ ax : Addr, (if cap = i + 1 then some (⟨b, 0, none⟩ : Addr) else (some (⟨b, 0, none⟩ : Addr)).map (·.add ((i + 1) * 2))) = some ax ∧ ∀ j v, ((werows (W.drop (i + 1))).flatten)[j]? = some v → ax.add j = ⟨b, (i + 1) * 2 + j, none⟩ := by
   by_cases h9 : cap = i + 1
   · refine ⟨_, if_pos h9, fun j v hj => ?_⟩
     have := (List.getElem?_eq_some_iff.1 hj).1
     rw [we_flat, List.length_drop] at this; omega
   · exact ⟨_, if_neg h9, fun j v hj => by show ((⟨b, 0, none⟩ : Addr).add ((i + 1) * 2)).add j = _; rw [addr_add, addr_add]; simp⟩
 rw [hax]
 refine apI ((werows (W.drop (i + 1))).flatten) rfl sl91 rfl rfl (by rw [we_flat, List.length_drop]) (fun w hs j v hj => by rw [hsrc j v hj, cell_of (hs.held (b, cel 93 ((werows W).flatten ++ junk)) (by simp))]; simpa using wd_drop (junk := junk) (by omega) hj) (we_ones _) (by omega) (by rw [we_flat, List.length_drop, List.length_append, we_flat]; omega) rfl ?_
 rw [spl_eraseW hi, show i + (W.length - (i + 1)) = W.length - 1 from by omega]
 obtain ⟨jk, hjk⟩ : ∃ jk, jk = ((werows W).flatten ++ junk).drop ((W.length - 1) * 2) := ⟨_, rfl⟩
 rw [← hjk]
 have hel : (W.eraseIdx i).length = W.length - 1 := List.length_eraseIdx_of_lt hi
 refine bg (fun w hs => trivial) ?_
 refine tk rfl (PE.assign rfl) rfl ?_
 refine sy_seq ?_
 refine sy_tx' [0, 1, 2, 3, 4, 5] rfl ?_
 refine sp rfl (PE.move rfl) rfl ?_
 refine sp rfl (PE.move rfl) rfl ?_
 refine sp rfl (PE.lenSl isl91 rfl) rfl ?_
 refine sp rfl (PE.move rfl) rfl ?_
 refine sp rfl (PE.slLH sl91 rfl rfl rfl (by omega) (by omega) (by omega)) rfl ?_
 refine clrA rfl rfl sl91 zl93 rfl rfl rfl (by rw [hjk, List.length_append, we_flat, List.length_drop, List.length_append, we_flat]; omega) ?_
 rw [spl_end (by rw [we_flat, hel]; omega)]
 obtain ⟨jk2, hjk2⟩ : ∃ jk2, jk2 = (repl (W.length - (W.length - 1)) [Value.slice none 0 0, .int .i64 0] ++ jk.drop (repl (W.length - (W.length - 1)) [Value.slice none 0 0, .int .i64 0]).length) := ⟨_, rfl⟩
 rw [← hjk2]
 refine sy_seq ?_
 refine sy_tx' [0, 1] rfl ?_
 refine sp rfl (PE.move rfl) rfl ?_
 refine sp rfl (PE.assign rfl) rfl ?_
 refine sy_ret ?_
 refine Sy.heap (fun w h => St.rows (sz := 2) (rows := werows (W.eraseIdx i)) (rest := jk2) h (we_two _)) ?_
 rw [← hel]
 exact sy_return (vs := [_]) rfl (.cons (RV.tmp rfl) .nil) rfl ⟨_, cap, rfl, rfl, rfl⟩ drp
end Go.Proofs.Ytelegnmfhjfbaaa
