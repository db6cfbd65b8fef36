/- Walks of the functions of the program, and the laws that join them: what the last theorem of this claim needs, in order. -/
import Derived.Test.YtaldphhdkmchhaaCc4
namespace Go.Proofs.Ytaldphhdkmchhaa
set_option linter.unusedSimpArgs false
set_option linter.unusedVariables false
open Go
theorem cal125 : cal Try.prog 125 = true := by kernel_rfl
theorem cal54 : cal Try.prog 54 = true := by kernel_rfl
theorem cal56 : cal Try.prog 56 = true := by kernel_rfl
theorem cal72 : cal Try.prog 72 = true := by kernel_rfl
theorem cal77 : cal Try.prog 77 = true := by kernel_rfl
theorem cal78 : cal Try.prog 78 = true := by kernel_rfl
theorem cal79 : cal Try.prog 79 = true := by kernel_rfl
theorem St.pullG {H : Heap} {R : Facts} {w : World} (F : Heap) {C : Heap → Heap} [r : RepF F H C] (h : St H R w) : St (F ++ C []) R w := by
  obtain ⟨T, h1, h2⟩ := r.rep
  exact h.perm (h1.trans (List.Perm.append_left F (h2 [])))
theorem srv_now {t : Twn} (ht : t.ok) {v : Sta} (hv : v.right t = true) (n : Nat) (s : Sta) : Srv { t with now := v } n s ↔ Srv t n s := by
  have ht' : Twn.ok { t with now := v } := { ht with now := hv }
  exact ⟨fun h => srv_mono ht' ht ⟨rfl, rfl, rfl, rfl, rfl, Int.le_refl _, Int.le_refl _, Int.le_refl _⟩ n h (Sle.refl s) (by have h2 := srv_right h; exact h2), fun h => srv_mono ht ht' ⟨rfl, rfl, rfl, rfl, rfl, Int.le_refl _, Int.le_refl _, Int.le_refl _⟩ n h (Sle.refl s) (by have h2 := srv_right h; exact h2)⟩
theorem ly_now {t : Twn} (ht : t.ok) {v : Sta} (hv : v.right t = true) : LY { t with now := v } = LY t := by
  have h : ∀ s x, LS { t with now := v } s x = LS t s x := fun s x => by
    unfold LS
    simp only [srv_now ht hv]
  unfold LY
  congr 1
  funext s
  unfold LV
  congr 1
  funext x
  exact h s x
theorem now_check {t : Twn} (h0 : t.check = 0) {v : Sta} (hv : v.right t = true) : Twn.check { t with now := v } = 0 := by
  obtain ⟨hok, hb⟩ := ok_of_check h0
  exact check_ok { hok with now := hv } hb
noncomputable def choS (t : Twn) (s : Sta) : List Int × Int := bif decide (lat (LY t) s = -1) then ([], 6) else (pickU (fun q => t.keeps (LY t) s q (lat (LY t) s)) t.rats t.rats.length, 0)
theorem cho_now {t : Twn} (h0 : t.check = 0) {s : Sta} (hs : s.right t = true) : choP { t with now := s } = choS t s := by
  have hok := (ok_of_check h0).1
  unfold choP choS
  rw [now_check h0 hs, ly_now hok hs]
  rfl
theorem pick_any {p : Rn → Bool} {l : List Rn} {k : Nat} {q : Rn} (h : l[k]? = some q) : ((pickU p l l.length).any fun x => decide ((k : Int) = x)) = p q := by
  have hlt := (List.getElem?_eq_some_iff.1 h).1
  unfold pickU
  cases hp : p q with
  | true =>
    rw [List.any_eq_true]
    refine ⟨k, List.mem_map.2 ⟨k, List.mem_filter.2 ⟨List.mem_range.2 hlt, by rw [h]; exact hp⟩, rfl⟩, by simp⟩
  | false =>
    rw [List.any_eq_false]
    intro x hx
    obtain ⟨i, hi, rfl⟩ := List.mem_map.1 hx
    have h2 := (List.mem_filter.1 hi).2
    intro he
    have : k = i := by have := of_decide_eq_true he; omega
    subst this
    rw [h] at h2
    simp only at h2
    rw [hp] at h2; cases h2
theorem pick_mem {p : Rn → Bool} {l : List Rn} {x : Int} (hx : x ∈ pickU p l l.length) : ∃ (k : Nat) (q : Rn), x = k ∧ l[k]? = some q ∧ p q = true := by
  obtain ⟨i, hi⟩ := List.getElem?_of_mem hx
  obtain ⟨q, h0, h1, h2, _⟩ := (pickU_at l.length (Nat.le_refl _)).2 i x hi
  exact ⟨x.toNat, q, by omega, h1, h2⟩
theorem choS_hit {t : Twn} {s : Sta} (h : ¬ lat (LY t) s = -1) (hl : LSA t (LY t)) (hs : s.right t = true) : ∃ l, choS t s = (l, 0) ∧ 1 ≤ l.length ∧ l.length ≤ t.rats.length ∧ (∀ x ∈ l, ∃ (k : Nat) (q : Rn), x = k ∧ t.rats[k]? = some q ∧ t.keeps (LY t) s q (lat (LY t) s) = true) ∧
    ∀ (k : Nat) (q : Rn), t.rats[k]? = some q → (l.any fun x => decide ((k : Int) = x)) = t.keeps (LY t) s q (lat (LY t) s) := by
  refine ⟨_, by unfold choS; rw [decide_eq_false h]; rfl, ?_, pickU_len _ _ _, fun x hx => pick_mem hx, fun k q hq => pick_any hq⟩
  obtain ⟨q, hq, hk⟩ := ls_keeps hl hs h
  obtain ⟨k, hkq⟩ := List.getElem?_of_mem hq
  have := pick_any (p := fun q => t.keeps (LY t) s q (lat (LY t) s)) hkq
  rw [hk, List.any_eq_true] at this
  obtain ⟨x, hx, _⟩ := this
  exact List.length_pos_of_mem hx
theorem choS_none {t : Twn} {s : Sta} (h : lat (LY t) s = -1) : choS t s = ([], 6) := by unfold choS; rw [decide_eq_true h]; rfl
theorem keeps_can {t : Twn} {y : List Int} {s : Sta} {q : Rn} {n : Int} (h : t.keeps y s q n = true) : t.can s q = true := by
  unfold Twn.keeps at h
  simp only [Bool.and_eq_true] at h
  exact h.1.1
theorem fewer_good {t : Twn} {y : List Int} {s : Sta} {q : Rn} {n : Int} (hc : t.can s q = true) (h : (decide (s.dry < t.run)) = false ∨ n = 0) : (!(t.keeps y s q n)) = decide (lat y (t.next s q false) < n) := by
  have e : (decide (n = 0) || !decide (s.dry < t.run)) = true := by rcases h with h | h <;> simp [h]
  unfold Twn.keeps
  rw [hc, e, Bool.true_or, Bool.true_and, Bool.and_true, ← decide_not]
  exact decide_eq_decide.2 (by omega)
theorem fewer_bad {t : Twn} {y : List Int} {s : Sta} {q : Rn} {n : Int} (hc : t.can s q = true) (h : s.dry < t.run) (hn : 0 < n) : (!(t.keeps y s q n)) = ((decide (lat y (t.next s q false) < n) || decide (lat y (t.next s q true) < n - 1)) || (decide (n = 1000000) && decide (lat y (t.next s q true) < n))) := by
  unfold Twn.keeps
  rw [hc, decide_eq_false (show ¬ n = 0 by omega), decide_eq_true h, Bool.true_and]
  by_cases he : n = 1000000
  · subst he
    simp only [decide_true, cond_true, Bool.false_or, Bool.not_true, Bool.not_and, ← decide_not, ← Bool.decide_or, Bool.true_and]
    exact decide_eq_decide.2 (by omega)
  · simp only [he, decide_false, cond_false, Bool.false_or, Bool.not_true, Bool.not_and, ← decide_not, ← Bool.decide_or, Bool.false_and, Bool.or_false]
    exact decide_eq_decide.2 (by omega)
theorem kept_on {t : Twn} {y : List Int} {s : Sta} {q : Rn} {n : Int} {bad : Bool} (h : t.keeps y s q n = true) (hb : bad = true → s.dry < t.run ∧ 0 < n) : (bad = false → n ≤ lat y (t.next s q bad)) ∧ (bad = true → n ≠ 1000000 → n - 1 ≤ lat y (t.next s q bad)) ∧ (bad = true → 0 ≤ lat y (t.next s q bad)) := by
  unfold Twn.keeps at h
  simp only [Bool.and_eq_true, Bool.or_eq_true, decide_eq_true_eq, Bool.not_eq_true', decide_eq_false_iff_not] at h
  obtain ⟨⟨_, h1⟩, h2⟩ := h
  refine ⟨fun e => by subst e; exact h1, fun e hn => ?_, fun e => ?_⟩
  · subst e
    obtain ⟨h3, h4⟩ := hb rfl
    rcases h2 with (h2 | h2) | h2
    · omega
    · omega
    · rw [decide_eq_false hn] at h2; exact h2
  · subst e
    obtain ⟨h3, h4⟩ := hb rfl
    rcases h2 with (h2 | h2) | h2
    · omega
    · omega
    · by_cases hn : n = 1000000
      · subst hn; have : (1000000 : Int) ≤ _ := h2; omega
      · rw [decide_eq_false hn] at h2; have : n - 1 ≤ _ := h2; omega
structure Chs (t : Twn) (s : Sta) (rs : List Int) (bs : List Bool) (ss : List Sta) : Prop where
  right : s.right t = true
  l1 : rs.length = ss.length
  l2 : bs.length = ss.length
  play : ∀ l, playS t t.now (rs.zip bs ++ l) = glue ss (playS t s l)
theorem Chs.start {t : Twn} (ht : t.ok) : Chs t t.now [] [] [] := ⟨ht.now, rfl, rfl, fun l => (glue_nil l t.now).symm⟩
theorem Chs.more {t : Twn} {s s' : Sta} {rs : List Int} {bs : List Bool} {ss : List Sta} {r : Int} {b : Bool} (h : Chs t s rs bs ss) (hn : nxtR t s r b = (s', 0)) (hr : s'.right t = true) : Chs t s' (rs ++ [r]) (bs ++ [b]) (ss ++ [s']) := by
  refine ⟨hr, by simp [h.l1], by simp [h.l2], fun l => ?_⟩
  have e : (rs ++ [r]).zip (bs ++ [b]) ++ l = rs.zip bs ++ ((r, b) :: l) := by rw [List.zip_append (by rw [h.l1, h.l2])]; simp
  rw [e, h.play, glue_step (by rw [hn])]
  rw [hn]
theorem Chs.end_ {t : Twn} (h0 : t.check = 0) {s : Sta} {rs : List Int} {bs : List Bool} {ss : List Sta} (h : Chs t s rs bs ss) (hl : ss.length ≤ 8) : playP t rs bs = (ss, 0) := by
  rw [play_hit h0 (by rw [h.l1, h.l2]) (by rw [h.l1]; omega)]
  have := h.play []
  rw [List.append_nil] at this
  rw [this, playS]
  simp [glue]
theorem c_Choose3 (t : Twn) (h0 : t.check = 0) (s : Sta) (hs : s.right t = true) (hl : t.rats.length ≤ 9223372036854775807) (ba oa ca : Nat) (H : Heap) (R : Facts) [hR : MemRows (some ⟨ba, oa, none⟩) 2 (rrows t.rats) R] :
    Fn Try.prog 44 [Twn.v { t with now := s } (Twn.sl { t with now := s } (some ⟨ba, oa, none⟩) ca)] H R (fun v H' R' => ∃ o : OSl 3 1 (irows (choS t s).1), v = .tuple #[o.fs, .int .i64 (choS t s).2] ∧ H' = o.G ++ H ∧ R' = R) := by
  rw [← cho_now h0 hs]
  exact c_Choose2 { t with now := s } hl ba oa ca H R (hR := hR)
theorem c_eq_state (xs ys : List Sta) (a a2 : Option Addr) (c c2 : Nat) (hl : xs.length ≤ 9223372036854775807) (hl2 : ys.length ≤ 9223372036854775807) (H : Heap) (R : Facts) [hR : MemRows a 3 (srows xs) R] [hR2 : MemRows a2 3 (srows ys) R] :
    FnV Try.prog 79 [.slice a xs.length c, .slice a2 ys.length c2] H R (.bool (decide (xs = ys))) := by
 refine fn_of Try.func79 rfl Try.ntmps79 rfl ?_
 refine sy_seq ?_
 refine sy_tx' [0] rfl ?_
 refine sp rfl (PE.assign rfl) rfl ?_
 refine sy_seq ?_
 refine sy_seq ?_
 refine sy_tx' [0, 1, 2, 3, 4] rfl ?_
 refine sp rfl (PE.move rfl) rfl ?_
 refine sp rfl (PE.lenSl isl85 rfl) rfl ?_
 refine sp rfl (PE.move rfl) rfl ?_
 refine sp rfl (PE.lenSl isl85 rfl) rfl ?_
 refine sp rfl (PE.neq rfl rfl) rfl ?_
 refine sy_cond rfl (fun hc0 => ?_) (fun hc0 => ?_)
 have hne : xs ≠ ys := fun e => by subst e; simp at hc0
 refine sy_seq ?_
 refine sy_tx' [0] rfl ?_
 refine sp rfl (PE.assign rfl) rfl ?_
 refine sy_ret ?_
 exact sy_return (vs := [_]) rfl (.cons (RV.tmp rfl) .nil) rfl ⟨by first | (simp only [retV]; rw [decide_eq_true heq]; done) | (simp only [retV]; rw [decide_eq_false hne]), rfl, rfl⟩ (fun _ h => h)
 have hle : xs.length = ys.length := by simp only [decide_eq_true_eq, decide_eq_false_iff_not, Bool.and_eq_true, Bool.or_eq_true, Bool.not_eq_true', Int.not_le, Int.not_lt] at hc0; omega
 refine sy_skip ?_
 refine sy_seq ?_
 refine sy_seq ?_
 refine sy_tx' [0, 1, 2] rfl ?_
 refine sp rfl (PE.move rfl) rfl ?_
 refine sp rfl (PE.lenSl isl85 rfl) rfl ?_
 refine sp rfl (PE.move rfl) rfl ?_
 refine sy_block ?_
 refine sy_loop (ι := {k : Nat // k ≤ xs.length ∧ xs.take k = ys.take k}) (fun k => ⟨[(0, .slice a xs.length c), (1, .slice a2 ys.length c2), (12, .int .i64 xs.length), (13, .int .i64 k.1)], H, R⟩) (fun k => xs.length - k.1) ⟨0, by simp⟩ ?_ (fun k => ?_)
 exact sy_at (by repeat' first | exact Sub.nil | apply Sub.cons | rfl | (simp [lk]; omega)) (fun _ h => h)
 obtain ⟨k, hk, hn⟩ := k
 dsimp only
 refine sy_seq ?_
 refine sy_tx' [0] rfl ?_
 refine sp rfl (PE.lss rfl rfl) rfl ?_
 refine sy_seq ?_
 refine sy_cond rfl (fun hc1 => ?_) (fun hc1 => ?_)
 simp only [decide_eq_true_eq, decide_eq_false_iff_not, Bool.and_eq_true, Bool.or_eq_true, Bool.not_eq_true', Int.not_le, Int.not_lt] at hc1
 obtain ⟨x, hx⟩ : ∃ x, xs[k]? = some x := ⟨_, List.getElem?_eq_getElem (by omega)⟩
 obtain ⟨z, hz⟩ : ∃ z, ys[k]? = some z := ⟨_, List.getElem?_eq_getElem (by omega)⟩
 refine sy_addr (a := a) (sz := 3) (rows := srows xs) (by intro h0; simp [srows] at h0; simp [h0] at hx) (fun b off he => ?_)
 subst he
 refine sy_addr (a := a2) (sz := 3) (rows := srows ys) (by intro h0; simp [srows] at h0; simp [h0] at hz) (fun b2 off2 he => ?_)
 subst he
 refine sy_skip ?_
 refine sy_seq ?_
 refine sy_block ?_
 refine sy_seq ?_
 refine sy_tx' [0, 1] rfl ?_
 refine sp rfl (PE.move rfl) rfl ?_
 refine sp rfl (PE.assign rfl) rfl ?_
 refine sy_seq ?_
 refine sy_draw [0, 0, 3, 7, 0, 0, 48, 112, 255] (.tk 0 (.tk 1 (.tk 2 (.ld 3 (.tk 4 (.tk 5 (.tk 6 (.ld 7 (.tk 8 .done))))))))) mixed (by kernel_rfl) ?_
 refine tk rfl (PE.move rfl) rfl ?_
 refine tk rfl (PE.move rfl) rfl ?_
 refine tk rfl (PE.indexAddr el85 rfl rfl (by omega) (by omega)) rfl ?_
 refine ld rfl rfl (lfA ag23 (row := srow x) (by simp [srows, hx]) rfl) rfl ?_
 refine tk rfl (PE.move rfl) rfl ?_
 refine tk rfl (PE.move rfl) rfl ?_
 refine tk rfl (PE.indexAddr el85 rfl rfl (by omega) (by omega)) rfl ?_
 refine ld rfl rfl (lfA ag23 (row := srow z) (by simp [srows, hz]) rfl) rfl ?_
 refine tk rfl (PE.neqAgg [x.stock, x.short, x.dry] [z.stock, z.short, z.dry] (eqB_ok 10000 23 true 3 eqf23) eqg23 rfl rfl rfl rfl) rfl ?_
 refine sy_cond rfl (fun hc2 => ?_) (fun hc2 => ?_)
 have hne : xs ≠ ys := fun e => by subst e; rw [hx] at hz; cases hz; simp at hc2
 refine sy_seq ?_
 refine sy_tx' [0] rfl ?_
 refine sp rfl (PE.assign rfl) rfl ?_
 refine sy_ret ?_
 exact sy_return (vs := [_]) rfl (.cons (RV.tmp rfl) .nil) rfl ⟨by first | (simp only [retV]; rw [decide_eq_true heq]; done) | (simp only [retV]; rw [decide_eq_false hne]), rfl, rfl⟩ (fun _ h => h)
 have hxz : x = z := by cases x; cases z; simpa [and_assoc] using hc2
 refine sy_skip ?_
 refine sy_tx' [0, 1] rfl ?_
 refine sp rfl (PE.add rfl rfl (by omega)) rfl ?_
 refine sp rfl (PE.move rfl) rfl ?_
 exact sy_next ⟨k + 1, by omega, by rw [List.take_add_one, List.take_add_one, hn, hx, hz, hxz]⟩ (by dsimp only; omega) (by repeat' first | exact Sub.nil | apply Sub.cons | rfl | (simp [lk]; omega)) (fun _ h => h)
 simp only [decide_eq_true_eq, decide_eq_false_iff_not, Bool.and_eq_true, Bool.or_eq_true, Bool.not_eq_true', Int.not_le, Int.not_lt] at hc1
 obtain rfl : k = xs.length := by omega
 have heq : xs = ys := by
   rw [List.take_length] at hn
   exact hn.trans (by rw [hle]; exact List.take_length)
 refine sy_exit ?_
 repeat refine sy_tx ?_
 refine sy_bx ?_
 refine sy_seq ?_
 refine sy_tx' [0] rfl ?_
 refine sp rfl (PE.assign rfl) rfl ?_
 refine sy_ret ?_
 exact sy_return (vs := [_]) rfl (.cons (RV.tmp rfl) .nil) rfl ⟨by first | (simp only [retV]; rw [decide_eq_true heq]; done) | (simp only [retV]; rw [decide_eq_false hne]), rfl, rfl⟩ (fun _ h => h)
theorem c_index_int (xs : List Int) (a : Option Addr) (c : Nat) (v : Int) (hl : xs.length ≤ 9223372036854775807) (H : Heap) (R : Facts) [hR : MemRows a 1 (irows xs) R] :
    FnV Try.prog 125 [.slice a xs.length c, .int .i64 v] H R (.int .i64 (match xs.findIdx? (fun x => decide (v = x)) with | some k => (k : Int) | none => -1)) := by
 refine fn_of Try.func125 rfl Try.ntmps125 rfl ?_
 refine sy_seq ?_
 refine sy_tx' [0] rfl ?_
 refine sp rfl (PE.assign rfl) rfl ?_
 refine sy_seq ?_
 refine sy_seq ?_
 refine sy_tx' [0, 1, 2] rfl ?_
 refine sp rfl (PE.move rfl) rfl ?_
 refine sp rfl (PE.lenSl isl42 rfl) rfl ?_
 refine sp rfl (PE.move rfl) rfl ?_
 refine sy_block ?_
 refine sy_loop (ι := {k : Nat // k ≤ xs.length ∧ ∀ x ∈ xs.take k, decide (v = x) = false}) (fun k => ⟨[(0, .slice a xs.length c), (1, .int .i64 v), (7, .int .i64 xs.length), (8, .int .i64 k.1)], H, R⟩) (fun k => xs.length - k.1) ⟨0, by simp⟩ ?_ (fun k => ?_)
 exact sy_at (by repeat' first | exact Sub.nil | apply Sub.cons | rfl | (simp [lk]; omega)) (fun _ h => h)
 obtain ⟨k, hk, hn⟩ := k
 dsimp only
 refine sy_seq ?_
 refine sy_tx' [0] rfl ?_
 refine sp rfl (PE.lss rfl rfl) rfl ?_
 refine sy_seq ?_
 refine sy_cond rfl (fun hc0 => ?_) (fun hc0 => ?_)
 simp only [decide_eq_true_eq, decide_eq_false_iff_not, Bool.and_eq_true, Bool.or_eq_true, Bool.not_eq_true', Int.not_le, Int.not_lt] at hc0
 obtain ⟨x, hx⟩ : ∃ x, xs[k]? = some x := ⟨_, List.getElem?_eq_getElem (by omega)⟩
 refine sy_addr (a := a) (sz := 1) (rows := irows xs) (by cases xs <;> simp_all [irows]) (fun b off he => ?_)
 subst he
 refine sy_skip ?_
 refine sy_seq ?_
 refine sy_block ?_
 refine sy_seq ?_
 refine sy_tx' [0, 1] rfl ?_
 refine sp rfl (PE.move rfl) rfl ?_
 refine sp rfl (PE.assign rfl) rfl ?_
 refine sy_seq ?_
 refine sy_tx' [0, 1, 2, 3, 4, 5] rfl ?_
 refine sp rfl (PE.move rfl) rfl ?_
 refine sp rfl (PE.move rfl) rfl ?_
 refine sp rfl (PE.move rfl) rfl ?_
 refine sp rfl (PE.indexAddr el42 rfl rfl (by omega) (by omega)) rfl ?_
 refine spL rfl rfl (lf0 sc3 (by simp [irows, hx]; rfl) rfl) rfl ?_
 refine sp rfl (PE.eql rfl rfl) rfl ?_
 refine sy_cond rfl (fun hc1 => ?_) (fun hc1 => ?_)
 refine sy_seq ?_
 refine sy_tx' [0, 1] rfl ?_
 refine sp rfl (PE.move rfl) rfl ?_
 refine sp rfl (PE.assign rfl) rfl ?_
 refine sy_ret ?_
 first | (exact sy_return (vs := [_]) rfl (.cons (RV.tmp rfl) .nil) rfl ⟨by rw [find_hit hx hn hc1]; rfl, rfl, rfl⟩ (fun _ h => h)) | (exact sy_return (vs := [_]) rfl (.cons (RV.tmp rfl) .nil) rfl ⟨by rw [find_miss (by simpa using hn)]; rfl, rfl, rfl⟩ (fun _ h => h))
 refine sy_skip ?_
 refine sy_tx' [0, 1] rfl ?_
 refine sp rfl (PE.add rfl rfl (by omega)) rfl ?_
 refine sp rfl (PE.move rfl) rfl ?_
 exact sy_next ⟨k + 1, by omega, take_miss hx hn hc1⟩ (by dsimp only; omega) (by repeat' first | exact Sub.nil | apply Sub.cons | rfl | (simp [lk]; omega)) (fun _ h => h)
 simp only [decide_eq_true_eq, decide_eq_false_iff_not, Bool.and_eq_true, Bool.or_eq_true, Bool.not_eq_true', Int.not_le, Int.not_lt] at hc0
 obtain rfl : k = xs.length := by omega
 refine sy_exit ?_
 repeat refine sy_tx ?_
 refine sy_bx ?_
 refine sy_seq ?_
 refine sy_tx' [0] rfl ?_
 refine sp rfl (PE.assign rfl) rfl ?_
 refine sy_ret ?_
 first | (exact sy_return (vs := [_]) rfl (.cons (RV.tmp rfl) .nil) rfl ⟨by rw [find_hit hx hn hc1]; rfl, rfl, rfl⟩ (fun _ h => h)) | (exact sy_return (vs := [_]) rfl (.cons (RV.tmp rfl) .nil) rfl ⟨by rw [find_miss (by simpa using hn)]; rfl, rfl, rfl⟩ (fun _ h => h))
theorem c_contains_int (xs : List Int) (a : Option Addr) (c : Nat) (v : Int) (hl : xs.length ≤ 9223372036854775807) (H : Heap) (R : Facts) [hR : MemRows a 1 (irows xs) R] :
    FnV Try.prog 78 [.slice a xs.length c, .int .i64 v] H R (.bool (xs.any fun x => decide (v = x))) := by
 refine fn_of Try.func78 rfl Try.ntmps78 rfl ?_
 refine sy_seq ?_
 refine sy_tx' [0] rfl ?_
 refine sp rfl (PE.assign rfl) rfl ?_
 refine sy_seq ?_
 refine sy_tx' [0, 1, 2, 3, 4] rfl ?_
 refine sp rfl (PE.move rfl) rfl ?_
 refine sp rfl (PE.move rfl) rfl ?_
 refine clV rfl cal125 rfl rfl (c_index_int xs a c v hl _ _) ?_
 refine sp rfl (PE.geq rfl rfl) rfl ?_
 refine sp rfl (PE.assign rfl) rfl ?_
 refine sy_ret ?_
 exact sy_return (vs := [_]) rfl (.cons (RV.tmp rfl) .nil) rfl ⟨by simp only [retV]; exact idx_any _ _, rfl, rfl⟩ drp
theorem c_cho1 (t : Twn) (s : Sta) (k : Nat) (q : Rn) (b5 b9 ba oa ca bn on cn : Nat) (hq : t.rats[k]? = some q) (H : Heap) (R : Facts) [hR : MemRows (some ⟨ba, oa, none⟩) 2 (rrows t.rats) R] [m5 : Mem1 b5 (cel 26 (twl t (.slice (some ⟨ba, oa, none⟩) t.rats.length ca))) H] [m9 : Mem1 b9 (cel 26 (twl { t with now := s } (.slice (some ⟨bn, on, none⟩) t.rats.length cn))) H] :
    FnV Try.prog 77 [.int .i64 k, .pointer (some ⟨b5, 0, none⟩), .pointer (some ⟨b9, 0, none⟩)] H R (.bool (!(t.can s q))) := by
 refine fn_of Try.func77 rfl Try.ntmps77 rfl ?_
 refine sy_seq ?_
 refine sy_tx' [0] rfl ?_
 refine sp rfl (PE.assign rfl) rfl ?_
 refine sy_seq ?_
 refine sy_tx' [0, 1, 2, 3, 4, 5, 6] rfl ?_
 refine spL rfl rfl (lhA [_, _, _, _, _, _, _, _, _, _, _] ag26 rfl rfl rfl) rfl ?_
 refine sp rfl (PE.fieldAddr fo26_0 rfl) rfl ?_
 refine spL rfl rfl (lhA [_, _, _] ag23 rfl rfl rfl) rfl ?_
 refine sp rfl (PE.move rfl) rfl ?_
 refine clV rfl cal54 rfl rfl (c_lallow t s k q ba oa ca (by omega) (by simpa using hq) _ _) ?_
 refine sp rfl (PE.not rfl) rfl ?_
 refine sp rfl (PE.assign rfl) rfl ?_
 refine sy_ret ?_
 exact sy_return (vs := [_]) rfl (.cons (RV.tmp rfl) .nil) rfl ⟨rfl, rfl, rfl⟩ drp
set_option maxHeartbeats 4000000 in
theorem c_BreadChosen (g : List Int) (ag : Option Addr) (cg : Nat) (hgl : g.length ≤ 9223372036854775807) (h : List Int) (ah : Option Addr) (ch : Nat) (hhl : h.length ≤ 9223372036854775807) (H : Heap) (R : Facts) [hG : MemRows ag 1 (urows g) R] [hG2 : MemRows ah 1 (urows h) R] :
    Fn Try.prog 14 [.slice ag g.length cg, .slice ah h.length ch] H R (fun v H' R' => v = .bool true ∧ H' = H ∧ R' = R) := by
 refine fn_of Try.func14 rfl Try.ntmps14 rfl ?_
 refine sy_seq ?_
 refine sy_tx' [0] rfl ?_
 refine sp rfl (PE.assign rfl) rfl ?_
 refine sy_seq ?_
 refine sy_tx' [0, 1, 2, 3, 4] rfl ?_
 refine sp rfl (PE.move rfl) rfl ?_
 refine cl rfl cal47 rfl rfl (c_Fill g ag cg hgl _ _) ?_
 rintro _ _ R1 ⟨bk, mx, hmx, rfl, rfl, hR1⟩
 obtain rfl := hR1.symm
 refine cl rfl cal46 rfl rfl (c_Made g ag cg bk hgl 0 mx (by omega) hmx 20 (by omega) _ _) ?_
 rintro _ _ _ ⟨t, ba, oa, ca, tq', mx', hmo, rfl, htq', hmx', rfl, rfl⟩
 refine Sy.heap (fun w h => h.del bk) ?_
 have hck := hmo.ok
 have hok := (ok_of_check hck).1
 have hmany := hok.many
 have hdry := hok.run
 refine alc rfl zl26 rfl (fun b5 => ?_)
 refine sto rfl rfl rfl cn26 rfl rfl rfl rfl ?_
 refine sy_seq ?_
 refine sy_tx' [0, 1, 2] rfl ?_
 refine sp rfl (PE.move rfl) rfl ?_
 refine cl rfl cal47 rfl rfl (c_Fill h ah ch hhl _ _) ?_
 rintro _ _ R1 ⟨bh, mh, hmh, rfl, rfl, hR1⟩
 obtain rfl := hR1.symm
 refine sp rfl (PE.assign rfl) rfl ?_
 refine sy_seq ?_
 refine sy_tx' [0, 1, 2, 3, 4, 5, 6] rfl ?_
 refine spL rfl rfl (lhA [_, _, _, _, _, _, _, _, _, _, _] ag26 rfl rfl rfl) rfl ?_
 refine cl rfl cal42 rfl rfl (c_Lasts t (by omega) ba oa ca _ _) ?_
 rintro _ _ _ ⟨hL, rfl, rfl⟩
 obtain ⟨_, σ, hσ, rfl⟩ := hL.resolve_left (fun h => h.1 hck)
 have hly := (solv_lsa hok hσ).ly hok
 rw [(solv_lsa hok hσ).same hok _ hok.now]
 clear hσ hL
 refine sp rfl (PE.move rfl) rfl ?_
 refine sp rfl (PE.extract rfl rfl) rfl ?_
 refine sp rfl (PE.extract rfl rfl) rfl ?_
 refine sp rfl (PE.assign rfl) rfl ?_
 refine sp rfl (PE.assign rfl) rfl ?_
 refine sy_seq ?_
 refine sy_seq ?_
 refine sy_tx' [0, 1] rfl ?_
 refine sp rfl (PE.move rfl) rfl ?_
 refine sp rfl (PE.neq rfl rfl) rfl ?_
 refine sy_cond rfl (fun hc0 => ?_) (fun hc0 => ?_)
 exact absurd hc0 (by first | (simp; done) | (rw [decide_eq_false (by omega)]; simp))
 refine sy_skip ?_
 refine sy_seq ?_
 refine sy_tx' [0, 1, 2] rfl ?_
 refine spL rfl rfl (lhA [_, _, _, _, _, _, _, _, _, _, _] ag26 rfl rfl rfl) rfl ?_
 refine alc rfl zl26 rfl (fun b9 => ?_)
 refine sto rfl rfl rfl cn26 rfl rfl rfl rfl ?_
 refine sy_seq ?_
 refine sy_tx' [0] rfl ?_
 refine sp rfl (PE.assign rfl) rfl ?_
 refine sy_seq ?_
 refine sy_tx' [0] rfl ?_
 refine sp rfl (PE.assign rfl) rfl ?_
 refine sy_seq ?_
 refine sy_tx' [0] rfl ?_
 refine sp rfl (PE.assign rfl) rfl ?_
 refine sy_seq ?_
 refine sy_seq ?_
 refine sy_tx' [0] rfl ?_
 refine sp rfl (PE.move rfl) rfl ?_
 refine sy_block ?_
 refine sy_loop (ι := (x : {x : Nat × Sta × List Int × List Bool × List Sta × Int × Int × Nat × Nat × Nat // x.1 ≤ 8 ∧ x.2.2.2.2.1.length = x.1 ∧ Chs t x.2.1 x.2.2.1 x.2.2.2.1 x.2.2.2.2.1 ∧ (0 ≤ x.2.2.2.2.2.1 ∧ x.2.2.2.2.2.1 ≤ 2 * x.1) ∧ (0 ≤ x.2.2.2.2.2.2.1 ∧ x.2.2.2.2.2.2.1 ≤ 4294967295)}) × OSl 3 1 (irows x.1.2.2.1) × OSl 4 1 (brows x.1.2.2.2.1) × OSl 23 3 (srows x.1.2.2.2.2.1)) (fun x => ⟨[(5, .pointer (some ⟨b5, 0, none⟩)), (6, .pointer (some ⟨bh, 0, none⟩)), (7, .int .i64 (lat (LY t) x.1.1.2.1)), (9, .pointer (some ⟨b9, 0, none⟩)), (10, x.2.1.fs), (11, x.2.2.1.fs), (12, x.2.2.2.fs), (40, .int .i64 x.1.1.1)], (bh, cel 168 [.slice ah h.length ch, .int .i64 (x.1.1.2.2.2.2.2.1), .int .u32 (x.1.1.2.2.2.2.2.2.1)]) :: (x.2.1.G ++ (x.2.2.1.G ++ (x.2.2.2.G ++ (b9, cel 26 (twl { t with now := x.1.1.2.1 } (.slice (some ⟨x.1.1.2.2.2.2.2.2.2.1, x.1.1.2.2.2.2.2.2.2.2.1, none⟩) t.rats.length x.1.1.2.2.2.2.2.2.2.2.2))) :: (b5, cel 26 (twl { t with now := t.now } (.slice (some ⟨ba, oa, none⟩) t.rats.length ca))) :: H))), RowsA (some ⟨x.1.1.2.2.2.2.2.2.2.1, x.1.1.2.2.2.2.2.2.2.2.1, none⟩) 2 (rrows t.rats) :: RowsA (some ⟨ba, oa, none⟩) 2 (rrows t.rats) :: R⟩) (fun x => 8 - x.1.1.1) ⟨⟨(0, t.now, [], [], [], 0, mh, ba, oa, ca), by omega, rfl, Chs.start hok, by dsimp only; omega, by assumption⟩, OSl.nil _ _, OSl.nil _ _, OSl.nil _ _⟩ ?_ (fun x => ?_)
 refine sy_pull b5 (sy_pull b9 (sy_pull bh ?_))
 exact sy_at (by repeat' first | exact Sub.nil | apply Sub.cons | rfl | (simp [lk]; omega)) (fun _ hs => St.also hs (fun w' hg => hg (RowsA (some ⟨ba, oa, none⟩) 2 (rrows t.rats)) (by simp)))
 obtain ⟨⟨⟨k, s, rs, bs, ss, tq, mz, bn, on, cn⟩, hk, hsl, hch, htq, hmz⟩, o1, o2, o3⟩ := x
 dsimp only at hk hsl hch htq hmz o1 o2 o3 ⊢
 have hsr := hch.right
 have hrg := ls_range hly hsr
 have hplay := hch.end_ hck (by omega)
 refine sy_seq ?_
 refine sy_tx' [0] rfl ?_
 refine sp rfl (PE.lss rfl rfl) rfl ?_
 refine sy_seq ?_
 refine sy_cond rfl (fun hc1 => ?_) (fun hc1 => ?_)
 try simp only [decide_eq_true_eq, decide_eq_false_iff_not, Bool.and_eq_true, Bool.or_eq_true, Bool.not_eq_true', Int.not_le, Int.not_lt] at hc1
 refine sy_skip ?_
 refine sy_seq ?_
 refine sy_block ?_
 refine sy_seq ?_
 refine sy_tx' [0, 1, 2, 3, 4, 5, 6] rfl ?_
 refine spL rfl rfl (lhA [_, _, _, _, _, _, _, _, _, _, _] ag26 rfl rfl rfl) rfl ?_
 refine cl rfl cal44 rfl rfl (c_Choose3 t hck s hsr (by omega) bn on cn _ _) ?_
 rintro _ _ _ ⟨o13, rfl, rfl, rfl⟩
 refine sp rfl (PE.move rfl) rfl ?_
 refine sp rfl (PE.extract rfl rfl) rfl ?_
 refine sp rfl (PE.extract rfl rfl) rfl ?_
 refine sp rfl (PE.assign rfl) rfl ?_
 refine sp rfl (PE.assign rfl) rfl ?_
 refine sy_seq ?_
 refine sy_seq ?_
 refine sy_tx' [0, 1] rfl ?_
 refine sp rfl (PE.move rfl) rfl ?_
 refine sp rfl (PE.eql rfl rfl) rfl ?_
 refine sy_cond rfl (fun hc2 => ?_) (fun hc2 => ?_)
 try simp only [decide_eq_true_eq, decide_eq_false_iff_not, Bool.and_eq_true, Bool.or_eq_true, Bool.not_eq_true', Int.not_le, Int.not_lt] at hc2
 have hc6 : (choS t s).2 = 6 := by rw [choS_none hc2]
 rw [hc6]
 refine sy_seq ?_
 refine sy_seq ?_
 refine sy_tx' [0, 1] rfl ?_
 refine sp rfl (PE.move rfl) rfl ?_
 refine sp rfl (PE.neq rfl rfl) rfl ?_
 refine sy_cond rfl (fun hc3 => ?_) (fun hc3 => ?_)
 exact absurd hc3 (by first | (simp; done) | (rw [decide_eq_false (by omega)]; simp))
 refine sy_skip ?_
 refine sy_exit ?_
 refine sy_tx ?_
 refine sy_bxn (by decide) ?_
 repeat refine sy_tx ?_
 refine sy_bx ?_
 refine sy_seq ?_
 refine sy_tx' [0, 1, 2, 3, 4, 5, 6, 7, 8] rfl ?_
 obtain ⟨a1, c1, he1, hf1⟩ := o1.freeze
 obtain ⟨a2, c2, he2, hf2⟩ := o2.freeze
 obtain ⟨a3, c3, he3, hf3⟩ := o3.freeze
 rw [he1, he2, he3]
 refine Sy.heap (fun w h => hf1 (h.pullG o1.G)) ?_
 refine Sy.heap (fun w h => hf2 (h.pullG o2.G)) ?_
 refine Sy.heap (fun w h => hf3 (h.pullG o3.G)) ?_
 rw [show (irows rs).length = rs.length from List.length_map _, show (brows bs).length = bs.length from List.length_map _, show (srows ss).length = ss.length from List.length_map _]
 refine spL rfl rfl (lhA [_, _, _, _, _, _, _, _, _, _, _] ag26 rfl rfl rfl) rfl ?_
 refine sp rfl (PE.move rfl) rfl ?_
 refine sp rfl (PE.move rfl) rfl ?_
 refine cl rfl cal52 rfl rfl (c_Play t (by omega) rs bs a1 a2 c1 c2 (by have := hch.l1; omega) (by have := hch.l2; omega) ba oa ca _ _) ?_
 rintro _ _ _ ⟨a26, c26, rfl, rfl, rfl⟩
 rw [hplay]
 dsimp only
 refine sp rfl (PE.move rfl) rfl ?_
 refine sp rfl (PE.extract rfl rfl) rfl ?_
 refine sp rfl (PE.extract rfl rfl) rfl ?_
 refine sp rfl (PE.assign rfl) rfl ?_
 refine sp rfl (PE.assign rfl) rfl ?_
 refine sy_seq ?_
 refine sy_tx' [0, 1, 2, 3, 4, 5, 6, 7, 8, 9, 10] rfl ?_
 refine sp rfl (PE.move rfl) rfl ?_
 refine sp rfl (PE.eql rfl rfl) rfl ?_
 refine sp rfl (PE.move rfl) rfl ?_
 refine sy_case (t := 239) rfl (fun g239 => ?_) (fun g239 => ?_)
 refine spG rfl rfl rfl rfl (PE.move rfl) rfl ?_
 refine spG rfl rfl rfl rfl (PE.move rfl) rfl ?_
 refine clVG rfl rfl rfl rfl cal79 rfl rfl (c_eq_state ss ss a26 a3 c26 c3 (by omega) (by omega) _ _) ?_
 refine sp rfl (PE.pick rfl rfl rfl) rfl ?_
 refine sp rfl (PE.move rfl) rfl ?_
 refine sy_case (t := 244) rfl (fun g244 => ?_) (fun g244 => ?_)
 refine clVG rfl rfl rfl rfl cal16 rfl rfl (c_awake _ _) ?_
 refine sp rfl (PE.pick rfl rfl rfl) rfl ?_
 refine sp rfl (PE.assign rfl) rfl ?_
 refine sy_ret ?_
 exact sy_return (vs := [_]) rfl (.cons (RV.tmp rfl) .nil) rfl ⟨rfl, rfl, rfl⟩ drp
 exact absurd g244 (by simp)
 exact absurd g239 (by rw [decide_eq_true (by omega)]; simp)
 try simp only [decide_eq_true_eq, decide_eq_false_iff_not, Bool.and_eq_true, Bool.or_eq_true, Bool.not_eq_true', Int.not_le, Int.not_lt] at hc2
 obtain ⟨l, hcl, hl1, hl2, hmem, hany⟩ := choS_hit hc2 hly hsr
 obtain ⟨al, cq, he, hf⟩ := o13.freeze
 rw [he]
 refine Sy.heap (fun w h => hf h) ?_
 rw [show (irows (choS t s).1).length = (choS t s).1.length from List.length_map _, hcl]
 clear he hf
 dsimp only
 refine sy_addr (a := al) (sz := 1) (rows := irows l) (by intro h0; have h1 := congrArg List.length h0; simp only [irows, List.length_map, List.length_nil] at h1; omega) (fun bl ol he => ?_)
 subst he
 refine sy_skip ?_
 refine sy_seq ?_
 refine sy_seq ?_
 refine sy_tx' [0, 1, 2, 3, 4, 5, 6, 7, 8, 9, 10, 11] rfl ?_
 refine sp rfl (PE.move rfl) rfl ?_
 refine sp rfl (PE.neq rfl rfl) rfl ?_
 refine sp rfl (PE.move rfl) rfl ?_
 refine sy_case (t := 53) rfl (fun g53 => ?_) (fun g53 => ?_)
 exact absurd g53 (by first | (simp; done) | (rw [decide_eq_false (by omega)]; simp))
 refine spG rfl rfl rfl rfl (PE.move rfl) rfl ?_
 refine spG rfl rfl rfl rfl (PE.lenSl isl42 rfl) rfl ?_
 refine spG rfl rfl rfl rfl (PE.eql rfl rfl) rfl ?_
 refine sp rfl (PE.pick rfl rfl rfl) rfl ?_
 refine sp rfl (PE.move rfl) rfl ?_
 refine sy_case (t := 58) rfl (fun g58 => ?_) (fun g58 => ?_)
 exact absurd g58 (by rw [decide_eq_false (by omega)]; simp)
 refine spG rfl rfl rfl rfl (PE.move rfl) rfl ?_
 refine spG rfl rfl rfl rfl (PE.makeFunc rfl rfl) rfl ?_
 refine clVG rfl rfl rfl rfl cal76 rfl rfl (c_has_int l (some ⟨bl, ol, none⟩) cq 77 [] [.pointer (some ⟨b5, 0, none⟩), .pointer (some ⟨b9, 0, none⟩)] (fun _ => false) cal77 (by omega) _ _ (fun x hx => by
     obtain ⟨k2, q, rfl, hq, hkp⟩ := hmem x hx
     have hf := c_cho1 t s k2 q b5 b9 ba oa ca bn on cn hq ((bh, cel 168 [.slice ah h.length ch, .int .i64 (tq), .int .u32 (mz)]) :: (o1.G ++ (o2.G ++ (o3.G ++ (b9, cel 26 (twl { t with now := s } (.slice (some ⟨bn, on, none⟩) t.rats.length cn))) :: (b5, cel 26 (twl { t with now := t.now } (.slice (some ⟨ba, oa, none⟩) t.rats.length ca))) :: H)))) (RowsA (some ⟨bl, ol, none⟩) 1 (irows l) :: RowsA (some ⟨bn, on, none⟩) 2 (rrows t.rats) :: RowsA (some ⟨ba, oa, none⟩) 2 (rrows t.rats) :: R)
     rw [keeps_can hkp] at hf
     exact hf)) ?_
 refine sp rfl (PE.pick rfl rfl rfl) rfl ?_
 refine sy_cond rfl (fun hc4 => ?_) (fun hc4 => ?_)
 exact absurd hc4 (by simp)
 refine sy_skip ?_
 refine sy_seq ?_
 refine sy_seq ?_
 refine sy_tx' [0, 1, 2, 3] rfl ?_
 refine sp rfl (PE.fieldAddr fo26_8 rfl) rfl ?_
 refine spL rfl rfl (lh sc24 rfl rfl) rfl ?_
 refine sp rfl (PE.lenSl isl24 rfl) rfl ?_
 refine sp rfl (PE.move rfl) rfl ?_
 refine sy_block ?_
 refine sy_loop (ι := {m : Nat // m ≤ t.rats.length}) (fun m => ⟨[(5, .pointer (some ⟨b5, 0, none⟩)), (6, .pointer (some ⟨bh, 0, none⟩)), (7, .int .i64 (lat (LY t) s)), (9, .pointer (some ⟨b9, 0, none⟩)), (10, o1.fs), (11, o2.fs), (12, o3.fs), (40, .int .i64 k), (13, .slice (some ⟨bl, ol, none⟩) l.length cq), (65, .int .i64 t.rats.length), (66, .int .i64 m.1)], (bh, cel 168 [.slice ah h.length ch, .int .i64 (tq), .int .u32 (mz)]) :: (o1.G ++ (o2.G ++ (o3.G ++ (b9, cel 26 (twl { t with now := s } (.slice (some ⟨bn, on, none⟩) t.rats.length cn))) :: (b5, cel 26 (twl { t with now := t.now } (.slice (some ⟨ba, oa, none⟩) t.rats.length ca))) :: H))), RowsA (some ⟨bl, ol, none⟩) 1 (irows l) :: RowsA (some ⟨bn, on, none⟩) 2 (rrows t.rats) :: RowsA (some ⟨ba, oa, none⟩) 2 (rrows t.rats) :: R⟩) (fun m => t.rats.length - m.1) ⟨0, by omega⟩ ?_ (fun m => ?_)
 exact sy_at (by repeat' first | exact Sub.nil | apply Sub.cons | rfl | (simp [lk]; omega)) (fun _ h => h)
 obtain ⟨m, hm⟩ := m
 dsimp only at hm ⊢
 refine sy_seq ?_
 refine sy_tx' [0] rfl ?_
 refine sp rfl (PE.lss rfl rfl) rfl ?_
 refine sy_seq ?_
 refine sy_cond rfl (fun hc5 => ?_) (fun hc5 => ?_)
 try simp only [decide_eq_true_eq, decide_eq_false_iff_not, Bool.and_eq_true, Bool.or_eq_true, Bool.not_eq_true', Int.not_le, Int.not_lt] at hc5
 obtain ⟨q, hq⟩ : ∃ q, t.rats[m]? = some q := ⟨_, List.getElem?_eq_getElem (by omega)⟩
 have hqm := List.mem_of_getElem? hq
 refine sy_skip ?_
 refine sy_seq ?_
 refine sy_block ?_
 refine sy_seq ?_
 refine sy_tx' [0, 1] rfl ?_
 refine sp rfl (PE.move rfl) rfl ?_
 refine sp rfl (PE.assign rfl) rfl ?_
 refine sy_seq ?_
 refine sy_seq ?_
 refine sy_tx' [0, 1, 2, 3, 4, 5] rfl ?_
 refine spL rfl rfl (lhA [_, _, _, _, _, _, _, _, _, _, _] ag26 rfl rfl rfl) rfl ?_
 refine sp rfl (PE.fieldAddr fo26_0 rfl) rfl ?_
 refine spL rfl rfl (lhA [_, _, _] ag23 rfl rfl rfl) rfl ?_
 refine sp rfl (PE.move rfl) rfl ?_
 refine clV rfl cal54 rfl rfl (c_lallow t s m q ba oa ca (by omega) (by simpa using hq) _ _) ?_
 refine sp rfl (PE.not rfl) rfl ?_
 refine sy_cond rfl (fun hc6 => ?_) (fun hc6 => ?_)
 refine sy_exit ?_
 refine sy_tx ?_
 refine sy_bx ?_
 refine sy_tx' [0, 1] rfl ?_
 refine sp rfl (PE.add rfl rfl (by omega)) rfl ?_
 refine sp rfl (PE.move rfl) rfl ?_
 exact sy_next ⟨m + 1, by omega⟩ (by dsimp only; omega) (by repeat' first | exact Sub.nil | apply Sub.cons | rfl | (simp [lk]; omega)) (fun _ h => h)
 have hcan : t.can s q = true := by simpa using hc6
 refine sy_skip ?_
 refine sy_seq ?_
 refine sy_draw [0, 0, 0, 4, 0, 30, 63, 127, 255, 255, 511, 2047] (.ld 0 (.ld 1 (.tk 2 (.ld 3 (.tk 4 (.big 5 (.big 6 (.tk 7 (.tk 8 (.tk 9 (.tk 10 (.tk 11 .done)))))))))))) mixed (by kernel_rfl) ?_
 refine ld rfl rfl (lhA [_, _, _, _, _, _, _, _, _, _, _] ag26 rfl rfl rfl) rfl ?_
 refine ld rfl rfl (lhA [_, _, _, _, _, _, _, _, _, _, _] ag26 rfl rfl rfl) rfl ?_
 refine tk rfl (PE.fieldAddr fo26_0 rfl) rfl ?_
 refine ld rfl rfl (lhA [_, _, _] ag23 rfl rfl rfl) rfl ?_
 refine tk rfl (PE.move rfl) rfl ?_
 refine clV rfl cal56 rfl rfl (c_after t hok s hsr m q false ba oa ca (by omega) (by simpa using hq) (can_le hcan) _ _) ?_
 refine bg (fun w hs => ⟨trivial, trivial, (lhA [_, _, _, _, _, _, _, _, _, _, _] ag26 rfl rfl rfl) w hs, trivial⟩) ?_
 refine cl rfl cal43 rfl rfl (c_From t (t.next s q false) (by omega) ba oa ca _ _) ?_
 rintro _ _ _ ⟨rfl, rfl, rfl⟩
 rw [show fromP t (t.next s q false) = (lat (LY t) (t.next s q false), 0) from by simp [fromP, hck, next_right hok hsr hqm hcan (bad := false) (by simp)]]
 refine bg (fun w hs => ⟨trivial, trivial⟩) ?_
 refine tk rfl (PE.move rfl) rfl ?_
 refine tk rfl (PE.extract rfl rfl) rfl ?_
 refine tk rfl (PE.extract rfl rfl) rfl ?_
 refine tk rfl (PE.assign rfl) rfl ?_
 refine tk rfl (PE.assign rfl) rfl ?_
 refine sy_seq ?_
 refine sy_tx' [0, 1, 2, 3] rfl ?_
 refine sp rfl (PE.move rfl) rfl ?_
 refine sp rfl (PE.move rfl) rfl ?_
 refine sp rfl (PE.lss rfl rfl) rfl ?_
 refine sp rfl (PE.assign rfl) rfl ?_
 refine sy_seq ?_
 refine sy_seq ?_
 refine sy_tx' [0, 1, 2, 3, 4, 5, 6, 7, 8, 9] rfl ?_
 refine sp rfl (PE.fieldAddr fo26_0 rfl) rfl ?_
 refine sp rfl (PE.fieldAddr fo23_2 rfl) rfl ?_
 refine spL rfl rfl (lh sc3 rfl rfl) rfl ?_
 refine sp rfl (PE.fieldAddr fo26_4 rfl) rfl ?_
 refine spL rfl rfl (lh sc3 rfl rfl) rfl ?_
 refine sp rfl (PE.lss rfl rfl) rfl ?_
 refine sp rfl (PE.move rfl) rfl ?_
 refine sy_case (t := 94) rfl (fun g94 => ?_) (fun g94 => ?_)
 simp only [decide_eq_true_eq, decide_eq_false_iff_not, Bool.and_eq_true, Bool.or_eq_true, Bool.not_eq_true', Int.not_le, Int.not_lt] at g94
 refine spG rfl rfl rfl rfl (PE.move rfl) rfl ?_
 refine spG rfl rfl rfl rfl (PE.gtr rfl rfl) rfl ?_
 refine sp rfl (PE.pick rfl rfl rfl) rfl ?_
 refine sy_cond rfl (fun hc7 => ?_) (fun hc7 => ?_)
 have hn0 : 0 < lat (LY t) s := by simpa using hc7
 have hnr := next_right hok hsr hqm hcan (bad := true) (fun _ => g94)
 have hfw := fewer_bad (y := LY t) hcan g94 hn0
 refine sy_seq ?_
 refine sy_draw [0, 0, 0, 4, 0, 30, 63, 127, 255, 255, 511, 2047] (.ld 0 (.ld 1 (.tk 2 (.ld 3 (.tk 4 (.big 5 (.big 6 (.tk 7 (.tk 8 (.tk 9 (.tk 10 (.tk 11 .done)))))))))))) mixed (by kernel_rfl) ?_
 refine ld rfl rfl (lhA [_, _, _, _, _, _, _, _, _, _, _] ag26 rfl rfl rfl) rfl ?_
 refine ld rfl rfl (lhA [_, _, _, _, _, _, _, _, _, _, _] ag26 rfl rfl rfl) rfl ?_
 refine tk rfl (PE.fieldAddr fo26_0 rfl) rfl ?_
 refine ld rfl rfl (lhA [_, _, _] ag23 rfl rfl rfl) rfl ?_
 refine tk rfl (PE.move rfl) rfl ?_
 refine clV rfl cal56 rfl rfl (c_after t hok s hsr m q true ba oa ca (by omega) (by simpa using hq) (can_le hcan) _ _) ?_
 refine bg (fun w hs => ⟨trivial, trivial, (lhA [_, _, _, _, _, _, _, _, _, _, _] ag26 rfl rfl rfl) w hs, trivial⟩) ?_
 refine cl rfl cal43 rfl rfl (c_From t (t.next s q true) (by omega) ba oa ca _ _) ?_
 rintro _ _ _ ⟨rfl, rfl, rfl⟩
 rw [show fromP t (t.next s q true) = (lat (LY t) (t.next s q true), 0) from by simp [fromP, hck, hnr]]
 refine bg (fun w hs => ⟨trivial, trivial⟩) ?_
 refine tk rfl (PE.move rfl) rfl ?_
 refine tk rfl (PE.extract rfl rfl) rfl ?_
 refine tk rfl (PE.extract rfl rfl) rfl ?_
 refine tk rfl (PE.assign rfl) rfl ?_
 refine tk rfl (PE.assign rfl) rfl ?_
 refine sy_seq ?_
 refine sy_cut (ι := {f : Bool // f = !(t.keeps (LY t) s q (lat (LY t) s))}) (fun f => ⟨[(5, .pointer (some ⟨b5, 0, none⟩)), (6, .pointer (some ⟨bh, 0, none⟩)), (7, .int .i64 (lat (LY t) s)), (9, .pointer (some ⟨b9, 0, none⟩)), (10, o1.fs), (11, o2.fs), (12, o3.fs), (40, .int .i64 k), (13, .slice (some ⟨bl, ol, none⟩) l.length cq), (15, .int .i64 m), (17, .int .i64 0), (18, .bool f.1), (20, .int .i64 0), (65, .int .i64 t.rats.length), (66, .int .i64 m)], (bh, cel 168 [.slice ah h.length ch, .int .i64 (tq), .int .u32 (mz)]) :: (o1.G ++ (o2.G ++ (o3.G ++ (b9, cel 26 (twl { t with now := s } (.slice (some ⟨bn, on, none⟩) t.rats.length cn))) :: (b5, cel 26 (twl { t with now := t.now } (.slice (some ⟨ba, oa, none⟩) t.rats.length ca))) :: H))), RowsA (some ⟨bl, ol, none⟩) 1 (irows l) :: RowsA (some ⟨bn, on, none⟩) 2 (rrows t.rats) :: RowsA (some ⟨ba, oa, none⟩) 2 (rrows t.rats) :: R⟩) ?_ ?_
 refine sy_tx' [0, 1, 2, 3, 4, 5, 6, 7, 8, 9, 10, 11, 12, 13, 14, 15, 16] rfl ?_
 refine sp rfl (PE.move rfl) rfl ?_
 refine sp rfl (PE.move rfl) rfl ?_
 refine sy_case (t := 109) rfl (fun g109 => ?_) (fun g109 => ?_)
 have hval : true = (!(t.keeps (LY t) s q (lat (LY t) s))) := by rw [hfw, g109]; rfl
 repeat refine spN rfl rfl rfl rfl rfl rfl rfl rfl ?_
 refine sp rfl (PE.pick rfl rfl rfl) rfl ?_
 refine sp rfl (PE.move rfl) rfl ?_
 repeat refine spN rfl rfl rfl rfl rfl rfl rfl rfl ?_
 repeat refine spU rfl rfl rfl rfl rfl rfl rfl ?_
 refine spN rfl rfl rfl rfl rfl rfl rfl rfl ?_
 refine sp rfl (PE.pick rfl rfl rfl) rfl ?_
 refine sp rfl (PE.assign rfl) rfl ?_
 exact sy_cutEnd ⟨_, hval⟩ (by repeat' first | exact Sub.nil | apply Sub.cons | rfl | (simp [lk]; omega)) (fun _ h => h)
 refine spG rfl rfl rfl rfl (PE.move rfl) rfl ?_
 refine spG rfl rfl rfl rfl (PE.move rfl) rfl ?_
 refine spG rfl rfl rfl rfl (PE.sub rfl rfl (by omega)) rfl ?_
 refine spG rfl rfl rfl rfl (PE.lss rfl rfl) rfl ?_
 refine sp rfl (PE.pick rfl rfl rfl) rfl ?_
 refine sp rfl (PE.move rfl) rfl ?_
 refine sy_case (t := 115) rfl (fun g115 => ?_) (fun g115 => ?_)
 replace g115 : decide (lat (LY t) (t.next s q true) < lat (LY t) s - 1) = true := g115
 have hval : true = (!(t.keeps (LY t) s q (lat (LY t) s))) := by rw [hfw, g115, Bool.or_true]; rfl
 repeat refine spN rfl rfl rfl rfl rfl rfl rfl rfl ?_
 repeat refine spU rfl rfl rfl rfl rfl rfl rfl ?_
 refine spN rfl rfl rfl rfl rfl rfl rfl rfl ?_
 refine sp rfl (PE.pick rfl rfl rfl) rfl ?_
 refine sp rfl (PE.assign rfl) rfl ?_
 exact sy_cutEnd ⟨_, hval⟩ (by repeat' first | exact Sub.nil | apply Sub.cons | rfl | (simp [lk]; omega)) (fun _ h => h)
 replace g115 : decide (lat (LY t) (t.next s q true) < lat (LY t) s - 1) = false := g115
 refine spG rfl rfl rfl rfl (PE.move rfl) rfl ?_
 refine spG rfl rfl rfl rfl (PE.eql rfl rfl) rfl ?_
 refine spG rfl rfl rfl rfl (PE.move rfl) rfl ?_
 refine sy_case (t := 118) rfl (fun g118 => ?_) (fun g118 => ?_)
 have hval : decide (lat (LY t) (t.next s q true) < lat (LY t) s) = (!(t.keeps (LY t) s q (lat (LY t) s))) := by rw [hfw, g109, g115, g118]; rfl
 refine spG rfl rfl rfl rfl (PE.move rfl) rfl ?_
 refine spG rfl rfl rfl rfl (PE.move rfl) rfl ?_
 refine spG rfl rfl rfl rfl (PE.lss rfl rfl) rfl ?_
 refine spG rfl rfl rfl rfl (PE.pick rfl rfl rfl) rfl ?_
 refine sp rfl (PE.pick rfl rfl rfl) rfl ?_
 refine sp rfl (PE.assign rfl) rfl ?_
 exact sy_cutEnd ⟨_, hval⟩ (by repeat' first | exact Sub.nil | apply Sub.cons | rfl | (simp [lk]; omega)) (fun _ h => h)
 have hval : false = (!(t.keeps (LY t) s q (lat (LY t) s))) := by rw [hfw, g109, g115, g118]; rfl
 repeat refine spN rfl rfl rfl rfl rfl rfl rfl rfl ?_
 refine spG rfl rfl rfl rfl (PE.pick rfl rfl rfl) rfl ?_
 refine sp rfl (PE.pick rfl rfl rfl) rfl ?_
 refine sp rfl (PE.assign rfl) rfl ?_
 exact sy_cutEnd ⟨_, hval⟩ (by repeat' first | exact Sub.nil | apply Sub.cons | rfl | (simp [lk]; omega)) (fun _ h => h)
 rintro ⟨f, hf⟩
 dsimp only
 refine sy_tx' [0, 1, 2, 3] rfl ?_
 refine sp rfl (PE.move rfl) rfl ?_
 refine sp rfl (PE.move rfl) rfl ?_
 refine sp rfl (PE.max rfl rfl) rfl ?_
 refine sp rfl (PE.assign rfl) rfl ?_
 refine sy_seq ?_
 refine sy_tx' [0, 1, 2, 3, 4, 5, 6, 7, 8] rfl ?_
 refine sp rfl (PE.move rfl) rfl ?_
 refine sp rfl (PE.neq rfl rfl) rfl ?_
 refine sp rfl (PE.move rfl) rfl ?_
 refine sy_case (t := 129) rfl (fun g129 => ?_) (fun g129 => ?_)
 exact absurd g129 (by first | (simp; done) | (rw [decide_eq_false (by omega)]; simp))
 refine spG rfl rfl rfl rfl (PE.move rfl) rfl ?_
 refine spG rfl rfl rfl rfl (PE.move rfl) rfl ?_
 refine clVG rfl rfl rfl rfl cal78 rfl rfl (c_contains_int l (some ⟨bl, ol, none⟩) cq m (by omega) _ _) ?_
 refine spG rfl rfl rfl rfl (PE.move rfl) rfl ?_
 refine spG rfl rfl rfl rfl (PE.eqlBool ub4 rfl rfl) rfl ?_
 refine sp rfl (PE.pick rfl rfl rfl) rfl ?_
 refine sy_cond rfl (fun hc8 => ?_) (fun hc8 => ?_)
 exact absurd hc8 (by rw [hany m q hq]; (first | rw [hf] | rw [← hfw]); cases t.keeps (LY t) s q (lat (LY t) s) <;> simp)
 refine sy_skip ?_
 refine sy_tx' [0, 1] rfl ?_
 refine sp rfl (PE.add rfl rfl (by omega)) rfl ?_
 refine sp rfl (PE.move rfl) rfl ?_
 exact sy_next ⟨m + 1, by omega⟩ (by dsimp only; omega) (by repeat' first | exact Sub.nil | apply Sub.cons | rfl | (simp [lk]; omega)) (fun _ h => h)
 have hn0 : ¬ 0 < lat (LY t) s := by simpa using hc7
 have hfw := fewer_good (y := LY t) (n := lat (LY t) s) hcan (.inr (by omega))
 refine sy_skip ?_
 refine sy_seq ?_
 refine sy_tx' [0, 1, 2, 3, 4, 5, 6, 7, 8] rfl ?_
 refine sp rfl (PE.move rfl) rfl ?_
 refine sp rfl (PE.neq rfl rfl) rfl ?_
 refine sp rfl (PE.move rfl) rfl ?_
 refine sy_case (t := 129) rfl (fun g129 => ?_) (fun g129 => ?_)
 exact absurd g129 (by first | (simp; done) | (rw [decide_eq_false (by omega)]; simp))
 refine spG rfl rfl rfl rfl (PE.move rfl) rfl ?_
 refine spG rfl rfl rfl rfl (PE.move rfl) rfl ?_
 refine clVG rfl rfl rfl rfl cal78 rfl rfl (c_contains_int l (some ⟨bl, ol, none⟩) cq m (by omega) _ _) ?_
 refine spG rfl rfl rfl rfl (PE.move rfl) rfl ?_
 refine spG rfl rfl rfl rfl (PE.eqlBool ub4 rfl rfl) rfl ?_
 refine sp rfl (PE.pick rfl rfl rfl) rfl ?_
 refine sy_cond rfl (fun hc8 => ?_) (fun hc8 => ?_)
 exact absurd hc8 (by rw [hany m q hq]; (first | rw [hf] | rw [← hfw]); cases t.keeps (LY t) s q (lat (LY t) s) <;> simp)
 refine sy_skip ?_
 refine sy_tx' [0, 1] rfl ?_
 refine sp rfl (PE.add rfl rfl (by omega)) rfl ?_
 refine sp rfl (PE.move rfl) rfl ?_
 exact sy_next ⟨m + 1, by omega⟩ (by dsimp only; omega) (by repeat' first | exact Sub.nil | apply Sub.cons | rfl | (simp [lk]; omega)) (fun _ h => h)
 have hfw := fewer_good (y := LY t) (n := lat (LY t) s) hcan (.inl g94)
 repeat refine spN rfl rfl rfl rfl rfl rfl rfl rfl ?_
 refine sp rfl (PE.pick rfl rfl rfl) rfl ?_
 refine sy_condF rfl ?_
 refine sy_skip ?_
 refine sy_seq ?_
 refine sy_tx' [0, 1, 2, 3, 4, 5, 6, 7, 8] rfl ?_
 refine sp rfl (PE.move rfl) rfl ?_
 refine sp rfl (PE.neq rfl rfl) rfl ?_
 refine sp rfl (PE.move rfl) rfl ?_
 refine sy_case (t := 129) rfl (fun g129 => ?_) (fun g129 => ?_)
 exact absurd g129 (by first | (simp; done) | (rw [decide_eq_false (by omega)]; simp))
 refine spG rfl rfl rfl rfl (PE.move rfl) rfl ?_
 refine spG rfl rfl rfl rfl (PE.move rfl) rfl ?_
 refine clVG rfl rfl rfl rfl cal78 rfl rfl (c_contains_int l (some ⟨bl, ol, none⟩) cq m (by omega) _ _) ?_
 refine spG rfl rfl rfl rfl (PE.move rfl) rfl ?_
 refine spG rfl rfl rfl rfl (PE.eqlBool ub4 rfl rfl) rfl ?_
 refine sp rfl (PE.pick rfl rfl rfl) rfl ?_
 refine sy_cond rfl (fun hc8 => ?_) (fun hc8 => ?_)
 exact absurd hc8 (by rw [hany m q hq]; (first | rw [hf] | rw [← hfw]); cases t.keeps (LY t) s q (lat (LY t) s) <;> simp)
 refine sy_skip ?_
 refine sy_tx' [0, 1] rfl ?_
 refine sp rfl (PE.add rfl rfl (by omega)) rfl ?_
 refine sp rfl (PE.move rfl) rfl ?_
 exact sy_next ⟨m + 1, by omega⟩ (by dsimp only; omega) (by repeat' first | exact Sub.nil | apply Sub.cons | rfl | (simp [lk]; omega)) (fun _ h => h)
 try simp only [decide_eq_true_eq, decide_eq_false_iff_not, Bool.and_eq_true, Bool.or_eq_true, Bool.not_eq_true', Int.not_le, Int.not_lt] at hc5
 refine sy_exit ?_
 repeat refine sy_tx ?_
 refine sy_bx ?_
 refine sy_seq ?_
 refine sy_cut (ι := {z : Nat × Rn × Bool × Int × Int // t.rats[z.1]? = some z.2.1 ∧ t.keeps (LY t) s z.2.1 (lat (LY t) s) = true ∧ (z.2.2.1 = true → s.dry < t.run ∧ 0 < lat (LY t) s) ∧ (0 ≤ z.2.2.2.1 ∧ z.2.2.2.1 ≤ 2 * k + 2) ∧ (0 ≤ z.2.2.2.2 ∧ z.2.2.2.2 ≤ 4294967295)}) (fun z => ⟨[(5, .pointer (some ⟨b5, 0, none⟩)), (6, .pointer (some ⟨bh, 0, none⟩)), (7, .int .i64 (lat (LY t) s)), (9, .pointer (some ⟨b9, 0, none⟩)), (10, o1.fs), (11, o2.fs), (12, o3.fs), (40, .int .i64 k), (21, .int .i64 z.1.1), (22, .bool z.1.2.2.1)], (bh, cel 168 [.slice ah h.length ch, .int .i64 (z.1.2.2.2.1), .int .u32 (z.1.2.2.2.2)]) :: (o1.G ++ (o2.G ++ (o3.G ++ (b9, cel 26 (twl { t with now := s } (.slice (some ⟨bn, on, none⟩) t.rats.length cn))) :: (b5, cel 26 (twl { t with now := t.now } (.slice (some ⟨ba, oa, none⟩) t.rats.length ca))) :: H))), RowsA (some ⟨bn, on, none⟩) 2 (rrows t.rats) :: RowsA (some ⟨ba, oa, none⟩) 2 (rrows t.rats) :: R⟩) ?_ ?_
 refine sy_draw [0, 0, 0, 4, 14, 31, 63, 0, 128, 384, 0, 1024, 3968, 8094, 16286, 32670, 65438, 130974, 262046, 524190, 1048478, 1048575, 4194303] (.tk 0 (.tk 1 (.tk 2 (.tk 3 (.tk 7 (.tk 8 (.ld 9 (.tk 10 (.ld 11 (.tk 12 (.big 4 (.tk 5 (.ld 6 (.tk 13 (.tk 14 (.tk 15 (.tk 16 (.tk 17 (.tk 18 (.big 19 (.tk 20 (.tk 21 (.tk 22 .done))))))))))))))))))))))) mixed (by kernel_rfl) ?_
 refine tk rfl (PE.move rfl) rfl ?_
 refine tk rfl (PE.move rfl) rfl ?_
 refine tk rfl (PE.move rfl) rfl ?_
 refine tk rfl (PE.lenSl isl42 rfl) rfl ?_
 refine tk rfl (PE.fieldAddr fo26_0 rfl) rfl ?_
 refine tk rfl (PE.fieldAddr fo23_2 rfl) rfl ?_
 refine ld rfl rfl (lh sc3 rfl rfl) rfl ?_
 refine tk rfl (PE.fieldAddr fo26_4 rfl) rfl ?_
 refine ld rfl rfl (lh sc3 rfl rfl) rfl ?_
 refine tk rfl (PE.lss rfl rfl) rfl ?_
 refine cl rfl cal48 rfl rfl (c_Below h ah ch bh hhl _ _ (by omega) (by assumption) (l.length) _ _) ?_
 rintro _ _ R1 ⟨x141, m141, hx141, rfl, hm141, rfl, hR1⟩
 obtain rfl := hR1.symm
 obtain ⟨i, rfl⟩ : ∃ i : Nat, x141 = i := ⟨x141.toNat, by omega⟩
 obtain ⟨x, hx⟩ : ∃ x, l[i]? = some x := ⟨_, List.getElem?_eq_getElem (by omega)⟩
 obtain ⟨r, q, rfl, hq, hkp⟩ := hmem x (List.mem_of_getElem? hx)
 refine bg (fun w hs => ⟨(lh sc3 rfl rfl) w hs, (lh sc3 rfl rfl) w hs, trivial⟩) ?_
 refine tk rfl (PE.indexAddr el42 rfl rfl (by omega) (by omega)) rfl ?_
 refine ld rfl rfl (lf0 (x := .int .i64 r) sc3 (by simp [irows, hx]; rfl) rfl) rfl ?_
 refine tk rfl (PE.move rfl) rfl ?_
 refine sy_case (t := 150) rfl (fun g150 => ?_) (fun g150 => ?_)
 simp only [decide_eq_true_eq, decide_eq_false_iff_not, Bool.and_eq_true, Bool.or_eq_true, Bool.not_eq_true', Int.not_le, Int.not_lt] at g150
 refine tkG rfl rfl rfl rfl (PE.move rfl) rfl ?_
 refine tkG rfl rfl rfl rfl (PE.gtr rfl rfl) rfl ?_
 refine tk rfl (PE.pick rfl rfl rfl) rfl ?_
 refine tk rfl (PE.move rfl) rfl ?_
 refine sy_case (t := 154) rfl (fun g154 => ?_) (fun g154 => ?_)
 have hn0 : 0 < lat (LY t) s := by simpa using g154
 refine tkG rfl rfl rfl rfl (PE.move rfl) rfl ?_
 refine clG rfl rfl rfl rfl cal72 rfl rfl (c_Rare h ah ch bh hhl _ _ (by omega) (by assumption) 2 _ _) ?_
 rintro _ _ R1 ⟨y156, m156, rfl, hm156, rfl, hR1⟩
 obtain rfl := hR1.symm
 refine bg (fun w hs => ⟨(lf0 (x := .int .i64 r) sc3 (by simp [irows, hx]; rfl) rfl) w hs, trivial, trivial, trivial⟩) ?_
 refine tk rfl (PE.pick rfl rfl rfl) rfl ?_
 refine tk rfl (PE.assign rfl) rfl ?_
 refine tk rfl (PE.assign rfl) rfl ?_
 first
   | exact sy_cutEnd ⟨(r, q, y156, tq + 1 + 1, m156), hq, hkp, fun _ => ⟨g150, hn0⟩, by dsimp only; omega, by assumption⟩ (by repeat' first | exact Sub.nil | apply Sub.cons | rfl | (simp [lk]; omega)) (fun w h => h.ftail)
   | exact sy_cutEnd ⟨(r, q, false, tq + 1, m141), hq, hkp, (fun h => by cases h), by dsimp only; omega, by assumption⟩ (by repeat' first | exact Sub.nil | apply Sub.cons | rfl | (simp [lk]; omega)) (fun w h => h.ftail)
 refine tkN rfl rfl rfl rfl rfl rfl rfl rfl ?_
 refine spN rfl rfl rfl rfl rfl rfl rfl rfl ?_
 refine bg (fun w hs => ⟨(lf0 (x := .int .i64 r) sc3 (by simp [irows, hx]; rfl) rfl) w hs, trivial, trivial, trivial⟩) ?_
 refine tk rfl (PE.pick rfl rfl rfl) rfl ?_
 refine tk rfl (PE.assign rfl) rfl ?_
 refine tk rfl (PE.assign rfl) rfl ?_
 first
   | exact sy_cutEnd ⟨(r, q, y156, tq + 1 + 1, m156), hq, hkp, fun _ => ⟨g150, hn0⟩, by dsimp only; omega, by assumption⟩ (by repeat' first | exact Sub.nil | apply Sub.cons | rfl | (simp [lk]; omega)) (fun w h => h.ftail)
   | exact sy_cutEnd ⟨(r, q, false, tq + 1, m141), hq, hkp, (fun h => by cases h), by dsimp only; omega, by assumption⟩ (by repeat' first | exact Sub.nil | apply Sub.cons | rfl | (simp [lk]; omega)) (fun w h => h.ftail)
 repeat refine tkN rfl rfl rfl rfl rfl rfl rfl rfl ?_
 refine tk rfl (PE.pick rfl rfl rfl) rfl ?_
 refine tk rfl (PE.move rfl) rfl ?_
 refine tkN rfl rfl rfl rfl rfl rfl rfl rfl ?_
 refine spN rfl rfl rfl rfl rfl rfl rfl rfl ?_
 refine bg (fun w hs => ⟨(lf0 (x := .int .i64 r) sc3 (by simp [irows, hx]; rfl) rfl) w hs, trivial, trivial, trivial⟩) ?_
 refine tk rfl (PE.pick rfl rfl rfl) rfl ?_
 refine tk rfl (PE.assign rfl) rfl ?_
 refine tk rfl (PE.assign rfl) rfl ?_
 first
   | exact sy_cutEnd ⟨(r, q, y156, tq + 1 + 1, m156), hq, hkp, fun _ => ⟨g150, hn0⟩, by dsimp only; omega, by assumption⟩ (by repeat' first | exact Sub.nil | apply Sub.cons | rfl | (simp [lk]; omega)) (fun w h => h.ftail)
   | exact sy_cutEnd ⟨(r, q, false, tq + 1, m141), hq, hkp, (fun h => by cases h), by dsimp only; omega, by assumption⟩ (by repeat' first | exact Sub.nil | apply Sub.cons | rfl | (simp [lk]; omega)) (fun w h => h.ftail)
 rintro ⟨⟨r, q, bad, tq2, mz2⟩, hq, hkp, hbd, htq2, hmz2⟩
 dsimp only at hq hkp hbd htq2 hmz2 ⊢
 have hqm := List.mem_of_getElem? hq
 have hcan := keeps_can hkp
 obtain ⟨hm1, hm2, hm3⟩ := kept_on hkp hbd
 have hnr := next_right hok hsr hqm hcan (bad := bad) (fun h => (hbd h).1)
 have hnx : nxtR t s r bad = (t.next s q bad, 0) := nxt_ok (rat_iff.2 ⟨by omega, by simpa using hq⟩) hcan (by cases bad with | false => rfl | true => simp [(hbd rfl).1])
 have hrg2 := ls_range hly hnr
 refine sy_seq ?_
 refine sy_tx' [0, 1, 2, 3, 4, 5, 6, 7, 8, 9] rfl ?_
 refine spL rfl rfl (lhA [_, _, _, _, _, _, _, _, _, _, _] ag26 rfl rfl rfl) rfl ?_
 refine sp rfl (PE.move rfl) rfl ?_
 refine sp rfl (PE.move rfl) rfl ?_
 refine cl rfl cal55 rfl rfl (c_Year { t with now := s } r bad (by show t.rats.length ≤ _; omega) bn on cn _ _ (hR := (inferInstance : MemRows _ 2 (rrows t.rats) _))) ?_
 rintro _ _ _ ⟨rfl, hy⟩
 obtain ⟨hye, hyc⟩ := year_yes (t := { t with now := s }) (now_check hck hsr) (k := r) hq hcan (bad := bad) (by cases bad with | false => rfl | true => have := (hbd rfl).1; simp; omega)
 rw [hye] at hy
 dsimp only at hy
 replace hyc : Twn.check { t with now := t.next s q bad } = 0 := hyc
 obtain ⟨by_, cy, jy, rfl, rfl⟩ := hy.resolve_left (fun h => by have := h.1; rw [this] at hmany; simp at hmany)
 refine Sy.heap (fun w h => St.rows (sz := 2) h (by intro r hr; obtain ⟨x, _, rfl⟩ := List.mem_map.1 hr; rfl)) ?_
 clear hy hye
 refine sp rfl (PE.move rfl) rfl ?_
 refine sp rfl (PE.extract rfl rfl) rfl ?_
 refine sp rfl (PE.extract rfl rfl) rfl ?_
 refine alc rfl zl26 rfl (fun b23 => ?_)
 refine sto rfl rfl rfl cn26 rfl rfl rfl rfl ?_
 refine sp rfl (PE.assign rfl) rfl ?_
 refine sy_seq ?_
 refine sy_tx' [0, 1, 2, 3, 4, 5, 6] rfl ?_
 refine spL rfl rfl (lhA [_, _, _, _, _, _, _, _, _, _, _] ag26 rfl rfl rfl) rfl ?_
 refine cl rfl cal42 rfl rfl (c_Lasts { t with now := t.next s q bad } (by show t.rats.length ≤ _; omega) by_ 0 cy _ _ (hR := (inferInstance : MemRows _ 2 (rrows t.rats) _))) ?_
 rintro _ _ _ ⟨hL, rfl, rfl⟩
 obtain ⟨_, σ, hσ, rfl⟩ := hL.resolve_left (fun h => h.1 hyc)
 have hxo := (ok_of_check hyc).1
 rw [(solv_lsa hxo hσ).same hxo _ hxo.now, show LY { t with now := t.next s q bad } = LY t from ly_now hok hnr]
 clear hσ hL
 dsimp only
 refine sp rfl (PE.move rfl) rfl ?_
 refine sp rfl (PE.extract rfl rfl) rfl ?_
 refine sp rfl (PE.extract rfl rfl) rfl ?_
 refine sp rfl (PE.assign rfl) rfl ?_
 refine sp rfl (PE.assign rfl) rfl ?_
 refine sy_seq ?_
 refine sy_seq ?_
 refine sy_draw [0, 1, 3, 7, 15, 31, 63, 127, 255, 127, 127, 1151, 127, 127, 15999, 32767, 65535, 131071, 262143, 262143, 1048575, 2097151, 4194303, 8388607, 16777215, 33554431, 67108863, 134217727, 268435455, 536870911, 1073741823, 2147483647, 4294967295, 8589934591, 8589934591, 25769803775, 68719476735, 137438953471, 274877906943] (.tk 0 (.tk 1 (.tk 2 (.tk 3 (.tk 4 (.tk 5 (.tk 6 (.tk 7 (.ld 8 (.ld 9 (.tk 10 (.ld 11 (.tk 12 (.tk 13 (.big 14 (.tk 15 (.tk 16 (.tk 17 (.tk 18 (.tk 19 (.tk 20 (.tk 21 (.tk 22 (.tk 23 (.tk 24 (.tk 25 (.tk 26 (.tk 27 (.tk 28 (.tk 29 (.tk 30 (.tk 31 (.tk 32 (.tk 33 (.tk 34 (.tk 35 (.tk 36 (.tk 37 (.tk 38 .done))))))))))))))))))))))))))))))))))))))) mixed (by kernel_rfl) ?_
 refine tk rfl (PE.move rfl) rfl ?_
 refine tk rfl (PE.neq rfl rfl) rfl ?_
 refine tk rfl (PE.move rfl) rfl ?_
 refine sy_case (t := 172) rfl (fun g172 => ?_) (fun g172 => ?_)
 exact absurd g172 (by first | (simp; done) | (rw [decide_eq_false (by omega)]; simp))
 refine tkG rfl rfl rfl rfl (PE.move rfl) rfl ?_
 refine tkG rfl rfl rfl rfl (PE.neq rfl rfl) rfl ?_
 refine tk rfl (PE.pick rfl rfl rfl) rfl ?_
 refine tk rfl (PE.move rfl) rfl ?_
 refine sy_case (t := 176) rfl (fun g176 => ?_) (fun g176 => ?_)
 exact absurd g176 (by first | (simp; done) | (rw [decide_eq_false (by omega)]; simp))
 refine tkG rfl rfl rfl rfl (PE.fieldAddr fo26_0 rfl) rfl ?_
 refine ldG rfl rfl rfl rfl rfl (lhA [_, _, _] ag23 rfl rfl rfl) rfl ?_
 refine ldG rfl rfl rfl rfl rfl (lhA [_, _, _, _, _, _, _, _, _, _, _] ag26 rfl rfl rfl) rfl ?_
 refine tkG rfl rfl rfl rfl (PE.fieldAddr fo26_0 rfl) rfl ?_
 refine ldG rfl rfl rfl rfl rfl (lhA [_, _, _] ag23 rfl rfl rfl) rfl ?_
 refine tkG rfl rfl rfl rfl (PE.move rfl) rfl ?_
 refine tkG rfl rfl rfl rfl (PE.move rfl) rfl ?_
 refine clVG rfl rfl rfl rfl cal56 rfl rfl (c_after t hok s hsr r q bad ba oa ca (by omega) (by simpa using hq) (can_le hcan) _ _) ?_
 refine bg (fun w hs => ⟨trivial, trivial, (lhA [_, _, _] ag23 rfl rfl rfl) w hs, trivial⟩) ?_
 refine tkG rfl rfl rfl rfl (PE.neqAgg [(t.next s q bad).stock, (t.next s q bad).short, (t.next s q bad).dry] [(t.next s q bad).stock, (t.next s q bad).short, (t.next s q bad).dry] (eqB_ok 10000 23 true 3 eqf23) eqg23 rfl rfl rfl rfl) rfl ?_
 refine tk rfl (PE.pick rfl rfl rfl) rfl ?_
 refine tk rfl (PE.move rfl) rfl ?_
 refine sy_case (t := 187) rfl (fun g187 => ?_) (fun g187 => ?_)
 exact absurd g187 (by first | (simp; done) | (rw [decide_eq_false (by omega)]; simp))
 refine tkG rfl rfl rfl rfl (PE.move rfl) rfl ?_
 refine tkG rfl rfl rfl rfl (PE.move rfl) rfl ?_
 refine tkG rfl rfl rfl rfl (PE.lss rfl rfl) rfl ?_
 refine tkG rfl rfl rfl rfl (PE.move rfl) rfl ?_
 refine sy_case (t := 191) rfl (fun g191 => ?_) (fun g191 => ?_)
 simp only [decide_eq_true_eq, decide_eq_false_iff_not, Bool.and_eq_true, Bool.or_eq_true, Bool.not_eq_true', Int.not_le, Int.not_lt] at g191
 refine tkG rfl rfl rfl rfl (PE.move rfl) rfl ?_
 refine tkG rfl rfl rfl rfl (PE.not rfl) rfl ?_
 refine tkG rfl rfl rfl rfl (PE.pick rfl rfl rfl) rfl ?_
 refine tk rfl (PE.pick rfl rfl rfl) rfl ?_
 refine tk rfl (PE.move rfl) rfl ?_
 refine sy_case (t := 196) rfl (fun g196 => ?_) (fun g196 => ?_)
 have := hm1 (by simpa using g196)
 omega
 refine tkG rfl rfl rfl rfl (PE.move rfl) rfl ?_
 refine tkG rfl rfl rfl rfl (PE.move rfl) rfl ?_
 refine sy_case (t := 198) rfl (fun g198 => ?_) (fun g198 => ?_)
 refine tkG rfl rfl rfl rfl (PE.move rfl) rfl ?_
 refine tkG rfl rfl rfl rfl (PE.neq rfl rfl) rfl ?_
 refine tkG rfl rfl rfl rfl (PE.pick rfl rfl rfl) rfl ?_
 refine tkG rfl rfl rfl rfl (PE.move rfl) rfl ?_
 refine sy_case (t := 202) rfl (fun g202 => ?_) (fun g202 => ?_)
 have hne : lat (LY t) s ≠ 1000000 := by simpa using g202
 refine tkG rfl rfl rfl rfl (PE.move rfl) rfl ?_
 refine tkG rfl rfl rfl rfl (PE.move rfl) rfl ?_
 refine tkG rfl rfl rfl rfl (PE.sub rfl rfl (by omega)) rfl ?_
 refine tkG rfl rfl rfl rfl (PE.lss rfl rfl) rfl ?_
 refine tkG rfl rfl rfl rfl (PE.pick rfl rfl rfl) rfl ?_
 refine tk rfl (PE.pick rfl rfl rfl) rfl ?_
 refine sy_cond rfl (fun hc9 => ?_) (fun hc9 => ?_)
 exact absurd hc9 (by first | (rw [decide_eq_false (by have := hm2 g198 hne; omega)]; simp; done) | (simp; done))
 refine sy_skip ?_
 refine sy_seq ?_
 refine sy_cut (ι := OSl 3 1 (irows (rs ++ [(r : Int)])) × OSl 4 1 (brows (bs ++ [bad])) × OSl 23 3 (srows (ss ++ [t.next s q bad]))) (fun z => ⟨[(5, .pointer (some ⟨b5, 0, none⟩)), (6, .pointer (some ⟨bh, 0, none⟩)), (7, .int .i64 (lat (LY t) s)), (9, .pointer (some ⟨b9, 0, none⟩)), (10, z.1.fs), (11, z.2.1.fs), (12, z.2.2.fs), (40, .int .i64 k), (21, .int .i64 r), (22, .bool bad), (23, .pointer (some ⟨b23, 0, none⟩)), (24, .int .i64 (lat (LY t) (t.next s q bad)))], (b23, cel 26 (twl { t with now := t.next s q bad } (.slice (some ⟨by_, 0, none⟩) t.rats.length cy))) :: (bh, cel 168 [.slice ah h.length ch, .int .i64 (tq2), .int .u32 (mz2)]) :: (z.1.G ++ (z.2.1.G ++ (z.2.2.G ++ (b9, cel 26 (twl { t with now := s } (.slice (some ⟨bn, on, none⟩) t.rats.length cn))) :: (b5, cel 26 (twl { t with now := t.now } (.slice (some ⟨ba, oa, none⟩) t.rats.length ca))) :: H))), RowsA (some ⟨by_, 0, none⟩) 2 (rrows t.rats) :: RowsA (some ⟨bn, on, none⟩) 2 (rrows t.rats) :: RowsA (some ⟨ba, oa, none⟩) 2 (rrows t.rats) :: R⟩) ?_ ?_
 refine sy_draw [0, 0, 2, 7, 0, 0, 32, 127, 0, 0, 512, 1536, 4095, 8191, 16383, 32767] (.tk 0 (.tk 1 (.tk 4 (.tk 5 (.tk 8 (.tk 9 (.ld 10 (.any (.alt 2 (.any (.alt 3 (.any (.alt 6 (.any (.alt 7 (.big 11 (.big 12 (.tk 13 (.tk 14 (.tk 15 .done))))) (.alt 11 (.big 7 (.big 12 (.tk 13 (.tk 14 (.tk 15 .done))))) .stop))) (.alt 11 (.big 6 (.big 7 (.big 12 (.tk 13 (.tk 14 (.tk 15 .done)))))) .stop))) (.alt 6 (.any (.alt 3 (.any (.alt 7 (.big 11 (.big 12 (.tk 13 (.tk 14 (.tk 15 .done))))) (.alt 11 (.big 7 (.big 12 (.tk 13 (.tk 14 (.tk 15 .done))))) .stop))) (.alt 11 (.big 3 (.big 7 (.big 12 (.tk 13 (.tk 14 (.tk 15 .done)))))) .stop))) (.alt 11 (.any (.alt 3 (.big 6 (.big 7 (.big 12 (.tk 13 (.tk 14 (.tk 15 .done)))))) (.alt 6 (.big 3 (.big 7 (.big 12 (.tk 13 (.tk 14 (.tk 15 .done)))))) .stop))) .stop)))) (.alt 6 (.any (.alt 2 (.any (.alt 3 (.any (.alt 7 (.big 11 (.big 12 (.tk 13 (.tk 14 (.tk 15 .done))))) (.alt 11 (.big 7 (.big 12 (.tk 13 (.tk 14 (.tk 15 .done))))) .stop))) (.alt 11 (.big 3 (.big 7 (.big 12 (.tk 13 (.tk 14 (.tk 15 .done)))))) .stop))) (.alt 11 (.big 2 (.big 3 (.big 7 (.big 12 (.tk 13 (.tk 14 (.tk 15 .done))))))) .stop))) (.alt 11 (.any (.alt 2 (.any (.alt 3 (.big 6 (.big 7 (.big 12 (.tk 13 (.tk 14 (.tk 15 .done)))))) (.alt 6 (.big 3 (.big 7 (.big 12 (.tk 13 (.tk 14 (.tk 15 .done)))))) .stop))) (.alt 6 (.big 2 (.big 3 (.big 7 (.big 12 (.tk 13 (.tk 14 (.tk 15 .done))))))) .stop))) .stop))))))))))) mixed (by kernel_rfl) ?_
 refine tk rfl (PE.move rfl) rfl ?_
 refine tk rfl (PE.move rfl) rfl ?_
 refine tk rfl (PE.move rfl) rfl ?_
 refine tk rfl (PE.move rfl) rfl ?_
 refine tk rfl (PE.move rfl) rfl ?_
 refine tk rfl (PE.fieldAddr fo26_0 rfl) rfl ?_
 refine ld rfl rfl (lhA [_, _, _] ag23 rfl rfl rfl) rfl ?_
 refine sy_alt ?_ ?_
 refine bsl (out := [_]) rfl sl42 zl3 rfl rfl rfl rfl rfl rfl (fun b211 => ?_)
 refine bg (fun w hs => ⟨(lhA [_, _, _] ag23 rfl rfl rfl) w hs, trivial⟩) ?_
 refine sy_alt ?_ ?_
 refine apO (o1) rfl ap42 rfl rfl (rowsH (row := [.int .i64 r]) rfl) rfl rfl ((by simp only [irows, List.length_map, List.length_singleton]; have := hch.l1; omega)) rfl (fun o212 => ?_)
 refine bg (fun w hs => ⟨(lhA [_, _, _] ag23 rfl rfl rfl) w hs, trivial⟩) ?_
 refine sy_alt ?_ ?_
 refine bsl (out := [_]) rfl sl80 zl4 rfl rfl rfl rfl rfl rfl (fun b215 => ?_)
 refine bg (fun w hs => ⟨(lhA [_, _, _] ag23 rfl rfl rfl) w hs, trivial⟩) ?_
 refine sy_alt ?_ ?_
 refine apO (o2) rfl ap80 rfl rfl (rowsH (row := [.bool bad]) rfl) rfl rfl ((by simp only [brows, List.length_map, List.length_singleton]; have := hch.l2; omega)) rfl (fun o216 => ?_)
 refine bg (fun w hs => ⟨(lhA [_, _, _] ag23 rfl rfl rfl) w hs, trivial⟩) ?_
 refine bsl (out := [_, _, _]) rfl sl85 zl23 rfl rfl rfl rfl rfl rfl (fun b220 => ?_)
 refine bg (fun w hs => ⟨trivial, trivial⟩) ?_
 refine apO (o3) rfl ap85 rfl rfl (rowsH (row := srow (t.next s q bad)) rfl) rfl rfl ((by simp only [srows, List.length_map, List.length_singleton]; omega)) rfl (fun o221 => ?_)
 refine bg (fun w hs => trivial) ?_
 refine tk rfl (PE.assign rfl) rfl ?_
 refine tk rfl (PE.assign rfl) rfl ?_
 refine tk rfl (PE.assign rfl) rfl ?_
 exact sy_cutEnd (o212.cast (by simp [irows]), o216.cast (by simp [brows, brow]), o221.cast (by simp [srows])) (by repeat' first | exact Sub.nil | apply Sub.cons | rfl | (simp [lk]; omega)) (fun w h => ((h.del b211).del b215).del b220)
 refine sy_alt ?_ ?_
 refine bsl (out := [_, _, _]) rfl sl85 zl23 rfl rfl rfl rfl rfl rfl (fun b220 => ?_)
 refine bg (fun w hs => ⟨trivial, trivial⟩) ?_
 refine apO (o2) rfl ap80 rfl rfl (rowsH (row := [.bool bad]) rfl) rfl rfl ((by simp only [brows, List.length_map, List.length_singleton]; have := hch.l2; omega)) rfl (fun o216 => ?_)
 refine bg (fun w hs => trivial) ?_
 refine apO (o3) rfl ap85 rfl rfl (rowsH (row := srow (t.next s q bad)) rfl) rfl rfl ((by simp only [srows, List.length_map, List.length_singleton]; omega)) rfl (fun o221 => ?_)
 refine bg (fun w hs => trivial) ?_
 refine tk rfl (PE.assign rfl) rfl ?_
 refine tk rfl (PE.assign rfl) rfl ?_
 refine tk rfl (PE.assign rfl) rfl ?_
 exact sy_cutEnd (o212.cast (by simp [irows]), o216.cast (by simp [brows, brow]), o221.cast (by simp [srows])) (by repeat' first | exact Sub.nil | apply Sub.cons | rfl | (simp [lk]; omega)) (fun w h => ((h.del b211).del b215).del b220)
 exact sy_stop
 refine sy_alt ?_ ?_
 refine bsl (out := [_, _, _]) rfl sl85 zl23 rfl rfl rfl rfl rfl rfl (fun b220 => ?_)
 refine bg (fun w hs => ⟨trivial, trivial⟩) ?_
 refine bsl (out := [_]) rfl sl80 zl4 rfl rfl rfl rfl rfl rfl (fun b215 => ?_)
 refine bg (fun w hs => trivial) ?_
 refine apO (o2) rfl ap80 rfl rfl (rowsH (row := [.bool bad]) rfl) rfl rfl ((by simp only [brows, List.length_map, List.length_singleton]; have := hch.l2; omega)) rfl (fun o216 => ?_)
 refine bg (fun w hs => trivial) ?_
 refine apO (o3) rfl ap85 rfl rfl (rowsH (row := srow (t.next s q bad)) rfl) rfl rfl ((by simp only [srows, List.length_map, List.length_singleton]; omega)) rfl (fun o221 => ?_)
 refine bg (fun w hs => trivial) ?_
 refine tk rfl (PE.assign rfl) rfl ?_
 refine tk rfl (PE.assign rfl) rfl ?_
 refine tk rfl (PE.assign rfl) rfl ?_
 exact sy_cutEnd (o212.cast (by simp [irows]), o216.cast (by simp [brows, brow]), o221.cast (by simp [srows])) (by repeat' first | exact Sub.nil | apply Sub.cons | rfl | (simp [lk]; omega)) (fun w h => ((h.del b211).del b215).del b220)
 exact sy_stop
 refine sy_alt ?_ ?_
 refine bsl (out := [_]) rfl sl80 zl4 rfl rfl rfl rfl rfl rfl (fun b215 => ?_)
 refine bg (fun w hs => ⟨(lhA [_, _, _] ag23 rfl rfl rfl) w hs, trivial⟩) ?_
 refine sy_alt ?_ ?_
 refine apO (o1) rfl ap42 rfl rfl (rowsH (row := [.int .i64 r]) rfl) rfl rfl ((by simp only [irows, List.length_map, List.length_singleton]; have := hch.l1; omega)) rfl (fun o212 => ?_)
 refine bg (fun w hs => ⟨(lhA [_, _, _] ag23 rfl rfl rfl) w hs, trivial⟩) ?_
 refine sy_alt ?_ ?_
 refine apO (o2) rfl ap80 rfl rfl (rowsH (row := [.bool bad]) rfl) rfl rfl ((by simp only [brows, List.length_map, List.length_singleton]; have := hch.l2; omega)) rfl (fun o216 => ?_)
 refine bg (fun w hs => ⟨(lhA [_, _, _] ag23 rfl rfl rfl) w hs, trivial⟩) ?_
 refine bsl (out := [_, _, _]) rfl sl85 zl23 rfl rfl rfl rfl rfl rfl (fun b220 => ?_)
 refine bg (fun w hs => ⟨trivial, trivial⟩) ?_
 refine apO (o3) rfl ap85 rfl rfl (rowsH (row := srow (t.next s q bad)) rfl) rfl rfl ((by simp only [srows, List.length_map, List.length_singleton]; omega)) rfl (fun o221 => ?_)
 refine bg (fun w hs => trivial) ?_
 refine tk rfl (PE.assign rfl) rfl ?_
 refine tk rfl (PE.assign rfl) rfl ?_
 refine tk rfl (PE.assign rfl) rfl ?_
 exact sy_cutEnd (o212.cast (by simp [irows]), o216.cast (by simp [brows, brow]), o221.cast (by simp [srows])) (by repeat' first | exact Sub.nil | apply Sub.cons | rfl | (simp [lk]; omega)) (fun w h => ((h.del b211).del b215).del b220)
 refine sy_alt ?_ ?_
 refine bsl (out := [_, _, _]) rfl sl85 zl23 rfl rfl rfl rfl rfl rfl (fun b220 => ?_)
 refine bg (fun w hs => ⟨trivial, trivial⟩) ?_
 refine apO (o2) rfl ap80 rfl rfl (rowsH (row := [.bool bad]) rfl) rfl rfl ((by simp only [brows, List.length_map, List.length_singleton]; have := hch.l2; omega)) rfl (fun o216 => ?_)
 refine bg (fun w hs => trivial) ?_
 refine apO (o3) rfl ap85 rfl rfl (rowsH (row := srow (t.next s q bad)) rfl) rfl rfl ((by simp only [srows, List.length_map, List.length_singleton]; omega)) rfl (fun o221 => ?_)
 refine bg (fun w hs => trivial) ?_
 refine tk rfl (PE.assign rfl) rfl ?_
 refine tk rfl (PE.assign rfl) rfl ?_
 refine tk rfl (PE.assign rfl) rfl ?_
 exact sy_cutEnd (o212.cast (by simp [irows]), o216.cast (by simp [brows, brow]), o221.cast (by simp [srows])) (by repeat' first | exact Sub.nil | apply Sub.cons | rfl | (simp [lk]; omega)) (fun w h => ((h.del b211).del b215).del b220)
 exact sy_stop
 refine sy_alt ?_ ?_
 refine bsl (out := [_, _, _]) rfl sl85 zl23 rfl rfl rfl rfl rfl rfl (fun b220 => ?_)
 refine bg (fun w hs => ⟨trivial, trivial⟩) ?_
 refine apO (o1) rfl ap42 rfl rfl (rowsH (row := [.int .i64 r]) rfl) rfl rfl ((by simp only [irows, List.length_map, List.length_singleton]; have := hch.l1; omega)) rfl (fun o212 => ?_)
 refine bg (fun w hs => trivial) ?_
 refine apO (o2) rfl ap80 rfl rfl (rowsH (row := [.bool bad]) rfl) rfl rfl ((by simp only [brows, List.length_map, List.length_singleton]; have := hch.l2; omega)) rfl (fun o216 => ?_)
 refine bg (fun w hs => trivial) ?_
 refine apO (o3) rfl ap85 rfl rfl (rowsH (row := srow (t.next s q bad)) rfl) rfl rfl ((by simp only [srows, List.length_map, List.length_singleton]; omega)) rfl (fun o221 => ?_)
 refine bg (fun w hs => trivial) ?_
 refine tk rfl (PE.assign rfl) rfl ?_
 refine tk rfl (PE.assign rfl) rfl ?_
 refine tk rfl (PE.assign rfl) rfl ?_
 exact sy_cutEnd (o212.cast (by simp [irows]), o216.cast (by simp [brows, brow]), o221.cast (by simp [srows])) (by repeat' first | exact Sub.nil | apply Sub.cons | rfl | (simp [lk]; omega)) (fun w h => ((h.del b211).del b215).del b220)
 exact sy_stop
 refine sy_alt ?_ ?_
 refine bsl (out := [_, _, _]) rfl sl85 zl23 rfl rfl rfl rfl rfl rfl (fun b220 => ?_)
 refine bg (fun w hs => ⟨trivial, trivial⟩) ?_
 refine sy_alt ?_ ?_
 refine apO (o1) rfl ap42 rfl rfl (rowsH (row := [.int .i64 r]) rfl) rfl rfl ((by simp only [irows, List.length_map, List.length_singleton]; have := hch.l1; omega)) rfl (fun o212 => ?_)
 refine bg (fun w hs => trivial) ?_
 refine bsl (out := [_]) rfl sl80 zl4 rfl rfl rfl rfl rfl rfl (fun b215 => ?_)
 refine bg (fun w hs => trivial) ?_
 refine apO (o2) rfl ap80 rfl rfl (rowsH (row := [.bool bad]) rfl) rfl rfl ((by simp only [brows, List.length_map, List.length_singleton]; have := hch.l2; omega)) rfl (fun o216 => ?_)
 refine bg (fun w hs => trivial) ?_
 refine apO (o3) rfl ap85 rfl rfl (rowsH (row := srow (t.next s q bad)) rfl) rfl rfl ((by simp only [srows, List.length_map, List.length_singleton]; omega)) rfl (fun o221 => ?_)
 refine bg (fun w hs => trivial) ?_
 refine tk rfl (PE.assign rfl) rfl ?_
 refine tk rfl (PE.assign rfl) rfl ?_
 refine tk rfl (PE.assign rfl) rfl ?_
 exact sy_cutEnd (o212.cast (by simp [irows]), o216.cast (by simp [brows, brow]), o221.cast (by simp [srows])) (by repeat' first | exact Sub.nil | apply Sub.cons | rfl | (simp [lk]; omega)) (fun w h => ((h.del b211).del b215).del b220)
 refine sy_alt ?_ ?_
 refine bsl (out := [_]) rfl sl80 zl4 rfl rfl rfl rfl rfl rfl (fun b215 => ?_)
 refine bg (fun w hs => trivial) ?_
 refine apO (o1) rfl ap42 rfl rfl (rowsH (row := [.int .i64 r]) rfl) rfl rfl ((by simp only [irows, List.length_map, List.length_singleton]; have := hch.l1; omega)) rfl (fun o212 => ?_)
 refine bg (fun w hs => trivial) ?_
 refine apO (o2) rfl ap80 rfl rfl (rowsH (row := [.bool bad]) rfl) rfl rfl ((by simp only [brows, List.length_map, List.length_singleton]; have := hch.l2; omega)) rfl (fun o216 => ?_)
 refine bg (fun w hs => trivial) ?_
 refine apO (o3) rfl ap85 rfl rfl (rowsH (row := srow (t.next s q bad)) rfl) rfl rfl ((by simp only [srows, List.length_map, List.length_singleton]; omega)) rfl (fun o221 => ?_)
 refine bg (fun w hs => trivial) ?_
 refine tk rfl (PE.assign rfl) rfl ?_
 refine tk rfl (PE.assign rfl) rfl ?_
 refine tk rfl (PE.assign rfl) rfl ?_
 exact sy_cutEnd (o212.cast (by simp [irows]), o216.cast (by simp [brows, brow]), o221.cast (by simp [srows])) (by repeat' first | exact Sub.nil | apply Sub.cons | rfl | (simp [lk]; omega)) (fun w h => ((h.del b211).del b215).del b220)
 exact sy_stop
 exact sy_stop
 refine sy_alt ?_ ?_
 refine bsl (out := [_]) rfl sl80 zl4 rfl rfl rfl rfl rfl rfl (fun b215 => ?_)
 refine bg (fun w hs => ⟨(lhA [_, _, _] ag23 rfl rfl rfl) w hs, trivial⟩) ?_
 refine sy_alt ?_ ?_
 refine bsl (out := [_]) rfl sl42 zl3 rfl rfl rfl rfl rfl rfl (fun b211 => ?_)
 refine bg (fun w hs => ⟨(lhA [_, _, _] ag23 rfl rfl rfl) w hs, trivial⟩) ?_
 refine sy_alt ?_ ?_
 refine apO (o1) rfl ap42 rfl rfl (rowsH (row := [.int .i64 r]) rfl) rfl rfl ((by simp only [irows, List.length_map, List.length_singleton]; have := hch.l1; omega)) rfl (fun o212 => ?_)
 refine bg (fun w hs => ⟨(lhA [_, _, _] ag23 rfl rfl rfl) w hs, trivial⟩) ?_
 refine sy_alt ?_ ?_
 refine apO (o2) rfl ap80 rfl rfl (rowsH (row := [.bool bad]) rfl) rfl rfl ((by simp only [brows, List.length_map, List.length_singleton]; have := hch.l2; omega)) rfl (fun o216 => ?_)
 refine bg (fun w hs => ⟨(lhA [_, _, _] ag23 rfl rfl rfl) w hs, trivial⟩) ?_
 refine bsl (out := [_, _, _]) rfl sl85 zl23 rfl rfl rfl rfl rfl rfl (fun b220 => ?_)
 refine bg (fun w hs => ⟨trivial, trivial⟩) ?_
 refine apO (o3) rfl ap85 rfl rfl (rowsH (row := srow (t.next s q bad)) rfl) rfl rfl ((by simp only [srows, List.length_map, List.length_singleton]; omega)) rfl (fun o221 => ?_)
 refine bg (fun w hs => trivial) ?_
 refine tk rfl (PE.assign rfl) rfl ?_
 refine tk rfl (PE.assign rfl) rfl ?_
 refine tk rfl (PE.assign rfl) rfl ?_
 exact sy_cutEnd (o212.cast (by simp [irows]), o216.cast (by simp [brows, brow]), o221.cast (by simp [srows])) (by repeat' first | exact Sub.nil | apply Sub.cons | rfl | (simp [lk]; omega)) (fun w h => ((h.del b211).del b215).del b220)
 refine sy_alt ?_ ?_
 refine bsl (out := [_, _, _]) rfl sl85 zl23 rfl rfl rfl rfl rfl rfl (fun b220 => ?_)
 refine bg (fun w hs => ⟨trivial, trivial⟩) ?_
 refine apO (o2) rfl ap80 rfl rfl (rowsH (row := [.bool bad]) rfl) rfl rfl ((by simp only [brows, List.length_map, List.length_singleton]; have := hch.l2; omega)) rfl (fun o216 => ?_)
 refine bg (fun w hs => trivial) ?_
 refine apO (o3) rfl ap85 rfl rfl (rowsH (row := srow (t.next s q bad)) rfl) rfl rfl ((by simp only [srows, List.length_map, List.length_singleton]; omega)) rfl (fun o221 => ?_)
 refine bg (fun w hs => trivial) ?_
 refine tk rfl (PE.assign rfl) rfl ?_
 refine tk rfl (PE.assign rfl) rfl ?_
 refine tk rfl (PE.assign rfl) rfl ?_
 exact sy_cutEnd (o212.cast (by simp [irows]), o216.cast (by simp [brows, brow]), o221.cast (by simp [srows])) (by repeat' first | exact Sub.nil | apply Sub.cons | rfl | (simp [lk]; omega)) (fun w h => ((h.del b211).del b215).del b220)
 exact sy_stop
 refine sy_alt ?_ ?_
 refine bsl (out := [_, _, _]) rfl sl85 zl23 rfl rfl rfl rfl rfl rfl (fun b220 => ?_)
 refine bg (fun w hs => ⟨trivial, trivial⟩) ?_
 refine apO (o1) rfl ap42 rfl rfl (rowsH (row := [.int .i64 r]) rfl) rfl rfl ((by simp only [irows, List.length_map, List.length_singleton]; have := hch.l1; omega)) rfl (fun o212 => ?_)
 refine bg (fun w hs => trivial) ?_
 refine apO (o2) rfl ap80 rfl rfl (rowsH (row := [.bool bad]) rfl) rfl rfl ((by simp only [brows, List.length_map, List.length_singleton]; have := hch.l2; omega)) rfl (fun o216 => ?_)
 refine bg (fun w hs => trivial) ?_
 refine apO (o3) rfl ap85 rfl rfl (rowsH (row := srow (t.next s q bad)) rfl) rfl rfl ((by simp only [srows, List.length_map, List.length_singleton]; omega)) rfl (fun o221 => ?_)
 refine bg (fun w hs => trivial) ?_
 refine tk rfl (PE.assign rfl) rfl ?_
 refine tk rfl (PE.assign rfl) rfl ?_
 refine tk rfl (PE.assign rfl) rfl ?_
 exact sy_cutEnd (o212.cast (by simp [irows]), o216.cast (by simp [brows, brow]), o221.cast (by simp [srows])) (by repeat' first | exact Sub.nil | apply Sub.cons | rfl | (simp [lk]; omega)) (fun w h => ((h.del b211).del b215).del b220)
 exact sy_stop
 refine sy_alt ?_ ?_
 refine bsl (out := [_, _, _]) rfl sl85 zl23 rfl rfl rfl rfl rfl rfl (fun b220 => ?_)
 refine bg (fun w hs => ⟨trivial, trivial⟩) ?_
 refine bsl (out := [_]) rfl sl42 zl3 rfl rfl rfl rfl rfl rfl (fun b211 => ?_)
 refine bg (fun w hs => trivial) ?_
 refine apO (o1) rfl ap42 rfl rfl (rowsH (row := [.int .i64 r]) rfl) rfl rfl ((by simp only [irows, List.length_map, List.length_singleton]; have := hch.l1; omega)) rfl (fun o212 => ?_)
 refine bg (fun w hs => trivial) ?_
 refine apO (o2) rfl ap80 rfl rfl (rowsH (row := [.bool bad]) rfl) rfl rfl ((by simp only [brows, List.length_map, List.length_singleton]; have := hch.l2; omega)) rfl (fun o216 => ?_)
 refine bg (fun w hs => trivial) ?_
 refine apO (o3) rfl ap85 rfl rfl (rowsH (row := srow (t.next s q bad)) rfl) rfl rfl ((by simp only [srows, List.length_map, List.length_singleton]; omega)) rfl (fun o221 => ?_)
 refine bg (fun w hs => trivial) ?_
 refine tk rfl (PE.assign rfl) rfl ?_
 refine tk rfl (PE.assign rfl) rfl ?_
 refine tk rfl (PE.assign rfl) rfl ?_
 exact sy_cutEnd (o212.cast (by simp [irows]), o216.cast (by simp [brows, brow]), o221.cast (by simp [srows])) (by repeat' first | exact Sub.nil | apply Sub.cons | rfl | (simp [lk]; omega)) (fun w h => ((h.del b211).del b215).del b220)
 exact sy_stop
 refine sy_alt ?_ ?_
 refine bsl (out := [_, _, _]) rfl sl85 zl23 rfl rfl rfl rfl rfl rfl (fun b220 => ?_)
 refine bg (fun w hs => ⟨trivial, trivial⟩) ?_
 refine sy_alt ?_ ?_
 refine bsl (out := [_]) rfl sl42 zl3 rfl rfl rfl rfl rfl rfl (fun b211 => ?_)
 refine bg (fun w hs => trivial) ?_
 refine sy_alt ?_ ?_
 refine apO (o1) rfl ap42 rfl rfl (rowsH (row := [.int .i64 r]) rfl) rfl rfl ((by simp only [irows, List.length_map, List.length_singleton]; have := hch.l1; omega)) rfl (fun o212 => ?_)
 refine bg (fun w hs => trivial) ?_
 refine bsl (out := [_]) rfl sl80 zl4 rfl rfl rfl rfl rfl rfl (fun b215 => ?_)
 refine bg (fun w hs => trivial) ?_
 refine apO (o2) rfl ap80 rfl rfl (rowsH (row := [.bool bad]) rfl) rfl rfl ((by simp only [brows, List.length_map, List.length_singleton]; have := hch.l2; omega)) rfl (fun o216 => ?_)
 refine bg (fun w hs => trivial) ?_
 refine apO (o3) rfl ap85 rfl rfl (rowsH (row := srow (t.next s q bad)) rfl) rfl rfl ((by simp only [srows, List.length_map, List.length_singleton]; omega)) rfl (fun o221 => ?_)
 refine bg (fun w hs => trivial) ?_
 refine tk rfl (PE.assign rfl) rfl ?_
 refine tk rfl (PE.assign rfl) rfl ?_
 refine tk rfl (PE.assign rfl) rfl ?_
 exact sy_cutEnd (o212.cast (by simp [irows]), o216.cast (by simp [brows, brow]), o221.cast (by simp [srows])) (by repeat' first | exact Sub.nil | apply Sub.cons | rfl | (simp [lk]; omega)) (fun w h => ((h.del b211).del b215).del b220)
 refine sy_alt ?_ ?_
 refine bsl (out := [_]) rfl sl80 zl4 rfl rfl rfl rfl rfl rfl (fun b215 => ?_)
 refine bg (fun w hs => trivial) ?_
 refine apO (o1) rfl ap42 rfl rfl (rowsH (row := [.int .i64 r]) rfl) rfl rfl ((by simp only [irows, List.length_map, List.length_singleton]; have := hch.l1; omega)) rfl (fun o212 => ?_)
 refine bg (fun w hs => trivial) ?_
 refine apO (o2) rfl ap80 rfl rfl (rowsH (row := [.bool bad]) rfl) rfl rfl ((by simp only [brows, List.length_map, List.length_singleton]; have := hch.l2; omega)) rfl (fun o216 => ?_)
 refine bg (fun w hs => trivial) ?_
 refine apO (o3) rfl ap85 rfl rfl (rowsH (row := srow (t.next s q bad)) rfl) rfl rfl ((by simp only [srows, List.length_map, List.length_singleton]; omega)) rfl (fun o221 => ?_)
 refine bg (fun w hs => trivial) ?_
 refine tk rfl (PE.assign rfl) rfl ?_
 refine tk rfl (PE.assign rfl) rfl ?_
 refine tk rfl (PE.assign rfl) rfl ?_
 exact sy_cutEnd (o212.cast (by simp [irows]), o216.cast (by simp [brows, brow]), o221.cast (by simp [srows])) (by repeat' first | exact Sub.nil | apply Sub.cons | rfl | (simp [lk]; omega)) (fun w h => ((h.del b211).del b215).del b220)
 exact sy_stop
 refine sy_alt ?_ ?_
 refine bsl (out := [_]) rfl sl80 zl4 rfl rfl rfl rfl rfl rfl (fun b215 => ?_)
 refine bg (fun w hs => trivial) ?_
 refine bsl (out := [_]) rfl sl42 zl3 rfl rfl rfl rfl rfl rfl (fun b211 => ?_)
 refine bg (fun w hs => trivial) ?_
 refine apO (o1) rfl ap42 rfl rfl (rowsH (row := [.int .i64 r]) rfl) rfl rfl ((by simp only [irows, List.length_map, List.length_singleton]; have := hch.l1; omega)) rfl (fun o212 => ?_)
 refine bg (fun w hs => trivial) ?_
 refine apO (o2) rfl ap80 rfl rfl (rowsH (row := [.bool bad]) rfl) rfl rfl ((by simp only [brows, List.length_map, List.length_singleton]; have := hch.l2; omega)) rfl (fun o216 => ?_)
 refine bg (fun w hs => trivial) ?_
 refine apO (o3) rfl ap85 rfl rfl (rowsH (row := srow (t.next s q bad)) rfl) rfl rfl ((by simp only [srows, List.length_map, List.length_singleton]; omega)) rfl (fun o221 => ?_)
 refine bg (fun w hs => trivial) ?_
 refine tk rfl (PE.assign rfl) rfl ?_
 refine tk rfl (PE.assign rfl) rfl ?_
 refine tk rfl (PE.assign rfl) rfl ?_
 exact sy_cutEnd (o212.cast (by simp [irows]), o216.cast (by simp [brows, brow]), o221.cast (by simp [srows])) (by repeat' first | exact Sub.nil | apply Sub.cons | rfl | (simp [lk]; omega)) (fun w h => ((h.del b211).del b215).del b220)
 exact sy_stop
 exact sy_stop
 rintro ⟨o1, o2, o3⟩
 dsimp only
 refine sy_seq ?_
 refine sy_tx' [0, 1, 2, 3] rfl ?_
 refine spL rfl rfl (lhA [_, _, _, _, _, _, _, _, _, _, _] ag26 rfl rfl rfl) rfl ?_
 refine sp rfl (PE.move rfl) rfl ?_
 refine sto rfl rfl rfl cn26 rfl rfl rfl rfl ?_
 refine sp rfl (PE.assign rfl) rfl ?_
 refine sy_seq ?_
 refine sy_tx' [0, 1, 2, 3, 4] rfl ?_
 refine sp rfl (PE.move rfl) rfl ?_
 refine sp rfl (PE.move rfl) rfl ?_
 refine sy_case (t := 225) rfl (fun g225 => ?_) (fun g225 => ?_)
 refine spG rfl rfl rfl rfl (PE.move rfl) rfl ?_
 refine spG rfl rfl rfl rfl (PE.eql rfl rfl) rfl ?_
 refine sp rfl (PE.pick rfl rfl rfl) rfl ?_
 refine sy_cond rfl (fun hc10 => ?_) (fun hc10 => ?_)
 exact absurd hc10 (by rw [decide_eq_false (by have := hm3 g225; omega)]; simp)
 refine sy_skip ?_
 refine sy_tx' [0, 1] rfl ?_
 refine sp rfl (PE.add rfl rfl (by omega)) rfl ?_
 refine sp rfl (PE.move rfl) rfl ?_
 exact sy_next ⟨⟨(k + 1, t.next s q bad, rs ++ [(r : Int)], bs ++ [bad], ss ++ [t.next s q bad], tq2, mz2, by_, 0, cy), by omega, by simp [hsl], hch.more hnx hnr, by dsimp only; omega, by assumption⟩, o1, o2, o3⟩ (by dsimp only; omega) (by repeat' first | exact Sub.nil | apply Sub.cons | rfl | (simp [lk]; omega)) (fun w h => St.sub (h.del b23))
 repeat refine spN rfl rfl rfl rfl rfl rfl rfl rfl ?_
 refine sp rfl (PE.pick rfl rfl rfl) rfl ?_
 refine sy_condF rfl ?_
 refine sy_skip ?_
 refine sy_tx' [0, 1] rfl ?_
 refine sp rfl (PE.add rfl rfl (by omega)) rfl ?_
 refine sp rfl (PE.move rfl) rfl ?_
 exact sy_next ⟨⟨(k + 1, t.next s q bad, rs ++ [(r : Int)], bs ++ [bad], ss ++ [t.next s q bad], tq2, mz2, by_, 0, cy), by omega, by simp [hsl], hch.more hnx hnr, by dsimp only; omega, by assumption⟩, o1, o2, o3⟩ (by dsimp only; omega) (by repeat' first | exact Sub.nil | apply Sub.cons | rfl | (simp [lk]; omega)) (fun w h => St.sub (h.del b23))
 repeat refine tkN rfl rfl rfl rfl rfl rfl rfl rfl ?_
 refine tkG rfl rfl rfl rfl (PE.pick rfl rfl rfl) rfl ?_
 refine tk rfl (PE.pick rfl rfl rfl) rfl ?_
 refine sy_condF rfl ?_
 refine sy_skip ?_
 refine sy_seq ?_
 refine sy_cut (ι := OSl 3 1 (irows (rs ++ [(r : Int)])) × OSl 4 1 (brows (bs ++ [bad])) × OSl 23 3 (srows (ss ++ [t.next s q bad]))) (fun z => ⟨[(5, .pointer (some ⟨b5, 0, none⟩)), (6, .pointer (some ⟨bh, 0, none⟩)), (7, .int .i64 (lat (LY t) s)), (9, .pointer (some ⟨b9, 0, none⟩)), (10, z.1.fs), (11, z.2.1.fs), (12, z.2.2.fs), (40, .int .i64 k), (21, .int .i64 r), (22, .bool bad), (23, .pointer (some ⟨b23, 0, none⟩)), (24, .int .i64 (lat (LY t) (t.next s q bad)))], (b23, cel 26 (twl { t with now := t.next s q bad } (.slice (some ⟨by_, 0, none⟩) t.rats.length cy))) :: (bh, cel 168 [.slice ah h.length ch, .int .i64 (tq2), .int .u32 (mz2)]) :: (z.1.G ++ (z.2.1.G ++ (z.2.2.G ++ (b9, cel 26 (twl { t with now := s } (.slice (some ⟨bn, on, none⟩) t.rats.length cn))) :: (b5, cel 26 (twl { t with now := t.now } (.slice (some ⟨ba, oa, none⟩) t.rats.length ca))) :: H))), RowsA (some ⟨by_, 0, none⟩) 2 (rrows t.rats) :: RowsA (some ⟨bn, on, none⟩) 2 (rrows t.rats) :: RowsA (some ⟨ba, oa, none⟩) 2 (rrows t.rats) :: R⟩) ?_ ?_
 refine sy_draw [0, 0, 2, 7, 0, 0, 32, 127, 0, 0, 512, 1536, 4095, 8191, 16383, 32767] (.tk 0 (.tk 1 (.tk 4 (.tk 5 (.tk 8 (.tk 9 (.ld 10 (.any (.alt 2 (.any (.alt 3 (.any (.alt 6 (.any (.alt 7 (.big 11 (.big 12 (.tk 13 (.tk 14 (.tk 15 .done))))) (.alt 11 (.big 7 (.big 12 (.tk 13 (.tk 14 (.tk 15 .done))))) .stop))) (.alt 11 (.big 6 (.big 7 (.big 12 (.tk 13 (.tk 14 (.tk 15 .done)))))) .stop))) (.alt 6 (.any (.alt 3 (.any (.alt 7 (.big 11 (.big 12 (.tk 13 (.tk 14 (.tk 15 .done))))) (.alt 11 (.big 7 (.big 12 (.tk 13 (.tk 14 (.tk 15 .done))))) .stop))) (.alt 11 (.big 3 (.big 7 (.big 12 (.tk 13 (.tk 14 (.tk 15 .done)))))) .stop))) (.alt 11 (.any (.alt 3 (.big 6 (.big 7 (.big 12 (.tk 13 (.tk 14 (.tk 15 .done)))))) (.alt 6 (.big 3 (.big 7 (.big 12 (.tk 13 (.tk 14 (.tk 15 .done)))))) .stop))) .stop)))) (.alt 6 (.any (.alt 2 (.any (.alt 3 (.any (.alt 7 (.big 11 (.big 12 (.tk 13 (.tk 14 (.tk 15 .done))))) (.alt 11 (.big 7 (.big 12 (.tk 13 (.tk 14 (.tk 15 .done))))) .stop))) (.alt 11 (.big 3 (.big 7 (.big 12 (.tk 13 (.tk 14 (.tk 15 .done)))))) .stop))) (.alt 11 (.big 2 (.big 3 (.big 7 (.big 12 (.tk 13 (.tk 14 (.tk 15 .done))))))) .stop))) (.alt 11 (.any (.alt 2 (.any (.alt 3 (.big 6 (.big 7 (.big 12 (.tk 13 (.tk 14 (.tk 15 .done)))))) (.alt 6 (.big 3 (.big 7 (.big 12 (.tk 13 (.tk 14 (.tk 15 .done)))))) .stop))) (.alt 6 (.big 2 (.big 3 (.big 7 (.big 12 (.tk 13 (.tk 14 (.tk 15 .done))))))) .stop))) .stop))))))))))) mixed (by kernel_rfl) ?_
 refine tk rfl (PE.move rfl) rfl ?_
 refine tk rfl (PE.move rfl) rfl ?_
 refine tk rfl (PE.move rfl) rfl ?_
 refine tk rfl (PE.move rfl) rfl ?_
 refine tk rfl (PE.move rfl) rfl ?_
 refine tk rfl (PE.fieldAddr fo26_0 rfl) rfl ?_
 refine ld rfl rfl (lhA [_, _, _] ag23 rfl rfl rfl) rfl ?_
 refine sy_alt ?_ ?_
 refine bsl (out := [_]) rfl sl42 zl3 rfl rfl rfl rfl rfl rfl (fun b211 => ?_)
 refine bg (fun w hs => ⟨(lhA [_, _, _] ag23 rfl rfl rfl) w hs, trivial⟩) ?_
 refine sy_alt ?_ ?_
 refine apO (o1) rfl ap42 rfl rfl (rowsH (row := [.int .i64 r]) rfl) rfl rfl ((by simp only [irows, List.length_map, List.length_singleton]; have := hch.l1; omega)) rfl (fun o212 => ?_)
 refine bg (fun w hs => ⟨(lhA [_, _, _] ag23 rfl rfl rfl) w hs, trivial⟩) ?_
 refine sy_alt ?_ ?_
 refine bsl (out := [_]) rfl sl80 zl4 rfl rfl rfl rfl rfl rfl (fun b215 => ?_)
 refine bg (fun w hs => ⟨(lhA [_, _, _] ag23 rfl rfl rfl) w hs, trivial⟩) ?_
 refine sy_alt ?_ ?_
 refine apO (o2) rfl ap80 rfl rfl (rowsH (row := [.bool bad]) rfl) rfl rfl ((by simp only [brows, List.length_map, List.length_singleton]; have := hch.l2; omega)) rfl (fun o216 => ?_)
 refine bg (fun w hs => ⟨(lhA [_, _, _] ag23 rfl rfl rfl) w hs, trivial⟩) ?_
 refine bsl (out := [_, _, _]) rfl sl85 zl23 rfl rfl rfl rfl rfl rfl (fun b220 => ?_)
 refine bg (fun w hs => ⟨trivial, trivial⟩) ?_
 refine apO (o3) rfl ap85 rfl rfl (rowsH (row := srow (t.next s q bad)) rfl) rfl rfl ((by simp only [srows, List.length_map, List.length_singleton]; omega)) rfl (fun o221 => ?_)
 refine bg (fun w hs => trivial) ?_
 refine tk rfl (PE.assign rfl) rfl ?_
 refine tk rfl (PE.assign rfl) rfl ?_
 refine tk rfl (PE.assign rfl) rfl ?_
 exact sy_cutEnd (o212.cast (by simp [irows]), o216.cast (by simp [brows, brow]), o221.cast (by simp [srows])) (by repeat' first | exact Sub.nil | apply Sub.cons | rfl | (simp [lk]; omega)) (fun w h => ((h.del b211).del b215).del b220)
 refine sy_alt ?_ ?_
 refine bsl (out := [_, _, _]) rfl sl85 zl23 rfl rfl rfl rfl rfl rfl (fun b220 => ?_)
 refine bg (fun w hs => ⟨trivial, trivial⟩) ?_
 refine apO (o2) rfl ap80 rfl rfl (rowsH (row := [.bool bad]) rfl) rfl rfl ((by simp only [brows, List.length_map, List.length_singleton]; have := hch.l2; omega)) rfl (fun o216 => ?_)
 refine bg (fun w hs => trivial) ?_
 refine apO (o3) rfl ap85 rfl rfl (rowsH (row := srow (t.next s q bad)) rfl) rfl rfl ((by simp only [srows, List.length_map, List.length_singleton]; omega)) rfl (fun o221 => ?_)
 refine bg (fun w hs => trivial) ?_
 refine tk rfl (PE.assign rfl) rfl ?_
 refine tk rfl (PE.assign rfl) rfl ?_
 refine tk rfl (PE.assign rfl) rfl ?_
 exact sy_cutEnd (o212.cast (by simp [irows]), o216.cast (by simp [brows, brow]), o221.cast (by simp [srows])) (by repeat' first | exact Sub.nil | apply Sub.cons | rfl | (simp [lk]; omega)) (fun w h => ((h.del b211).del b215).del b220)
 exact sy_stop
 refine sy_alt ?_ ?_
 refine bsl (out := [_, _, _]) rfl sl85 zl23 rfl rfl rfl rfl rfl rfl (fun b220 => ?_)
 refine bg (fun w hs => ⟨trivial, trivial⟩) ?_
 refine bsl (out := [_]) rfl sl80 zl4 rfl rfl rfl rfl rfl rfl (fun b215 => ?_)
 refine bg (fun w hs => trivial) ?_
 refine apO (o2) rfl ap80 rfl rfl (rowsH (row := [.bool bad]) rfl) rfl rfl ((by simp only [brows, List.length_map, List.length_singleton]; have := hch.l2; omega)) rfl (fun o216 => ?_)
 refine bg (fun w hs => trivial) ?_
 refine apO (o3) rfl ap85 rfl rfl (rowsH (row := srow (t.next s q bad)) rfl) rfl rfl ((by simp only [srows, List.length_map, List.length_singleton]; omega)) rfl (fun o221 => ?_)
 refine bg (fun w hs => trivial) ?_
 refine tk rfl (PE.assign rfl) rfl ?_
 refine tk rfl (PE.assign rfl) rfl ?_
 refine tk rfl (PE.assign rfl) rfl ?_
 exact sy_cutEnd (o212.cast (by simp [irows]), o216.cast (by simp [brows, brow]), o221.cast (by simp [srows])) (by repeat' first | exact Sub.nil | apply Sub.cons | rfl | (simp [lk]; omega)) (fun w h => ((h.del b211).del b215).del b220)
 exact sy_stop
 refine sy_alt ?_ ?_
 refine bsl (out := [_]) rfl sl80 zl4 rfl rfl rfl rfl rfl rfl (fun b215 => ?_)
 refine bg (fun w hs => ⟨(lhA [_, _, _] ag23 rfl rfl rfl) w hs, trivial⟩) ?_
 refine sy_alt ?_ ?_
 refine apO (o1) rfl ap42 rfl rfl (rowsH (row := [.int .i64 r]) rfl) rfl rfl ((by simp only [irows, List.length_map, List.length_singleton]; have := hch.l1; omega)) rfl (fun o212 => ?_)
 refine bg (fun w hs => ⟨(lhA [_, _, _] ag23 rfl rfl rfl) w hs, trivial⟩) ?_
 refine sy_alt ?_ ?_
 refine apO (o2) rfl ap80 rfl rfl (rowsH (row := [.bool bad]) rfl) rfl rfl ((by simp only [brows, List.length_map, List.length_singleton]; have := hch.l2; omega)) rfl (fun o216 => ?_)
 refine bg (fun w hs => ⟨(lhA [_, _, _] ag23 rfl rfl rfl) w hs, trivial⟩) ?_
 refine bsl (out := [_, _, _]) rfl sl85 zl23 rfl rfl rfl rfl rfl rfl (fun b220 => ?_)
 refine bg (fun w hs => ⟨trivial, trivial⟩) ?_
 refine apO (o3) rfl ap85 rfl rfl (rowsH (row := srow (t.next s q bad)) rfl) rfl rfl ((by simp only [srows, List.length_map, List.length_singleton]; omega)) rfl (fun o221 => ?_)
 refine bg (fun w hs => trivial) ?_
 refine tk rfl (PE.assign rfl) rfl ?_
 refine tk rfl (PE.assign rfl) rfl ?_
 refine tk rfl (PE.assign rfl) rfl ?_
 exact sy_cutEnd (o212.cast (by simp [irows]), o216.cast (by simp [brows, brow]), o221.cast (by simp [srows])) (by repeat' first | exact Sub.nil | apply Sub.cons | rfl | (simp [lk]; omega)) (fun w h => ((h.del b211).del b215).del b220)
 refine sy_alt ?_ ?_
 refine bsl (out := [_, _, _]) rfl sl85 zl23 rfl rfl rfl rfl rfl rfl (fun b220 => ?_)
 refine bg (fun w hs => ⟨trivial, trivial⟩) ?_
 refine apO (o2) rfl ap80 rfl rfl (rowsH (row := [.bool bad]) rfl) rfl rfl ((by simp only [brows, List.length_map, List.length_singleton]; have := hch.l2; omega)) rfl (fun o216 => ?_)
 refine bg (fun w hs => trivial) ?_
 refine apO (o3) rfl ap85 rfl rfl (rowsH (row := srow (t.next s q bad)) rfl) rfl rfl ((by simp only [srows, List.length_map, List.length_singleton]; omega)) rfl (fun o221 => ?_)
 refine bg (fun w hs => trivial) ?_
 refine tk rfl (PE.assign rfl) rfl ?_
 refine tk rfl (PE.assign rfl) rfl ?_
 refine tk rfl (PE.assign rfl) rfl ?_
 exact sy_cutEnd (o212.cast (by simp [irows]), o216.cast (by simp [brows, brow]), o221.cast (by simp [srows])) (by repeat' first | exact Sub.nil | apply Sub.cons | rfl | (simp [lk]; omega)) (fun w h => ((h.del b211).del b215).del b220)
 exact sy_stop
 refine sy_alt ?_ ?_
 refine bsl (out := [_, _, _]) rfl sl85 zl23 rfl rfl rfl rfl rfl rfl (fun b220 => ?_)
 refine bg (fun w hs => ⟨trivial, trivial⟩) ?_
 refine apO (o1) rfl ap42 rfl rfl (rowsH (row := [.int .i64 r]) rfl) rfl rfl ((by simp only [irows, List.length_map, List.length_singleton]; have := hch.l1; omega)) rfl (fun o212 => ?_)
 refine bg (fun w hs => trivial) ?_
 refine apO (o2) rfl ap80 rfl rfl (rowsH (row := [.bool bad]) rfl) rfl rfl ((by simp only [brows, List.length_map, List.length_singleton]; have := hch.l2; omega)) rfl (fun o216 => ?_)
 refine bg (fun w hs => trivial) ?_
 refine apO (o3) rfl ap85 rfl rfl (rowsH (row := srow (t.next s q bad)) rfl) rfl rfl ((by simp only [srows, List.length_map, List.length_singleton]; omega)) rfl (fun o221 => ?_)
 refine bg (fun w hs => trivial) ?_
 refine tk rfl (PE.assign rfl) rfl ?_
 refine tk rfl (PE.assign rfl) rfl ?_
 refine tk rfl (PE.assign rfl) rfl ?_
 exact sy_cutEnd (o212.cast (by simp [irows]), o216.cast (by simp [brows, brow]), o221.cast (by simp [srows])) (by repeat' first | exact Sub.nil | apply Sub.cons | rfl | (simp [lk]; omega)) (fun w h => ((h.del b211).del b215).del b220)
 exact sy_stop
 refine sy_alt ?_ ?_
 refine bsl (out := [_, _, _]) rfl sl85 zl23 rfl rfl rfl rfl rfl rfl (fun b220 => ?_)
 refine bg (fun w hs => ⟨trivial, trivial⟩) ?_
 refine sy_alt ?_ ?_
 refine apO (o1) rfl ap42 rfl rfl (rowsH (row := [.int .i64 r]) rfl) rfl rfl ((by simp only [irows, List.length_map, List.length_singleton]; have := hch.l1; omega)) rfl (fun o212 => ?_)
 refine bg (fun w hs => trivial) ?_
 refine bsl (out := [_]) rfl sl80 zl4 rfl rfl rfl rfl rfl rfl (fun b215 => ?_)
 refine bg (fun w hs => trivial) ?_
 refine apO (o2) rfl ap80 rfl rfl (rowsH (row := [.bool bad]) rfl) rfl rfl ((by simp only [brows, List.length_map, List.length_singleton]; have := hch.l2; omega)) rfl (fun o216 => ?_)
 refine bg (fun w hs => trivial) ?_
 refine apO (o3) rfl ap85 rfl rfl (rowsH (row := srow (t.next s q bad)) rfl) rfl rfl ((by simp only [srows, List.length_map, List.length_singleton]; omega)) rfl (fun o221 => ?_)
 refine bg (fun w hs => trivial) ?_
 refine tk rfl (PE.assign rfl) rfl ?_
 refine tk rfl (PE.assign rfl) rfl ?_
 refine tk rfl (PE.assign rfl) rfl ?_
 exact sy_cutEnd (o212.cast (by simp [irows]), o216.cast (by simp [brows, brow]), o221.cast (by simp [srows])) (by repeat' first | exact Sub.nil | apply Sub.cons | rfl | (simp [lk]; omega)) (fun w h => ((h.del b211).del b215).del b220)
 refine sy_alt ?_ ?_
 refine bsl (out := [_]) rfl sl80 zl4 rfl rfl rfl rfl rfl rfl (fun b215 => ?_)
 refine bg (fun w hs => trivial) ?_
 refine apO (o1) rfl ap42 rfl rfl (rowsH (row := [.int .i64 r]) rfl) rfl rfl ((by simp only [irows, List.length_map, List.length_singleton]; have := hch.l1; omega)) rfl (fun o212 => ?_)
 refine bg (fun w hs => trivial) ?_
 refine apO (o2) rfl ap80 rfl rfl (rowsH (row := [.bool bad]) rfl) rfl rfl ((by simp only [brows, List.length_map, List.length_singleton]; have := hch.l2; omega)) rfl (fun o216 => ?_)
 refine bg (fun w hs => trivial) ?_
 refine apO (o3) rfl ap85 rfl rfl (rowsH (row := srow (t.next s q bad)) rfl) rfl rfl ((by simp only [srows, List.length_map, List.length_singleton]; omega)) rfl (fun o221 => ?_)
 refine bg (fun w hs => trivial) ?_
 refine tk rfl (PE.assign rfl) rfl ?_
 refine tk rfl (PE.assign rfl) rfl ?_
 refine tk rfl (PE.assign rfl) rfl ?_
 exact sy_cutEnd (o212.cast (by simp [irows]), o216.cast (by simp [brows, brow]), o221.cast (by simp [srows])) (by repeat' first | exact Sub.nil | apply Sub.cons | rfl | (simp [lk]; omega)) (fun w h => ((h.del b211).del b215).del b220)
 exact sy_stop
 exact sy_stop
 refine sy_alt ?_ ?_
 refine bsl (out := [_]) rfl sl80 zl4 rfl rfl rfl rfl rfl rfl (fun b215 => ?_)
 refine bg (fun w hs => ⟨(lhA [_, _, _] ag23 rfl rfl rfl) w hs, trivial⟩) ?_
 refine sy_alt ?_ ?_
 refine bsl (out := [_]) rfl sl42 zl3 rfl rfl rfl rfl rfl rfl (fun b211 => ?_)
 refine bg (fun w hs => ⟨(lhA [_, _, _] ag23 rfl rfl rfl) w hs, trivial⟩) ?_
 refine sy_alt ?_ ?_
 refine apO (o1) rfl ap42 rfl rfl (rowsH (row := [.int .i64 r]) rfl) rfl rfl ((by simp only [irows, List.length_map, List.length_singleton]; have := hch.l1; omega)) rfl (fun o212 => ?_)
 refine bg (fun w hs => ⟨(lhA [_, _, _] ag23 rfl rfl rfl) w hs, trivial⟩) ?_
 refine sy_alt ?_ ?_
 refine apO (o2) rfl ap80 rfl rfl (rowsH (row := [.bool bad]) rfl) rfl rfl ((by simp only [brows, List.length_map, List.length_singleton]; have := hch.l2; omega)) rfl (fun o216 => ?_)
 refine bg (fun w hs => ⟨(lhA [_, _, _] ag23 rfl rfl rfl) w hs, trivial⟩) ?_
 refine bsl (out := [_, _, _]) rfl sl85 zl23 rfl rfl rfl rfl rfl rfl (fun b220 => ?_)
 refine bg (fun w hs => ⟨trivial, trivial⟩) ?_
 refine apO (o3) rfl ap85 rfl rfl (rowsH (row := srow (t.next s q bad)) rfl) rfl rfl ((by simp only [srows, List.length_map, List.length_singleton]; omega)) rfl (fun o221 => ?_)
 refine bg (fun w hs => trivial) ?_
 refine tk rfl (PE.assign rfl) rfl ?_
 refine tk rfl (PE.assign rfl) rfl ?_
 refine tk rfl (PE.assign rfl) rfl ?_
 exact sy_cutEnd (o212.cast (by simp [irows]), o216.cast (by simp [brows, brow]), o221.cast (by simp [srows])) (by repeat' first | exact Sub.nil | apply Sub.cons | rfl | (simp [lk]; omega)) (fun w h => ((h.del b211).del b215).del b220)
 refine sy_alt ?_ ?_
 refine bsl (out := [_, _, _]) rfl sl85 zl23 rfl rfl rfl rfl rfl rfl (fun b220 => ?_)
 refine bg (fun w hs => ⟨trivial, trivial⟩) ?_
 refine apO (o2) rfl ap80 rfl rfl (rowsH (row := [.bool bad]) rfl) rfl rfl ((by simp only [brows, List.length_map, List.length_singleton]; have := hch.l2; omega)) rfl (fun o216 => ?_)
 refine bg (fun w hs => trivial) ?_
 refine apO (o3) rfl ap85 rfl rfl (rowsH (row := srow (t.next s q bad)) rfl) rfl rfl ((by simp only [srows, List.length_map, List.length_singleton]; omega)) rfl (fun o221 => ?_)
 refine bg (fun w hs => trivial) ?_
 refine tk rfl (PE.assign rfl) rfl ?_
 refine tk rfl (PE.assign rfl) rfl ?_
 refine tk rfl (PE.assign rfl) rfl ?_
 exact sy_cutEnd (o212.cast (by simp [irows]), o216.cast (by simp [brows, brow]), o221.cast (by simp [srows])) (by repeat' first | exact Sub.nil | apply Sub.cons | rfl | (simp [lk]; omega)) (fun w h => ((h.del b211).del b215).del b220)
 exact sy_stop
 refine sy_alt ?_ ?_
 refine bsl (out := [_, _, _]) rfl sl85 zl23 rfl rfl rfl rfl rfl rfl (fun b220 => ?_)
 refine bg (fun w hs => ⟨trivial, trivial⟩) ?_
 refine apO (o1) rfl ap42 rfl rfl (rowsH (row := [.int .i64 r]) rfl) rfl rfl ((by simp only [irows, List.length_map, List.length_singleton]; have := hch.l1; omega)) rfl (fun o212 => ?_)
 refine bg (fun w hs => trivial) ?_
 refine apO (o2) rfl ap80 rfl rfl (rowsH (row := [.bool bad]) rfl) rfl rfl ((by simp only [brows, List.length_map, List.length_singleton]; have := hch.l2; omega)) rfl (fun o216 => ?_)
 refine bg (fun w hs => trivial) ?_
 refine apO (o3) rfl ap85 rfl rfl (rowsH (row := srow (t.next s q bad)) rfl) rfl rfl ((by simp only [srows, List.length_map, List.length_singleton]; omega)) rfl (fun o221 => ?_)
 refine bg (fun w hs => trivial) ?_
 refine tk rfl (PE.assign rfl) rfl ?_
 refine tk rfl (PE.assign rfl) rfl ?_
 refine tk rfl (PE.assign rfl) rfl ?_
 exact sy_cutEnd (o212.cast (by simp [irows]), o216.cast (by simp [brows, brow]), o221.cast (by simp [srows])) (by repeat' first | exact Sub.nil | apply Sub.cons | rfl | (simp [lk]; omega)) (fun w h => ((h.del b211).del b215).del b220)
 exact sy_stop
 refine sy_alt ?_ ?_
 refine bsl (out := [_, _, _]) rfl sl85 zl23 rfl rfl rfl rfl rfl rfl (fun b220 => ?_)
 refine bg (fun w hs => ⟨trivial, trivial⟩) ?_
 refine bsl (out := [_]) rfl sl42 zl3 rfl rfl rfl rfl rfl rfl (fun b211 => ?_)
 refine bg (fun w hs => trivial) ?_
 refine apO (o1) rfl ap42 rfl rfl (rowsH (row := [.int .i64 r]) rfl) rfl rfl ((by simp only [irows, List.length_map, List.length_singleton]; have := hch.l1; omega)) rfl (fun o212 => ?_)
 refine bg (fun w hs => trivial) ?_
 refine apO (o2) rfl ap80 rfl rfl (rowsH (row := [.bool bad]) rfl) rfl rfl ((by simp only [brows, List.length_map, List.length_singleton]; have := hch.l2; omega)) rfl (fun o216 => ?_)
 refine bg (fun w hs => trivial) ?_
 refine apO (o3) rfl ap85 rfl rfl (rowsH (row := srow (t.next s q bad)) rfl) rfl rfl ((by simp only [srows, List.length_map, List.length_singleton]; omega)) rfl (fun o221 => ?_)
 refine bg (fun w hs => trivial) ?_
 refine tk rfl (PE.assign rfl) rfl ?_
 refine tk rfl (PE.assign rfl) rfl ?_
 refine tk rfl (PE.assign rfl) rfl ?_
 exact sy_cutEnd (o212.cast (by simp [irows]), o216.cast (by simp [brows, brow]), o221.cast (by simp [srows])) (by repeat' first | exact Sub.nil | apply Sub.cons | rfl | (simp [lk]; omega)) (fun w h => ((h.del b211).del b215).del b220)
 exact sy_stop
 refine sy_alt ?_ ?_
 refine bsl (out := [_, _, _]) rfl sl85 zl23 rfl rfl rfl rfl rfl rfl (fun b220 => ?_)
 refine bg (fun w hs => ⟨trivial, trivial⟩) ?_
 refine sy_alt ?_ ?_
 refine bsl (out := [_]) rfl sl42 zl3 rfl rfl rfl rfl rfl rfl (fun b211 => ?_)
 refine bg (fun w hs => trivial) ?_
 refine sy_alt ?_ ?_
 refine apO (o1) rfl ap42 rfl rfl (rowsH (row := [.int .i64 r]) rfl) rfl rfl ((by simp only [irows, List.length_map, List.length_singleton]; have := hch.l1; omega)) rfl (fun o212 => ?_)
 refine bg (fun w hs => trivial) ?_
 refine bsl (out := [_]) rfl sl80 zl4 rfl rfl rfl rfl rfl rfl (fun b215 => ?_)
 refine bg (fun w hs => trivial) ?_
 refine apO (o2) rfl ap80 rfl rfl (rowsH (row := [.bool bad]) rfl) rfl rfl ((by simp only [brows, List.length_map, List.length_singleton]; have := hch.l2; omega)) rfl (fun o216 => ?_)
 refine bg (fun w hs => trivial) ?_
 refine apO (o3) rfl ap85 rfl rfl (rowsH (row := srow (t.next s q bad)) rfl) rfl rfl ((by simp only [srows, List.length_map, List.length_singleton]; omega)) rfl (fun o221 => ?_)
 refine bg (fun w hs => trivial) ?_
 refine tk rfl (PE.assign rfl) rfl ?_
 refine tk rfl (PE.assign rfl) rfl ?_
 refine tk rfl (PE.assign rfl) rfl ?_
 exact sy_cutEnd (o212.cast (by simp [irows]), o216.cast (by simp [brows, brow]), o221.cast (by simp [srows])) (by repeat' first | exact Sub.nil | apply Sub.cons | rfl | (simp [lk]; omega)) (fun w h => ((h.del b211).del b215).del b220)
 refine sy_alt ?_ ?_
 refine bsl (out := [_]) rfl sl80 zl4 rfl rfl rfl rfl rfl rfl (fun b215 => ?_)
 refine bg (fun w hs => trivial) ?_
 refine apO (o1) rfl ap42 rfl rfl (rowsH (row := [.int .i64 r]) rfl) rfl rfl ((by simp only [irows, List.length_map, List.length_singleton]; have := hch.l1; omega)) rfl (fun o212 => ?_)
 refine bg (fun w hs => trivial) ?_
 refine apO (o2) rfl ap80 rfl rfl (rowsH (row := [.bool bad]) rfl) rfl rfl ((by simp only [brows, List.length_map, List.length_singleton]; have := hch.l2; omega)) rfl (fun o216 => ?_)
 refine bg (fun w hs => trivial) ?_
 refine apO (o3) rfl ap85 rfl rfl (rowsH (row := srow (t.next s q bad)) rfl) rfl rfl ((by simp only [srows, List.length_map, List.length_singleton]; omega)) rfl (fun o221 => ?_)
 refine bg (fun w hs => trivial) ?_
 refine tk rfl (PE.assign rfl) rfl ?_
 refine tk rfl (PE.assign rfl) rfl ?_
 refine tk rfl (PE.assign rfl) rfl ?_
 exact sy_cutEnd (o212.cast (by simp [irows]), o216.cast (by simp [brows, brow]), o221.cast (by simp [srows])) (by repeat' first | exact Sub.nil | apply Sub.cons | rfl | (simp [lk]; omega)) (fun w h => ((h.del b211).del b215).del b220)
 exact sy_stop
 refine sy_alt ?_ ?_
 refine bsl (out := [_]) rfl sl80 zl4 rfl rfl rfl rfl rfl rfl (fun b215 => ?_)
 refine bg (fun w hs => trivial) ?_
 refine bsl (out := [_]) rfl sl42 zl3 rfl rfl rfl rfl rfl rfl (fun b211 => ?_)
 refine bg (fun w hs => trivial) ?_
 refine apO (o1) rfl ap42 rfl rfl (rowsH (row := [.int .i64 r]) rfl) rfl rfl ((by simp only [irows, List.length_map, List.length_singleton]; have := hch.l1; omega)) rfl (fun o212 => ?_)
 refine bg (fun w hs => trivial) ?_
 refine apO (o2) rfl ap80 rfl rfl (rowsH (row := [.bool bad]) rfl) rfl rfl ((by simp only [brows, List.length_map, List.length_singleton]; have := hch.l2; omega)) rfl (fun o216 => ?_)
 refine bg (fun w hs => trivial) ?_
 refine apO (o3) rfl ap85 rfl rfl (rowsH (row := srow (t.next s q bad)) rfl) rfl rfl ((by simp only [srows, List.length_map, List.length_singleton]; omega)) rfl (fun o221 => ?_)
 refine bg (fun w hs => trivial) ?_
 refine tk rfl (PE.assign rfl) rfl ?_
 refine tk rfl (PE.assign rfl) rfl ?_
 refine tk rfl (PE.assign rfl) rfl ?_
 exact sy_cutEnd (o212.cast (by simp [irows]), o216.cast (by simp [brows, brow]), o221.cast (by simp [srows])) (by repeat' first | exact Sub.nil | apply Sub.cons | rfl | (simp [lk]; omega)) (fun w h => ((h.del b211).del b215).del b220)
 exact sy_stop
 exact sy_stop
 rintro ⟨o1, o2, o3⟩
 dsimp only
 refine sy_seq ?_
 refine sy_tx' [0, 1, 2, 3] rfl ?_
 refine spL rfl rfl (lhA [_, _, _, _, _, _, _, _, _, _, _] ag26 rfl rfl rfl) rfl ?_
 refine sp rfl (PE.move rfl) rfl ?_
 refine sto rfl rfl rfl cn26 rfl rfl rfl rfl ?_
 refine sp rfl (PE.assign rfl) rfl ?_
 refine sy_seq ?_
 refine sy_tx' [0, 1, 2, 3, 4] rfl ?_
 refine sp rfl (PE.move rfl) rfl ?_
 refine sp rfl (PE.move rfl) rfl ?_
 refine sy_case (t := 225) rfl (fun g225 => ?_) (fun g225 => ?_)
 refine spG rfl rfl rfl rfl (PE.move rfl) rfl ?_
 refine spG rfl rfl rfl rfl (PE.eql rfl rfl) rfl ?_
 refine sp rfl (PE.pick rfl rfl rfl) rfl ?_
 refine sy_cond rfl (fun hc10 => ?_) (fun hc10 => ?_)
 exact absurd hc10 (by rw [decide_eq_false (by have := hm3 g225; omega)]; simp)
 refine sy_skip ?_
 refine sy_tx' [0, 1] rfl ?_
 refine sp rfl (PE.add rfl rfl (by omega)) rfl ?_
 refine sp rfl (PE.move rfl) rfl ?_
 exact sy_next ⟨⟨(k + 1, t.next s q bad, rs ++ [(r : Int)], bs ++ [bad], ss ++ [t.next s q bad], tq2, mz2, by_, 0, cy), by omega, by simp [hsl], hch.more hnx hnr, by dsimp only; omega, by assumption⟩, o1, o2, o3⟩ (by dsimp only; omega) (by repeat' first | exact Sub.nil | apply Sub.cons | rfl | (simp [lk]; omega)) (fun w h => St.sub (h.del b23))
 repeat refine spN rfl rfl rfl rfl rfl rfl rfl rfl ?_
 refine sp rfl (PE.pick rfl rfl rfl) rfl ?_
 refine sy_condF rfl ?_
 refine sy_skip ?_
 refine sy_tx' [0, 1] rfl ?_
 refine sp rfl (PE.add rfl rfl (by omega)) rfl ?_
 refine sp rfl (PE.move rfl) rfl ?_
 exact sy_next ⟨⟨(k + 1, t.next s q bad, rs ++ [(r : Int)], bs ++ [bad], ss ++ [t.next s q bad], tq2, mz2, by_, 0, cy), by omega, by simp [hsl], hch.more hnx hnr, by dsimp only; omega, by assumption⟩, o1, o2, o3⟩ (by dsimp only; omega) (by repeat' first | exact Sub.nil | apply Sub.cons | rfl | (simp [lk]; omega)) (fun w h => St.sub (h.del b23))
 repeat refine tkN rfl rfl rfl rfl rfl rfl rfl rfl ?_
 refine tkG rfl rfl rfl rfl (PE.pick rfl rfl rfl) rfl ?_
 refine tkG rfl rfl rfl rfl (PE.move rfl) rfl ?_
 repeat refine tkN rfl rfl rfl rfl rfl rfl rfl rfl ?_
 refine tkG rfl rfl rfl rfl (PE.pick rfl rfl rfl) rfl ?_
 refine tk rfl (PE.pick rfl rfl rfl) rfl ?_
 refine sy_condF rfl ?_
 refine sy_skip ?_
 refine sy_seq ?_
 refine sy_cut (ι := OSl 3 1 (irows (rs ++ [(r : Int)])) × OSl 4 1 (brows (bs ++ [bad])) × OSl 23 3 (srows (ss ++ [t.next s q bad]))) (fun z => ⟨[(5, .pointer (some ⟨b5, 0, none⟩)), (6, .pointer (some ⟨bh, 0, none⟩)), (7, .int .i64 (lat (LY t) s)), (9, .pointer (some ⟨b9, 0, none⟩)), (10, z.1.fs), (11, z.2.1.fs), (12, z.2.2.fs), (40, .int .i64 k), (21, .int .i64 r), (22, .bool bad), (23, .pointer (some ⟨b23, 0, none⟩)), (24, .int .i64 (lat (LY t) (t.next s q bad)))], (b23, cel 26 (twl { t with now := t.next s q bad } (.slice (some ⟨by_, 0, none⟩) t.rats.length cy))) :: (bh, cel 168 [.slice ah h.length ch, .int .i64 (tq2), .int .u32 (mz2)]) :: (z.1.G ++ (z.2.1.G ++ (z.2.2.G ++ (b9, cel 26 (twl { t with now := s } (.slice (some ⟨bn, on, none⟩) t.rats.length cn))) :: (b5, cel 26 (twl { t with now := t.now } (.slice (some ⟨ba, oa, none⟩) t.rats.length ca))) :: H))), RowsA (some ⟨by_, 0, none⟩) 2 (rrows t.rats) :: RowsA (some ⟨bn, on, none⟩) 2 (rrows t.rats) :: RowsA (some ⟨ba, oa, none⟩) 2 (rrows t.rats) :: R⟩) ?_ ?_
 refine sy_draw [0, 0, 2, 7, 0, 0, 32, 127, 0, 0, 512, 1536, 4095, 8191, 16383, 32767] (.tk 0 (.tk 1 (.tk 4 (.tk 5 (.tk 8 (.tk 9 (.ld 10 (.any (.alt 2 (.any (.alt 3 (.any (.alt 6 (.any (.alt 7 (.big 11 (.big 12 (.tk 13 (.tk 14 (.tk 15 .done))))) (.alt 11 (.big 7 (.big 12 (.tk 13 (.tk 14 (.tk 15 .done))))) .stop))) (.alt 11 (.big 6 (.big 7 (.big 12 (.tk 13 (.tk 14 (.tk 15 .done)))))) .stop))) (.alt 6 (.any (.alt 3 (.any (.alt 7 (.big 11 (.big 12 (.tk 13 (.tk 14 (.tk 15 .done))))) (.alt 11 (.big 7 (.big 12 (.tk 13 (.tk 14 (.tk 15 .done))))) .stop))) (.alt 11 (.big 3 (.big 7 (.big 12 (.tk 13 (.tk 14 (.tk 15 .done)))))) .stop))) (.alt 11 (.any (.alt 3 (.big 6 (.big 7 (.big 12 (.tk 13 (.tk 14 (.tk 15 .done)))))) (.alt 6 (.big 3 (.big 7 (.big 12 (.tk 13 (.tk 14 (.tk 15 .done)))))) .stop))) .stop)))) (.alt 6 (.any (.alt 2 (.any (.alt 3 (.any (.alt 7 (.big 11 (.big 12 (.tk 13 (.tk 14 (.tk 15 .done))))) (.alt 11 (.big 7 (.big 12 (.tk 13 (.tk 14 (.tk 15 .done))))) .stop))) (.alt 11 (.big 3 (.big 7 (.big 12 (.tk 13 (.tk 14 (.tk 15 .done)))))) .stop))) (.alt 11 (.big 2 (.big 3 (.big 7 (.big 12 (.tk 13 (.tk 14 (.tk 15 .done))))))) .stop))) (.alt 11 (.any (.alt 2 (.any (.alt 3 (.big 6 (.big 7 (.big 12 (.tk 13 (.tk 14 (.tk 15 .done)))))) (.alt 6 (.big 3 (.big 7 (.big 12 (.tk 13 (.tk 14 (.tk 15 .done)))))) .stop))) (.alt 6 (.big 2 (.big 3 (.big 7 (.big 12 (.tk 13 (.tk 14 (.tk 15 .done))))))) .stop))) .stop))))))))))) mixed (by kernel_rfl) ?_
 refine tk rfl (PE.move rfl) rfl ?_
 refine tk rfl (PE.move rfl) rfl ?_
 refine tk rfl (PE.move rfl) rfl ?_
 refine tk rfl (PE.move rfl) rfl ?_
 refine tk rfl (PE.move rfl) rfl ?_
 refine tk rfl (PE.fieldAddr fo26_0 rfl) rfl ?_
 refine ld rfl rfl (lhA [_, _, _] ag23 rfl rfl rfl) rfl ?_
 refine sy_alt ?_ ?_
 refine bsl (out := [_]) rfl sl42 zl3 rfl rfl rfl rfl rfl rfl (fun b211 => ?_)
 refine bg (fun w hs => ⟨(lhA [_, _, _] ag23 rfl rfl rfl) w hs, trivial⟩) ?_
 refine sy_alt ?_ ?_
 refine apO (o1) rfl ap42 rfl rfl (rowsH (row := [.int .i64 r]) rfl) rfl rfl ((by simp only [irows, List.length_map, List.length_singleton]; have := hch.l1; omega)) rfl (fun o212 => ?_)
 refine bg (fun w hs => ⟨(lhA [_, _, _] ag23 rfl rfl rfl) w hs, trivial⟩) ?_
 refine sy_alt ?_ ?_
 refine bsl (out := [_]) rfl sl80 zl4 rfl rfl rfl rfl rfl rfl (fun b215 => ?_)
 refine bg (fun w hs => ⟨(lhA [_, _, _] ag23 rfl rfl rfl) w hs, trivial⟩) ?_
 refine sy_alt ?_ ?_
 refine apO (o2) rfl ap80 rfl rfl (rowsH (row := [.bool bad]) rfl) rfl rfl ((by simp only [brows, List.length_map, List.length_singleton]; have := hch.l2; omega)) rfl (fun o216 => ?_)
 refine bg (fun w hs => ⟨(lhA [_, _, _] ag23 rfl rfl rfl) w hs, trivial⟩) ?_
 refine bsl (out := [_, _, _]) rfl sl85 zl23 rfl rfl rfl rfl rfl rfl (fun b220 => ?_)
 refine bg (fun w hs => ⟨trivial, trivial⟩) ?_
 refine apO (o3) rfl ap85 rfl rfl (rowsH (row := srow (t.next s q bad)) rfl) rfl rfl ((by simp only [srows, List.length_map, List.length_singleton]; omega)) rfl (fun o221 => ?_)
 refine bg (fun w hs => trivial) ?_
 refine tk rfl (PE.assign rfl) rfl ?_
 refine tk rfl (PE.assign rfl) rfl ?_
 refine tk rfl (PE.assign rfl) rfl ?_
 exact sy_cutEnd (o212.cast (by simp [irows]), o216.cast (by simp [brows, brow]), o221.cast (by simp [srows])) (by repeat' first | exact Sub.nil | apply Sub.cons | rfl | (simp [lk]; omega)) (fun w h => ((h.del b211).del b215).del b220)
 refine sy_alt ?_ ?_
 refine bsl (out := [_, _, _]) rfl sl85 zl23 rfl rfl rfl rfl rfl rfl (fun b220 => ?_)
 refine bg (fun w hs => ⟨trivial, trivial⟩) ?_
 refine apO (o2) rfl ap80 rfl rfl (rowsH (row := [.bool bad]) rfl) rfl rfl ((by simp only [brows, List.length_map, List.length_singleton]; have := hch.l2; omega)) rfl (fun o216 => ?_)
 refine bg (fun w hs => trivial) ?_
 refine apO (o3) rfl ap85 rfl rfl (rowsH (row := srow (t.next s q bad)) rfl) rfl rfl ((by simp only [srows, List.length_map, List.length_singleton]; omega)) rfl (fun o221 => ?_)
 refine bg (fun w hs => trivial) ?_
 refine tk rfl (PE.assign rfl) rfl ?_
 refine tk rfl (PE.assign rfl) rfl ?_
 refine tk rfl (PE.assign rfl) rfl ?_
 exact sy_cutEnd (o212.cast (by simp [irows]), o216.cast (by simp [brows, brow]), o221.cast (by simp [srows])) (by repeat' first | exact Sub.nil | apply Sub.cons | rfl | (simp [lk]; omega)) (fun w h => ((h.del b211).del b215).del b220)
 exact sy_stop
 refine sy_alt ?_ ?_
 refine bsl (out := [_, _, _]) rfl sl85 zl23 rfl rfl rfl rfl rfl rfl (fun b220 => ?_)
 refine bg (fun w hs => ⟨trivial, trivial⟩) ?_
 refine bsl (out := [_]) rfl sl80 zl4 rfl rfl rfl rfl rfl rfl (fun b215 => ?_)
 refine bg (fun w hs => trivial) ?_
 refine apO (o2) rfl ap80 rfl rfl (rowsH (row := [.bool bad]) rfl) rfl rfl ((by simp only [brows, List.length_map, List.length_singleton]; have := hch.l2; omega)) rfl (fun o216 => ?_)
 refine bg (fun w hs => trivial) ?_
 refine apO (o3) rfl ap85 rfl rfl (rowsH (row := srow (t.next s q bad)) rfl) rfl rfl ((by simp only [srows, List.length_map, List.length_singleton]; omega)) rfl (fun o221 => ?_)
 refine bg (fun w hs => trivial) ?_
 refine tk rfl (PE.assign rfl) rfl ?_
 refine tk rfl (PE.assign rfl) rfl ?_
 refine tk rfl (PE.assign rfl) rfl ?_
 exact sy_cutEnd (o212.cast (by simp [irows]), o216.cast (by simp [brows, brow]), o221.cast (by simp [srows])) (by repeat' first | exact Sub.nil | apply Sub.cons | rfl | (simp [lk]; omega)) (fun w h => ((h.del b211).del b215).del b220)
 exact sy_stop
 refine sy_alt ?_ ?_
 refine bsl (out := [_]) rfl sl80 zl4 rfl rfl rfl rfl rfl rfl (fun b215 => ?_)
 refine bg (fun w hs => ⟨(lhA [_, _, _] ag23 rfl rfl rfl) w hs, trivial⟩) ?_
 refine sy_alt ?_ ?_
 refine apO (o1) rfl ap42 rfl rfl (rowsH (row := [.int .i64 r]) rfl) rfl rfl ((by simp only [irows, List.length_map, List.length_singleton]; have := hch.l1; omega)) rfl (fun o212 => ?_)
 refine bg (fun w hs => ⟨(lhA [_, _, _] ag23 rfl rfl rfl) w hs, trivial⟩) ?_
 refine sy_alt ?_ ?_
 refine apO (o2) rfl ap80 rfl rfl (rowsH (row := [.bool bad]) rfl) rfl rfl ((by simp only [brows, List.length_map, List.length_singleton]; have := hch.l2; omega)) rfl (fun o216 => ?_)
 refine bg (fun w hs => ⟨(lhA [_, _, _] ag23 rfl rfl rfl) w hs, trivial⟩) ?_
 refine bsl (out := [_, _, _]) rfl sl85 zl23 rfl rfl rfl rfl rfl rfl (fun b220 => ?_)
 refine bg (fun w hs => ⟨trivial, trivial⟩) ?_
 refine apO (o3) rfl ap85 rfl rfl (rowsH (row := srow (t.next s q bad)) rfl) rfl rfl ((by simp only [srows, List.length_map, List.length_singleton]; omega)) rfl (fun o221 => ?_)
 refine bg (fun w hs => trivial) ?_
 refine tk rfl (PE.assign rfl) rfl ?_
 refine tk rfl (PE.assign rfl) rfl ?_
 refine tk rfl (PE.assign rfl) rfl ?_
 exact sy_cutEnd (o212.cast (by simp [irows]), o216.cast (by simp [brows, brow]), o221.cast (by simp [srows])) (by repeat' first | exact Sub.nil | apply Sub.cons | rfl | (simp [lk]; omega)) (fun w h => ((h.del b211).del b215).del b220)
 refine sy_alt ?_ ?_
 refine bsl (out := [_, _, _]) rfl sl85 zl23 rfl rfl rfl rfl rfl rfl (fun b220 => ?_)
 refine bg (fun w hs => ⟨trivial, trivial⟩) ?_
 refine apO (o2) rfl ap80 rfl rfl (rowsH (row := [.bool bad]) rfl) rfl rfl ((by simp only [brows, List.length_map, List.length_singleton]; have := hch.l2; omega)) rfl (fun o216 => ?_)
 refine bg (fun w hs => trivial) ?_
 refine apO (o3) rfl ap85 rfl rfl (rowsH (row := srow (t.next s q bad)) rfl) rfl rfl ((by simp only [srows, List.length_map, List.length_singleton]; omega)) rfl (fun o221 => ?_)
 refine bg (fun w hs => trivial) ?_
 refine tk rfl (PE.assign rfl) rfl ?_
 refine tk rfl (PE.assign rfl) rfl ?_
 refine tk rfl (PE.assign rfl) rfl ?_
 exact sy_cutEnd (o212.cast (by simp [irows]), o216.cast (by simp [brows, brow]), o221.cast (by simp [srows])) (by repeat' first | exact Sub.nil | apply Sub.cons | rfl | (simp [lk]; omega)) (fun w h => ((h.del b211).del b215).del b220)
 exact sy_stop
 refine sy_alt ?_ ?_
 refine bsl (out := [_, _, _]) rfl sl85 zl23 rfl rfl rfl rfl rfl rfl (fun b220 => ?_)
 refine bg (fun w hs => ⟨trivial, trivial⟩) ?_
 refine apO (o1) rfl ap42 rfl rfl (rowsH (row := [.int .i64 r]) rfl) rfl rfl ((by simp only [irows, List.length_map, List.length_singleton]; have := hch.l1; omega)) rfl (fun o212 => ?_)
 refine bg (fun w hs => trivial) ?_
 refine apO (o2) rfl ap80 rfl rfl (rowsH (row := [.bool bad]) rfl) rfl rfl ((by simp only [brows, List.length_map, List.length_singleton]; have := hch.l2; omega)) rfl (fun o216 => ?_)
 refine bg (fun w hs => trivial) ?_
 refine apO (o3) rfl ap85 rfl rfl (rowsH (row := srow (t.next s q bad)) rfl) rfl rfl ((by simp only [srows, List.length_map, List.length_singleton]; omega)) rfl (fun o221 => ?_)
 refine bg (fun w hs => trivial) ?_
 refine tk rfl (PE.assign rfl) rfl ?_
 refine tk rfl (PE.assign rfl) rfl ?_
 refine tk rfl (PE.assign rfl) rfl ?_
 exact sy_cutEnd (o212.cast (by simp [irows]), o216.cast (by simp [brows, brow]), o221.cast (by simp [srows])) (by repeat' first | exact Sub.nil | apply Sub.cons | rfl | (simp [lk]; omega)) (fun w h => ((h.del b211).del b215).del b220)
 exact sy_stop
 refine sy_alt ?_ ?_
 refine bsl (out := [_, _, _]) rfl sl85 zl23 rfl rfl rfl rfl rfl rfl (fun b220 => ?_)
 refine bg (fun w hs => ⟨trivial, trivial⟩) ?_
 refine sy_alt ?_ ?_
 refine apO (o1) rfl ap42 rfl rfl (rowsH (row := [.int .i64 r]) rfl) rfl rfl ((by simp only [irows, List.length_map, List.length_singleton]; have := hch.l1; omega)) rfl (fun o212 => ?_)
 refine bg (fun w hs => trivial) ?_
 refine bsl (out := [_]) rfl sl80 zl4 rfl rfl rfl rfl rfl rfl (fun b215 => ?_)
 refine bg (fun w hs => trivial) ?_
 refine apO (o2) rfl ap80 rfl rfl (rowsH (row := [.bool bad]) rfl) rfl rfl ((by simp only [brows, List.length_map, List.length_singleton]; have := hch.l2; omega)) rfl (fun o216 => ?_)
 refine bg (fun w hs => trivial) ?_
 refine apO (o3) rfl ap85 rfl rfl (rowsH (row := srow (t.next s q bad)) rfl) rfl rfl ((by simp only [srows, List.length_map, List.length_singleton]; omega)) rfl (fun o221 => ?_)
 refine bg (fun w hs => trivial) ?_
 refine tk rfl (PE.assign rfl) rfl ?_
 refine tk rfl (PE.assign rfl) rfl ?_
 refine tk rfl (PE.assign rfl) rfl ?_
 exact sy_cutEnd (o212.cast (by simp [irows]), o216.cast (by simp [brows, brow]), o221.cast (by simp [srows])) (by repeat' first | exact Sub.nil | apply Sub.cons | rfl | (simp [lk]; omega)) (fun w h => ((h.del b211).del b215).del b220)
 refine sy_alt ?_ ?_
 refine bsl (out := [_]) rfl sl80 zl4 rfl rfl rfl rfl rfl rfl (fun b215 => ?_)
 refine bg (fun w hs => trivial) ?_
 refine apO (o1) rfl ap42 rfl rfl (rowsH (row := [.int .i64 r]) rfl) rfl rfl ((by simp only [irows, List.length_map, List.length_singleton]; have := hch.l1; omega)) rfl (fun o212 => ?_)
 refine bg (fun w hs => trivial) ?_
 refine apO (o2) rfl ap80 rfl rfl (rowsH (row := [.bool bad]) rfl) rfl rfl ((by simp only [brows, List.length_map, List.length_singleton]; have := hch.l2; omega)) rfl (fun o216 => ?_)
 refine bg (fun w hs => trivial) ?_
 refine apO (o3) rfl ap85 rfl rfl (rowsH (row := srow (t.next s q bad)) rfl) rfl rfl ((by simp only [srows, List.length_map, List.length_singleton]; omega)) rfl (fun o221 => ?_)
 refine bg (fun w hs => trivial) ?_
 refine tk rfl (PE.assign rfl) rfl ?_
 refine tk rfl (PE.assign rfl) rfl ?_
 refine tk rfl (PE.assign rfl) rfl ?_
 exact sy_cutEnd (o212.cast (by simp [irows]), o216.cast (by simp [brows, brow]), o221.cast (by simp [srows])) (by repeat' first | exact Sub.nil | apply Sub.cons | rfl | (simp [lk]; omega)) (fun w h => ((h.del b211).del b215).del b220)
 exact sy_stop
 exact sy_stop
 refine sy_alt ?_ ?_
 refine bsl (out := [_]) rfl sl80 zl4 rfl rfl rfl rfl rfl rfl (fun b215 => ?_)
 refine bg (fun w hs => ⟨(lhA [_, _, _] ag23 rfl rfl rfl) w hs, trivial⟩) ?_
 refine sy_alt ?_ ?_
 refine bsl (out := [_]) rfl sl42 zl3 rfl rfl rfl rfl rfl rfl (fun b211 => ?_)
 refine bg (fun w hs => ⟨(lhA [_, _, _] ag23 rfl rfl rfl) w hs, trivial⟩) ?_
 refine sy_alt ?_ ?_
 refine apO (o1) rfl ap42 rfl rfl (rowsH (row := [.int .i64 r]) rfl) rfl rfl ((by simp only [irows, List.length_map, List.length_singleton]; have := hch.l1; omega)) rfl (fun o212 => ?_)
 refine bg (fun w hs => ⟨(lhA [_, _, _] ag23 rfl rfl rfl) w hs, trivial⟩) ?_
 refine sy_alt ?_ ?_
 refine apO (o2) rfl ap80 rfl rfl (rowsH (row := [.bool bad]) rfl) rfl rfl ((by simp only [brows, List.length_map, List.length_singleton]; have := hch.l2; omega)) rfl (fun o216 => ?_)
 refine bg (fun w hs => ⟨(lhA [_, _, _] ag23 rfl rfl rfl) w hs, trivial⟩) ?_
 refine bsl (out := [_, _, _]) rfl sl85 zl23 rfl rfl rfl rfl rfl rfl (fun b220 => ?_)
 refine bg (fun w hs => ⟨trivial, trivial⟩) ?_
 refine apO (o3) rfl ap85 rfl rfl (rowsH (row := srow (t.next s q bad)) rfl) rfl rfl ((by simp only [srows, List.length_map, List.length_singleton]; omega)) rfl (fun o221 => ?_)
 refine bg (fun w hs => trivial) ?_
 refine tk rfl (PE.assign rfl) rfl ?_
 refine tk rfl (PE.assign rfl) rfl ?_
 refine tk rfl (PE.assign rfl) rfl ?_
 exact sy_cutEnd (o212.cast (by simp [irows]), o216.cast (by simp [brows, brow]), o221.cast (by simp [srows])) (by repeat' first | exact Sub.nil | apply Sub.cons | rfl | (simp [lk]; omega)) (fun w h => ((h.del b211).del b215).del b220)
 refine sy_alt ?_ ?_
 refine bsl (out := [_, _, _]) rfl sl85 zl23 rfl rfl rfl rfl rfl rfl (fun b220 => ?_)
 refine bg (fun w hs => ⟨trivial, trivial⟩) ?_
 refine apO (o2) rfl ap80 rfl rfl (rowsH (row := [.bool bad]) rfl) rfl rfl ((by simp only [brows, List.length_map, List.length_singleton]; have := hch.l2; omega)) rfl (fun o216 => ?_)
 refine bg (fun w hs => trivial) ?_
 refine apO (o3) rfl ap85 rfl rfl (rowsH (row := srow (t.next s q bad)) rfl) rfl rfl ((by simp only [srows, List.length_map, List.length_singleton]; omega)) rfl (fun o221 => ?_)
 refine bg (fun w hs => trivial) ?_
 refine tk rfl (PE.assign rfl) rfl ?_
 refine tk rfl (PE.assign rfl) rfl ?_
 refine tk rfl (PE.assign rfl) rfl ?_
 exact sy_cutEnd (o212.cast (by simp [irows]), o216.cast (by simp [brows, brow]), o221.cast (by simp [srows])) (by repeat' first | exact Sub.nil | apply Sub.cons | rfl | (simp [lk]; omega)) (fun w h => ((h.del b211).del b215).del b220)
 exact sy_stop
 refine sy_alt ?_ ?_
 refine bsl (out := [_, _, _]) rfl sl85 zl23 rfl rfl rfl rfl rfl rfl (fun b220 => ?_)
 refine bg (fun w hs => ⟨trivial, trivial⟩) ?_
 refine apO (o1) rfl ap42 rfl rfl (rowsH (row := [.int .i64 r]) rfl) rfl rfl ((by simp only [irows, List.length_map, List.length_singleton]; have := hch.l1; omega)) rfl (fun o212 => ?_)
 refine bg (fun w hs => trivial) ?_
 refine apO (o2) rfl ap80 rfl rfl (rowsH (row := [.bool bad]) rfl) rfl rfl ((by simp only [brows, List.length_map, List.length_singleton]; have := hch.l2; omega)) rfl (fun o216 => ?_)
 refine bg (fun w hs => trivial) ?_
 refine apO (o3) rfl ap85 rfl rfl (rowsH (row := srow (t.next s q bad)) rfl) rfl rfl ((by simp only [srows, List.length_map, List.length_singleton]; omega)) rfl (fun o221 => ?_)
 refine bg (fun w hs => trivial) ?_
 refine tk rfl (PE.assign rfl) rfl ?_
 refine tk rfl (PE.assign rfl) rfl ?_
 refine tk rfl (PE.assign rfl) rfl ?_
 exact sy_cutEnd (o212.cast (by simp [irows]), o216.cast (by simp [brows, brow]), o221.cast (by simp [srows])) (by repeat' first | exact Sub.nil | apply Sub.cons | rfl | (simp [lk]; omega)) (fun w h => ((h.del b211).del b215).del b220)
 exact sy_stop
 refine sy_alt ?_ ?_
 refine bsl (out := [_, _, _]) rfl sl85 zl23 rfl rfl rfl rfl rfl rfl (fun b220 => ?_)
 refine bg (fun w hs => ⟨trivial, trivial⟩) ?_
 refine bsl (out := [_]) rfl sl42 zl3 rfl rfl rfl rfl rfl rfl (fun b211 => ?_)
 refine bg (fun w hs => trivial) ?_
 refine apO (o1) rfl ap42 rfl rfl (rowsH (row := [.int .i64 r]) rfl) rfl rfl ((by simp only [irows, List.length_map, List.length_singleton]; have := hch.l1; omega)) rfl (fun o212 => ?_)
 refine bg (fun w hs => trivial) ?_
 refine apO (o2) rfl ap80 rfl rfl (rowsH (row := [.bool bad]) rfl) rfl rfl ((by simp only [brows, List.length_map, List.length_singleton]; have := hch.l2; omega)) rfl (fun o216 => ?_)
 refine bg (fun w hs => trivial) ?_
 refine apO (o3) rfl ap85 rfl rfl (rowsH (row := srow (t.next s q bad)) rfl) rfl rfl ((by simp only [srows, List.length_map, List.length_singleton]; omega)) rfl (fun o221 => ?_)
 refine bg (fun w hs => trivial) ?_
 refine tk rfl (PE.assign rfl) rfl ?_
 refine tk rfl (PE.assign rfl) rfl ?_
 refine tk rfl (PE.assign rfl) rfl ?_
 exact sy_cutEnd (o212.cast (by simp [irows]), o216.cast (by simp [brows, brow]), o221.cast (by simp [srows])) (by repeat' first | exact Sub.nil | apply Sub.cons | rfl | (simp [lk]; omega)) (fun w h => ((h.del b211).del b215).del b220)
 exact sy_stop
 refine sy_alt ?_ ?_
 refine bsl (out := [_, _, _]) rfl sl85 zl23 rfl rfl rfl rfl rfl rfl (fun b220 => ?_)
 refine bg (fun w hs => ⟨trivial, trivial⟩) ?_
 refine sy_alt ?_ ?_
 refine bsl (out := [_]) rfl sl42 zl3 rfl rfl rfl rfl rfl rfl (fun b211 => ?_)
 refine bg (fun w hs => trivial) ?_
 refine sy_alt ?_ ?_
 refine apO (o1) rfl ap42 rfl rfl (rowsH (row := [.int .i64 r]) rfl) rfl rfl ((by simp only [irows, List.length_map, List.length_singleton]; have := hch.l1; omega)) rfl (fun o212 => ?_)
 refine bg (fun w hs => trivial) ?_
 refine bsl (out := [_]) rfl sl80 zl4 rfl rfl rfl rfl rfl rfl (fun b215 => ?_)
 refine bg (fun w hs => trivial) ?_
 refine apO (o2) rfl ap80 rfl rfl (rowsH (row := [.bool bad]) rfl) rfl rfl ((by simp only [brows, List.length_map, List.length_singleton]; have := hch.l2; omega)) rfl (fun o216 => ?_)
 refine bg (fun w hs => trivial) ?_
 refine apO (o3) rfl ap85 rfl rfl (rowsH (row := srow (t.next s q bad)) rfl) rfl rfl ((by simp only [srows, List.length_map, List.length_singleton]; omega)) rfl (fun o221 => ?_)
 refine bg (fun w hs => trivial) ?_
 refine tk rfl (PE.assign rfl) rfl ?_
 refine tk rfl (PE.assign rfl) rfl ?_
 refine tk rfl (PE.assign rfl) rfl ?_
 exact sy_cutEnd (o212.cast (by simp [irows]), o216.cast (by simp [brows, brow]), o221.cast (by simp [srows])) (by repeat' first | exact Sub.nil | apply Sub.cons | rfl | (simp [lk]; omega)) (fun w h => ((h.del b211).del b215).del b220)
 refine sy_alt ?_ ?_
 refine bsl (out := [_]) rfl sl80 zl4 rfl rfl rfl rfl rfl rfl (fun b215 => ?_)
 refine bg (fun w hs => trivial) ?_
 refine apO (o1) rfl ap42 rfl rfl (rowsH (row := [.int .i64 r]) rfl) rfl rfl ((by simp only [irows, List.length_map, List.length_singleton]; have := hch.l1; omega)) rfl (fun o212 => ?_)
 refine bg (fun w hs => trivial) ?_
 refine apO (o2) rfl ap80 rfl rfl (rowsH (row := [.bool bad]) rfl) rfl rfl ((by simp only [brows, List.length_map, List.length_singleton]; have := hch.l2; omega)) rfl (fun o216 => ?_)
 refine bg (fun w hs => trivial) ?_
 refine apO (o3) rfl ap85 rfl rfl (rowsH (row := srow (t.next s q bad)) rfl) rfl rfl ((by simp only [srows, List.length_map, List.length_singleton]; omega)) rfl (fun o221 => ?_)
 refine bg (fun w hs => trivial) ?_
 refine tk rfl (PE.assign rfl) rfl ?_
 refine tk rfl (PE.assign rfl) rfl ?_
 refine tk rfl (PE.assign rfl) rfl ?_
 exact sy_cutEnd (o212.cast (by simp [irows]), o216.cast (by simp [brows, brow]), o221.cast (by simp [srows])) (by repeat' first | exact Sub.nil | apply Sub.cons | rfl | (simp [lk]; omega)) (fun w h => ((h.del b211).del b215).del b220)
 exact sy_stop
 refine sy_alt ?_ ?_
 refine bsl (out := [_]) rfl sl80 zl4 rfl rfl rfl rfl rfl rfl (fun b215 => ?_)
 refine bg (fun w hs => trivial) ?_
 refine bsl (out := [_]) rfl sl42 zl3 rfl rfl rfl rfl rfl rfl (fun b211 => ?_)
 refine bg (fun w hs => trivial) ?_
 refine apO (o1) rfl ap42 rfl rfl (rowsH (row := [.int .i64 r]) rfl) rfl rfl ((by simp only [irows, List.length_map, List.length_singleton]; have := hch.l1; omega)) rfl (fun o212 => ?_)
 refine bg (fun w hs => trivial) ?_
 refine apO (o2) rfl ap80 rfl rfl (rowsH (row := [.bool bad]) rfl) rfl rfl ((by simp only [brows, List.length_map, List.length_singleton]; have := hch.l2; omega)) rfl (fun o216 => ?_)
 refine bg (fun w hs => trivial) ?_
 refine apO (o3) rfl ap85 rfl rfl (rowsH (row := srow (t.next s q bad)) rfl) rfl rfl ((by simp only [srows, List.length_map, List.length_singleton]; omega)) rfl (fun o221 => ?_)
 refine bg (fun w hs => trivial) ?_
 refine tk rfl (PE.assign rfl) rfl ?_
 refine tk rfl (PE.assign rfl) rfl ?_
 refine tk rfl (PE.assign rfl) rfl ?_
 exact sy_cutEnd (o212.cast (by simp [irows]), o216.cast (by simp [brows, brow]), o221.cast (by simp [srows])) (by repeat' first | exact Sub.nil | apply Sub.cons | rfl | (simp [lk]; omega)) (fun w h => ((h.del b211).del b215).del b220)
 exact sy_stop
 exact sy_stop
 rintro ⟨o1, o2, o3⟩
 dsimp only
 refine sy_seq ?_
 refine sy_tx' [0, 1, 2, 3] rfl ?_
 refine spL rfl rfl (lhA [_, _, _, _, _, _, _, _, _, _, _] ag26 rfl rfl rfl) rfl ?_
 refine sp rfl (PE.move rfl) rfl ?_
 refine sto rfl rfl rfl cn26 rfl rfl rfl rfl ?_
 refine sp rfl (PE.assign rfl) rfl ?_
 refine sy_seq ?_
 refine sy_tx' [0, 1, 2, 3, 4] rfl ?_
 refine sp rfl (PE.move rfl) rfl ?_
 refine sp rfl (PE.move rfl) rfl ?_
 refine sy_case (t := 225) rfl (fun g225 => ?_) (fun g225 => ?_)
 refine spG rfl rfl rfl rfl (PE.move rfl) rfl ?_
 refine spG rfl rfl rfl rfl (PE.eql rfl rfl) rfl ?_
 refine sp rfl (PE.pick rfl rfl rfl) rfl ?_
 refine sy_cond rfl (fun hc10 => ?_) (fun hc10 => ?_)
 exact absurd hc10 (by rw [decide_eq_false (by have := hm3 g225; omega)]; simp)
 refine sy_skip ?_
 refine sy_tx' [0, 1] rfl ?_
 refine sp rfl (PE.add rfl rfl (by omega)) rfl ?_
 refine sp rfl (PE.move rfl) rfl ?_
 exact sy_next ⟨⟨(k + 1, t.next s q bad, rs ++ [(r : Int)], bs ++ [bad], ss ++ [t.next s q bad], tq2, mz2, by_, 0, cy), by omega, by simp [hsl], hch.more hnx hnr, by dsimp only; omega, by assumption⟩, o1, o2, o3⟩ (by dsimp only; omega) (by repeat' first | exact Sub.nil | apply Sub.cons | rfl | (simp [lk]; omega)) (fun w h => St.sub (h.del b23))
 repeat refine spN rfl rfl rfl rfl rfl rfl rfl rfl ?_
 refine sp rfl (PE.pick rfl rfl rfl) rfl ?_
 refine sy_condF rfl ?_
 refine sy_skip ?_
 refine sy_tx' [0, 1] rfl ?_
 refine sp rfl (PE.add rfl rfl (by omega)) rfl ?_
 refine sp rfl (PE.move rfl) rfl ?_
 exact sy_next ⟨⟨(k + 1, t.next s q bad, rs ++ [(r : Int)], bs ++ [bad], ss ++ [t.next s q bad], tq2, mz2, by_, 0, cy), by omega, by simp [hsl], hch.more hnx hnr, by dsimp only; omega, by assumption⟩, o1, o2, o3⟩ (by dsimp only; omega) (by repeat' first | exact Sub.nil | apply Sub.cons | rfl | (simp [lk]; omega)) (fun w h => St.sub (h.del b23))
 repeat refine tkN rfl rfl rfl rfl rfl rfl rfl rfl ?_
 refine tkG rfl rfl rfl rfl (PE.pick rfl rfl rfl) rfl ?_
 refine tk rfl (PE.pick rfl rfl rfl) rfl ?_
 refine tk rfl (PE.move rfl) rfl ?_
 refine tkG rfl rfl rfl rfl (PE.move rfl) rfl ?_
 refine tkG rfl rfl rfl rfl (PE.move rfl) rfl ?_
 refine sy_case (t := 198) rfl (fun g198 => ?_) (fun g198 => ?_)
 refine tkG rfl rfl rfl rfl (PE.move rfl) rfl ?_
 refine tkG rfl rfl rfl rfl (PE.neq rfl rfl) rfl ?_
 refine tkG rfl rfl rfl rfl (PE.pick rfl rfl rfl) rfl ?_
 refine tkG rfl rfl rfl rfl (PE.move rfl) rfl ?_
 refine sy_case (t := 202) rfl (fun g202 => ?_) (fun g202 => ?_)
 have hne : lat (LY t) s ≠ 1000000 := by simpa using g202
 refine tkG rfl rfl rfl rfl (PE.move rfl) rfl ?_
 refine tkG rfl rfl rfl rfl (PE.move rfl) rfl ?_
 refine tkG rfl rfl rfl rfl (PE.sub rfl rfl (by omega)) rfl ?_
 refine tkG rfl rfl rfl rfl (PE.lss rfl rfl) rfl ?_
 refine tkG rfl rfl rfl rfl (PE.pick rfl rfl rfl) rfl ?_
 refine tk rfl (PE.pick rfl rfl rfl) rfl ?_
 refine sy_cond rfl (fun hc9 => ?_) (fun hc9 => ?_)
 exact absurd hc9 (by first | (rw [decide_eq_false (by have := hm2 g198 hne; omega)]; simp; done) | (simp; done))
 refine sy_skip ?_
 refine sy_seq ?_
 refine sy_cut (ι := OSl 3 1 (irows (rs ++ [(r : Int)])) × OSl 4 1 (brows (bs ++ [bad])) × OSl 23 3 (srows (ss ++ [t.next s q bad]))) (fun z => ⟨[(5, .pointer (some ⟨b5, 0, none⟩)), (6, .pointer (some ⟨bh, 0, none⟩)), (7, .int .i64 (lat (LY t) s)), (9, .pointer (some ⟨b9, 0, none⟩)), (10, z.1.fs), (11, z.2.1.fs), (12, z.2.2.fs), (40, .int .i64 k), (21, .int .i64 r), (22, .bool bad), (23, .pointer (some ⟨b23, 0, none⟩)), (24, .int .i64 (lat (LY t) (t.next s q bad)))], (b23, cel 26 (twl { t with now := t.next s q bad } (.slice (some ⟨by_, 0, none⟩) t.rats.length cy))) :: (bh, cel 168 [.slice ah h.length ch, .int .i64 (tq2), .int .u32 (mz2)]) :: (z.1.G ++ (z.2.1.G ++ (z.2.2.G ++ (b9, cel 26 (twl { t with now := s } (.slice (some ⟨bn, on, none⟩) t.rats.length cn))) :: (b5, cel 26 (twl { t with now := t.now } (.slice (some ⟨ba, oa, none⟩) t.rats.length ca))) :: H))), RowsA (some ⟨by_, 0, none⟩) 2 (rrows t.rats) :: RowsA (some ⟨bn, on, none⟩) 2 (rrows t.rats) :: RowsA (some ⟨ba, oa, none⟩) 2 (rrows t.rats) :: R⟩) ?_ ?_
 refine sy_draw [0, 0, 2, 7, 0, 0, 32, 127, 0, 0, 512, 1536, 4095, 8191, 16383, 32767] (.tk 0 (.tk 1 (.tk 4 (.tk 5 (.tk 8 (.tk 9 (.ld 10 (.any (.alt 2 (.any (.alt 3 (.any (.alt 6 (.any (.alt 7 (.big 11 (.big 12 (.tk 13 (.tk 14 (.tk 15 .done))))) (.alt 11 (.big 7 (.big 12 (.tk 13 (.tk 14 (.tk 15 .done))))) .stop))) (.alt 11 (.big 6 (.big 7 (.big 12 (.tk 13 (.tk 14 (.tk 15 .done)))))) .stop))) (.alt 6 (.any (.alt 3 (.any (.alt 7 (.big 11 (.big 12 (.tk 13 (.tk 14 (.tk 15 .done))))) (.alt 11 (.big 7 (.big 12 (.tk 13 (.tk 14 (.tk 15 .done))))) .stop))) (.alt 11 (.big 3 (.big 7 (.big 12 (.tk 13 (.tk 14 (.tk 15 .done)))))) .stop))) (.alt 11 (.any (.alt 3 (.big 6 (.big 7 (.big 12 (.tk 13 (.tk 14 (.tk 15 .done)))))) (.alt 6 (.big 3 (.big 7 (.big 12 (.tk 13 (.tk 14 (.tk 15 .done)))))) .stop))) .stop)))) (.alt 6 (.any (.alt 2 (.any (.alt 3 (.any (.alt 7 (.big 11 (.big 12 (.tk 13 (.tk 14 (.tk 15 .done))))) (.alt 11 (.big 7 (.big 12 (.tk 13 (.tk 14 (.tk 15 .done))))) .stop))) (.alt 11 (.big 3 (.big 7 (.big 12 (.tk 13 (.tk 14 (.tk 15 .done)))))) .stop))) (.alt 11 (.big 2 (.big 3 (.big 7 (.big 12 (.tk 13 (.tk 14 (.tk 15 .done))))))) .stop))) (.alt 11 (.any (.alt 2 (.any (.alt 3 (.big 6 (.big 7 (.big 12 (.tk 13 (.tk 14 (.tk 15 .done)))))) (.alt 6 (.big 3 (.big 7 (.big 12 (.tk 13 (.tk 14 (.tk 15 .done)))))) .stop))) (.alt 6 (.big 2 (.big 3 (.big 7 (.big 12 (.tk 13 (.tk 14 (.tk 15 .done))))))) .stop))) .stop))))))))))) mixed (by kernel_rfl) ?_
 refine tk rfl (PE.move rfl) rfl ?_
 refine tk rfl (PE.move rfl) rfl ?_
 refine tk rfl (PE.move rfl) rfl ?_
 refine tk rfl (PE.move rfl) rfl ?_
 refine tk rfl (PE.move rfl) rfl ?_
 refine tk rfl (PE.fieldAddr fo26_0 rfl) rfl ?_
 refine ld rfl rfl (lhA [_, _, _] ag23 rfl rfl rfl) rfl ?_
 refine sy_alt ?_ ?_
 refine bsl (out := [_]) rfl sl42 zl3 rfl rfl rfl rfl rfl rfl (fun b211 => ?_)
 refine bg (fun w hs => ⟨(lhA [_, _, _] ag23 rfl rfl rfl) w hs, trivial⟩) ?_
 refine sy_alt ?_ ?_
 refine apO (o1) rfl ap42 rfl rfl (rowsH (row := [.int .i64 r]) rfl) rfl rfl ((by simp only [irows, List.length_map, List.length_singleton]; have := hch.l1; omega)) rfl (fun o212 => ?_)
 refine bg (fun w hs => ⟨(lhA [_, _, _] ag23 rfl rfl rfl) w hs, trivial⟩) ?_
 refine sy_alt ?_ ?_
 refine bsl (out := [_]) rfl sl80 zl4 rfl rfl rfl rfl rfl rfl (fun b215 => ?_)
 refine bg (fun w hs => ⟨(lhA [_, _, _] ag23 rfl rfl rfl) w hs, trivial⟩) ?_
 refine sy_alt ?_ ?_
 refine apO (o2) rfl ap80 rfl rfl (rowsH (row := [.bool bad]) rfl) rfl rfl ((by simp only [brows, List.length_map, List.length_singleton]; have := hch.l2; omega)) rfl (fun o216 => ?_)
 refine bg (fun w hs => ⟨(lhA [_, _, _] ag23 rfl rfl rfl) w hs, trivial⟩) ?_
 refine bsl (out := [_, _, _]) rfl sl85 zl23 rfl rfl rfl rfl rfl rfl (fun b220 => ?_)
 refine bg (fun w hs => ⟨trivial, trivial⟩) ?_
 refine apO (o3) rfl ap85 rfl rfl (rowsH (row := srow (t.next s q bad)) rfl) rfl rfl ((by simp only [srows, List.length_map, List.length_singleton]; omega)) rfl (fun o221 => ?_)
 refine bg (fun w hs => trivial) ?_
 refine tk rfl (PE.assign rfl) rfl ?_
 refine tk rfl (PE.assign rfl) rfl ?_
 refine tk rfl (PE.assign rfl) rfl ?_
 exact sy_cutEnd (o212.cast (by simp [irows]), o216.cast (by simp [brows, brow]), o221.cast (by simp [srows])) (by repeat' first | exact Sub.nil | apply Sub.cons | rfl | (simp [lk]; omega)) (fun w h => ((h.del b211).del b215).del b220)
 refine sy_alt ?_ ?_
 refine bsl (out := [_, _, _]) rfl sl85 zl23 rfl rfl rfl rfl rfl rfl (fun b220 => ?_)
 refine bg (fun w hs => ⟨trivial, trivial⟩) ?_
 refine apO (o2) rfl ap80 rfl rfl (rowsH (row := [.bool bad]) rfl) rfl rfl ((by simp only [brows, List.length_map, List.length_singleton]; have := hch.l2; omega)) rfl (fun o216 => ?_)
 refine bg (fun w hs => trivial) ?_
 refine apO (o3) rfl ap85 rfl rfl (rowsH (row := srow (t.next s q bad)) rfl) rfl rfl ((by simp only [srows, List.length_map, List.length_singleton]; omega)) rfl (fun o221 => ?_)
 refine bg (fun w hs => trivial) ?_
 refine tk rfl (PE.assign rfl) rfl ?_
 refine tk rfl (PE.assign rfl) rfl ?_
 refine tk rfl (PE.assign rfl) rfl ?_
 exact sy_cutEnd (o212.cast (by simp [irows]), o216.cast (by simp [brows, brow]), o221.cast (by simp [srows])) (by repeat' first | exact Sub.nil | apply Sub.cons | rfl | (simp [lk]; omega)) (fun w h => ((h.del b211).del b215).del b220)
 exact sy_stop
 refine sy_alt ?_ ?_
 refine bsl (out := [_, _, _]) rfl sl85 zl23 rfl rfl rfl rfl rfl rfl (fun b220 => ?_)
 refine bg (fun w hs => ⟨trivial, trivial⟩) ?_
 refine bsl (out := [_]) rfl sl80 zl4 rfl rfl rfl rfl rfl rfl (fun b215 => ?_)
 refine bg (fun w hs => trivial) ?_
 refine apO (o2) rfl ap80 rfl rfl (rowsH (row := [.bool bad]) rfl) rfl rfl ((by simp only [brows, List.length_map, List.length_singleton]; have := hch.l2; omega)) rfl (fun o216 => ?_)
 refine bg (fun w hs => trivial) ?_
 refine apO (o3) rfl ap85 rfl rfl (rowsH (row := srow (t.next s q bad)) rfl) rfl rfl ((by simp only [srows, List.length_map, List.length_singleton]; omega)) rfl (fun o221 => ?_)
 refine bg (fun w hs => trivial) ?_
 refine tk rfl (PE.assign rfl) rfl ?_
 refine tk rfl (PE.assign rfl) rfl ?_
 refine tk rfl (PE.assign rfl) rfl ?_
 exact sy_cutEnd (o212.cast (by simp [irows]), o216.cast (by simp [brows, brow]), o221.cast (by simp [srows])) (by repeat' first | exact Sub.nil | apply Sub.cons | rfl | (simp [lk]; omega)) (fun w h => ((h.del b211).del b215).del b220)
 exact sy_stop
 refine sy_alt ?_ ?_
 refine bsl (out := [_]) rfl sl80 zl4 rfl rfl rfl rfl rfl rfl (fun b215 => ?_)
 refine bg (fun w hs => ⟨(lhA [_, _, _] ag23 rfl rfl rfl) w hs, trivial⟩) ?_
 refine sy_alt ?_ ?_
 refine apO (o1) rfl ap42 rfl rfl (rowsH (row := [.int .i64 r]) rfl) rfl rfl ((by simp only [irows, List.length_map, List.length_singleton]; have := hch.l1; omega)) rfl (fun o212 => ?_)
 refine bg (fun w hs => ⟨(lhA [_, _, _] ag23 rfl rfl rfl) w hs, trivial⟩) ?_
 refine sy_alt ?_ ?_
 refine apO (o2) rfl ap80 rfl rfl (rowsH (row := [.bool bad]) rfl) rfl rfl ((by simp only [brows, List.length_map, List.length_singleton]; have := hch.l2; omega)) rfl (fun o216 => ?_)
 refine bg (fun w hs => ⟨(lhA [_, _, _] ag23 rfl rfl rfl) w hs, trivial⟩) ?_
 refine bsl (out := [_, _, _]) rfl sl85 zl23 rfl rfl rfl rfl rfl rfl (fun b220 => ?_)
 refine bg (fun w hs => ⟨trivial, trivial⟩) ?_
 refine apO (o3) rfl ap85 rfl rfl (rowsH (row := srow (t.next s q bad)) rfl) rfl rfl ((by simp only [srows, List.length_map, List.length_singleton]; omega)) rfl (fun o221 => ?_)
 refine bg (fun w hs => trivial) ?_
 refine tk rfl (PE.assign rfl) rfl ?_
 refine tk rfl (PE.assign rfl) rfl ?_
 refine tk rfl (PE.assign rfl) rfl ?_
 exact sy_cutEnd (o212.cast (by simp [irows]), o216.cast (by simp [brows, brow]), o221.cast (by simp [srows])) (by repeat' first | exact Sub.nil | apply Sub.cons | rfl | (simp [lk]; omega)) (fun w h => ((h.del b211).del b215).del b220)
 refine sy_alt ?_ ?_
 refine bsl (out := [_, _, _]) rfl sl85 zl23 rfl rfl rfl rfl rfl rfl (fun b220 => ?_)
 refine bg (fun w hs => ⟨trivial, trivial⟩) ?_
 refine apO (o2) rfl ap80 rfl rfl (rowsH (row := [.bool bad]) rfl) rfl rfl ((by simp only [brows, List.length_map, List.length_singleton]; have := hch.l2; omega)) rfl (fun o216 => ?_)
 refine bg (fun w hs => trivial) ?_
 refine apO (o3) rfl ap85 rfl rfl (rowsH (row := srow (t.next s q bad)) rfl) rfl rfl ((by simp only [srows, List.length_map, List.length_singleton]; omega)) rfl (fun o221 => ?_)
 refine bg (fun w hs => trivial) ?_
 refine tk rfl (PE.assign rfl) rfl ?_
 refine tk rfl (PE.assign rfl) rfl ?_
 refine tk rfl (PE.assign rfl) rfl ?_
 exact sy_cutEnd (o212.cast (by simp [irows]), o216.cast (by simp [brows, brow]), o221.cast (by simp [srows])) (by repeat' first | exact Sub.nil | apply Sub.cons | rfl | (simp [lk]; omega)) (fun w h => ((h.del b211).del b215).del b220)
 exact sy_stop
 refine sy_alt ?_ ?_
 refine bsl (out := [_, _, _]) rfl sl85 zl23 rfl rfl rfl rfl rfl rfl (fun b220 => ?_)
 refine bg (fun w hs => ⟨trivial, trivial⟩) ?_
 refine apO (o1) rfl ap42 rfl rfl (rowsH (row := [.int .i64 r]) rfl) rfl rfl ((by simp only [irows, List.length_map, List.length_singleton]; have := hch.l1; omega)) rfl (fun o212 => ?_)
 refine bg (fun w hs => trivial) ?_
 refine apO (o2) rfl ap80 rfl rfl (rowsH (row := [.bool bad]) rfl) rfl rfl ((by simp only [brows, List.length_map, List.length_singleton]; have := hch.l2; omega)) rfl (fun o216 => ?_)
 refine bg (fun w hs => trivial) ?_
 refine apO (o3) rfl ap85 rfl rfl (rowsH (row := srow (t.next s q bad)) rfl) rfl rfl ((by simp only [srows, List.length_map, List.length_singleton]; omega)) rfl (fun o221 => ?_)
 refine bg (fun w hs => trivial) ?_
 refine tk rfl (PE.assign rfl) rfl ?_
 refine tk rfl (PE.assign rfl) rfl ?_
 refine tk rfl (PE.assign rfl) rfl ?_
 exact sy_cutEnd (o212.cast (by simp [irows]), o216.cast (by simp [brows, brow]), o221.cast (by simp [srows])) (by repeat' first | exact Sub.nil | apply Sub.cons | rfl | (simp [lk]; omega)) (fun w h => ((h.del b211).del b215).del b220)
 exact sy_stop
 refine sy_alt ?_ ?_
 refine bsl (out := [_, _, _]) rfl sl85 zl23 rfl rfl rfl rfl rfl rfl (fun b220 => ?_)
 refine bg (fun w hs => ⟨trivial, trivial⟩) ?_
 refine sy_alt ?_ ?_
 refine apO (o1) rfl ap42 rfl rfl (rowsH (row := [.int .i64 r]) rfl) rfl rfl ((by simp only [irows, List.length_map, List.length_singleton]; have := hch.l1; omega)) rfl (fun o212 => ?_)
 refine bg (fun w hs => trivial) ?_
 refine bsl (out := [_]) rfl sl80 zl4 rfl rfl rfl rfl rfl rfl (fun b215 => ?_)
 refine bg (fun w hs => trivial) ?_
 refine apO (o2) rfl ap80 rfl rfl (rowsH (row := [.bool bad]) rfl) rfl rfl ((by simp only [brows, List.length_map, List.length_singleton]; have := hch.l2; omega)) rfl (fun o216 => ?_)
 refine bg (fun w hs => trivial) ?_
 refine apO (o3) rfl ap85 rfl rfl (rowsH (row := srow (t.next s q bad)) rfl) rfl rfl ((by simp only [srows, List.length_map, List.length_singleton]; omega)) rfl (fun o221 => ?_)
 refine bg (fun w hs => trivial) ?_
 refine tk rfl (PE.assign rfl) rfl ?_
 refine tk rfl (PE.assign rfl) rfl ?_
 refine tk rfl (PE.assign rfl) rfl ?_
 exact sy_cutEnd (o212.cast (by simp [irows]), o216.cast (by simp [brows, brow]), o221.cast (by simp [srows])) (by repeat' first | exact Sub.nil | apply Sub.cons | rfl | (simp [lk]; omega)) (fun w h => ((h.del b211).del b215).del b220)
 refine sy_alt ?_ ?_
 refine bsl (out := [_]) rfl sl80 zl4 rfl rfl rfl rfl rfl rfl (fun b215 => ?_)
 refine bg (fun w hs => trivial) ?_
 refine apO (o1) rfl ap42 rfl rfl (rowsH (row := [.int .i64 r]) rfl) rfl rfl ((by simp only [irows, List.length_map, List.length_singleton]; have := hch.l1; omega)) rfl (fun o212 => ?_)
 refine bg (fun w hs => trivial) ?_
 refine apO (o2) rfl ap80 rfl rfl (rowsH (row := [.bool bad]) rfl) rfl rfl ((by simp only [brows, List.length_map, List.length_singleton]; have := hch.l2; omega)) rfl (fun o216 => ?_)
 refine bg (fun w hs => trivial) ?_
 refine apO (o3) rfl ap85 rfl rfl (rowsH (row := srow (t.next s q bad)) rfl) rfl rfl ((by simp only [srows, List.length_map, List.length_singleton]; omega)) rfl (fun o221 => ?_)
 refine bg (fun w hs => trivial) ?_
 refine tk rfl (PE.assign rfl) rfl ?_
 refine tk rfl (PE.assign rfl) rfl ?_
 refine tk rfl (PE.assign rfl) rfl ?_
 exact sy_cutEnd (o212.cast (by simp [irows]), o216.cast (by simp [brows, brow]), o221.cast (by simp [srows])) (by repeat' first | exact Sub.nil | apply Sub.cons | rfl | (simp [lk]; omega)) (fun w h => ((h.del b211).del b215).del b220)
 exact sy_stop
 exact sy_stop
 refine sy_alt ?_ ?_
 refine bsl (out := [_]) rfl sl80 zl4 rfl rfl rfl rfl rfl rfl (fun b215 => ?_)
 refine bg (fun w hs => ⟨(lhA [_, _, _] ag23 rfl rfl rfl) w hs, trivial⟩) ?_
 refine sy_alt ?_ ?_
 refine bsl (out := [_]) rfl sl42 zl3 rfl rfl rfl rfl rfl rfl (fun b211 => ?_)
 refine bg (fun w hs => ⟨(lhA [_, _, _] ag23 rfl rfl rfl) w hs, trivial⟩) ?_
 refine sy_alt ?_ ?_
 refine apO (o1) rfl ap42 rfl rfl (rowsH (row := [.int .i64 r]) rfl) rfl rfl ((by simp only [irows, List.length_map, List.length_singleton]; have := hch.l1; omega)) rfl (fun o212 => ?_)
 refine bg (fun w hs => ⟨(lhA [_, _, _] ag23 rfl rfl rfl) w hs, trivial⟩) ?_
 refine sy_alt ?_ ?_
 refine apO (o2) rfl ap80 rfl rfl (rowsH (row := [.bool bad]) rfl) rfl rfl ((by simp only [brows, List.length_map, List.length_singleton]; have := hch.l2; omega)) rfl (fun o216 => ?_)
 refine bg (fun w hs => ⟨(lhA [_, _, _] ag23 rfl rfl rfl) w hs, trivial⟩) ?_
 refine bsl (out := [_, _, _]) rfl sl85 zl23 rfl rfl rfl rfl rfl rfl (fun b220 => ?_)
 refine bg (fun w hs => ⟨trivial, trivial⟩) ?_
 refine apO (o3) rfl ap85 rfl rfl (rowsH (row := srow (t.next s q bad)) rfl) rfl rfl ((by simp only [srows, List.length_map, List.length_singleton]; omega)) rfl (fun o221 => ?_)
 refine bg (fun w hs => trivial) ?_
 refine tk rfl (PE.assign rfl) rfl ?_
 refine tk rfl (PE.assign rfl) rfl ?_
 refine tk rfl (PE.assign rfl) rfl ?_
 exact sy_cutEnd (o212.cast (by simp [irows]), o216.cast (by simp [brows, brow]), o221.cast (by simp [srows])) (by repeat' first | exact Sub.nil | apply Sub.cons | rfl | (simp [lk]; omega)) (fun w h => ((h.del b211).del b215).del b220)
 refine sy_alt ?_ ?_
 refine bsl (out := [_, _, _]) rfl sl85 zl23 rfl rfl rfl rfl rfl rfl (fun b220 => ?_)
 refine bg (fun w hs => ⟨trivial, trivial⟩) ?_
 refine apO (o2) rfl ap80 rfl rfl (rowsH (row := [.bool bad]) rfl) rfl rfl ((by simp only [brows, List.length_map, List.length_singleton]; have := hch.l2; omega)) rfl (fun o216 => ?_)
 refine bg (fun w hs => trivial) ?_
 refine apO (o3) rfl ap85 rfl rfl (rowsH (row := srow (t.next s q bad)) rfl) rfl rfl ((by simp only [srows, List.length_map, List.length_singleton]; omega)) rfl (fun o221 => ?_)
 refine bg (fun w hs => trivial) ?_
 refine tk rfl (PE.assign rfl) rfl ?_
 refine tk rfl (PE.assign rfl) rfl ?_
 refine tk rfl (PE.assign rfl) rfl ?_
 exact sy_cutEnd (o212.cast (by simp [irows]), o216.cast (by simp [brows, brow]), o221.cast (by simp [srows])) (by repeat' first | exact Sub.nil | apply Sub.cons | rfl | (simp [lk]; omega)) (fun w h => ((h.del b211).del b215).del b220)
 exact sy_stop
 refine sy_alt ?_ ?_
 refine bsl (out := [_, _, _]) rfl sl85 zl23 rfl rfl rfl rfl rfl rfl (fun b220 => ?_)
 refine bg (fun w hs => ⟨trivial, trivial⟩) ?_
 refine apO (o1) rfl ap42 rfl rfl (rowsH (row := [.int .i64 r]) rfl) rfl rfl ((by simp only [irows, List.length_map, List.length_singleton]; have := hch.l1; omega)) rfl (fun o212 => ?_)
 refine bg (fun w hs => trivial) ?_
 refine apO (o2) rfl ap80 rfl rfl (rowsH (row := [.bool bad]) rfl) rfl rfl ((by simp only [brows, List.length_map, List.length_singleton]; have := hch.l2; omega)) rfl (fun o216 => ?_)
 refine bg (fun w hs => trivial) ?_
 refine apO (o3) rfl ap85 rfl rfl (rowsH (row := srow (t.next s q bad)) rfl) rfl rfl ((by simp only [srows, List.length_map, List.length_singleton]; omega)) rfl (fun o221 => ?_)
 refine bg (fun w hs => trivial) ?_
 refine tk rfl (PE.assign rfl) rfl ?_
 refine tk rfl (PE.assign rfl) rfl ?_
 refine tk rfl (PE.assign rfl) rfl ?_
 exact sy_cutEnd (o212.cast (by simp [irows]), o216.cast (by simp [brows, brow]), o221.cast (by simp [srows])) (by repeat' first | exact Sub.nil | apply Sub.cons | rfl | (simp [lk]; omega)) (fun w h => ((h.del b211).del b215).del b220)
 exact sy_stop
 refine sy_alt ?_ ?_
 refine bsl (out := [_, _, _]) rfl sl85 zl23 rfl rfl rfl rfl rfl rfl (fun b220 => ?_)
 refine bg (fun w hs => ⟨trivial, trivial⟩) ?_
 refine bsl (out := [_]) rfl sl42 zl3 rfl rfl rfl rfl rfl rfl (fun b211 => ?_)
 refine bg (fun w hs => trivial) ?_
 refine apO (o1) rfl ap42 rfl rfl (rowsH (row := [.int .i64 r]) rfl) rfl rfl ((by simp only [irows, List.length_map, List.length_singleton]; have := hch.l1; omega)) rfl (fun o212 => ?_)
 refine bg (fun w hs => trivial) ?_
 refine apO (o2) rfl ap80 rfl rfl (rowsH (row := [.bool bad]) rfl) rfl rfl ((by simp only [brows, List.length_map, List.length_singleton]; have := hch.l2; omega)) rfl (fun o216 => ?_)
 refine bg (fun w hs => trivial) ?_
 refine apO (o3) rfl ap85 rfl rfl (rowsH (row := srow (t.next s q bad)) rfl) rfl rfl ((by simp only [srows, List.length_map, List.length_singleton]; omega)) rfl (fun o221 => ?_)
 refine bg (fun w hs => trivial) ?_
 refine tk rfl (PE.assign rfl) rfl ?_
 refine tk rfl (PE.assign rfl) rfl ?_
 refine tk rfl (PE.assign rfl) rfl ?_
 exact sy_cutEnd (o212.cast (by simp [irows]), o216.cast (by simp [brows, brow]), o221.cast (by simp [srows])) (by repeat' first | exact Sub.nil | apply Sub.cons | rfl | (simp [lk]; omega)) (fun w h => ((h.del b211).del b215).del b220)
 exact sy_stop
 refine sy_alt ?_ ?_
 refine bsl (out := [_, _, _]) rfl sl85 zl23 rfl rfl rfl rfl rfl rfl (fun b220 => ?_)
 refine bg (fun w hs => ⟨trivial, trivial⟩) ?_
 refine sy_alt ?_ ?_
 refine bsl (out := [_]) rfl sl42 zl3 rfl rfl rfl rfl rfl rfl (fun b211 => ?_)
 refine bg (fun w hs => trivial) ?_
 refine sy_alt ?_ ?_
 refine apO (o1) rfl ap42 rfl rfl (rowsH (row := [.int .i64 r]) rfl) rfl rfl ((by simp only [irows, List.length_map, List.length_singleton]; have := hch.l1; omega)) rfl (fun o212 => ?_)
 refine bg (fun w hs => trivial) ?_
 refine bsl (out := [_]) rfl sl80 zl4 rfl rfl rfl rfl rfl rfl (fun b215 => ?_)
 refine bg (fun w hs => trivial) ?_
 refine apO (o2) rfl ap80 rfl rfl (rowsH (row := [.bool bad]) rfl) rfl rfl ((by simp only [brows, List.length_map, List.length_singleton]; have := hch.l2; omega)) rfl (fun o216 => ?_)
 refine bg (fun w hs => trivial) ?_
 refine apO (o3) rfl ap85 rfl rfl (rowsH (row := srow (t.next s q bad)) rfl) rfl rfl ((by simp only [srows, List.length_map, List.length_singleton]; omega)) rfl (fun o221 => ?_)
 refine bg (fun w hs => trivial) ?_
 refine tk rfl (PE.assign rfl) rfl ?_
 refine tk rfl (PE.assign rfl) rfl ?_
 refine tk rfl (PE.assign rfl) rfl ?_
 exact sy_cutEnd (o212.cast (by simp [irows]), o216.cast (by simp [brows, brow]), o221.cast (by simp [srows])) (by repeat' first | exact Sub.nil | apply Sub.cons | rfl | (simp [lk]; omega)) (fun w h => ((h.del b211).del b215).del b220)
 refine sy_alt ?_ ?_
 refine bsl (out := [_]) rfl sl80 zl4 rfl rfl rfl rfl rfl rfl (fun b215 => ?_)
 refine bg (fun w hs => trivial) ?_
 refine apO (o1) rfl ap42 rfl rfl (rowsH (row := [.int .i64 r]) rfl) rfl rfl ((by simp only [irows, List.length_map, List.length_singleton]; have := hch.l1; omega)) rfl (fun o212 => ?_)
 refine bg (fun w hs => trivial) ?_
 refine apO (o2) rfl ap80 rfl rfl (rowsH (row := [.bool bad]) rfl) rfl rfl ((by simp only [brows, List.length_map, List.length_singleton]; have := hch.l2; omega)) rfl (fun o216 => ?_)
 refine bg (fun w hs => trivial) ?_
 refine apO (o3) rfl ap85 rfl rfl (rowsH (row := srow (t.next s q bad)) rfl) rfl rfl ((by simp only [srows, List.length_map, List.length_singleton]; omega)) rfl (fun o221 => ?_)
 refine bg (fun w hs => trivial) ?_
 refine tk rfl (PE.assign rfl) rfl ?_
 refine tk rfl (PE.assign rfl) rfl ?_
 refine tk rfl (PE.assign rfl) rfl ?_
 exact sy_cutEnd (o212.cast (by simp [irows]), o216.cast (by simp [brows, brow]), o221.cast (by simp [srows])) (by repeat' first | exact Sub.nil | apply Sub.cons | rfl | (simp [lk]; omega)) (fun w h => ((h.del b211).del b215).del b220)
 exact sy_stop
 refine sy_alt ?_ ?_
 refine bsl (out := [_]) rfl sl80 zl4 rfl rfl rfl rfl rfl rfl (fun b215 => ?_)
 refine bg (fun w hs => trivial) ?_
 refine bsl (out := [_]) rfl sl42 zl3 rfl rfl rfl rfl rfl rfl (fun b211 => ?_)
 refine bg (fun w hs => trivial) ?_
 refine apO (o1) rfl ap42 rfl rfl (rowsH (row := [.int .i64 r]) rfl) rfl rfl ((by simp only [irows, List.length_map, List.length_singleton]; have := hch.l1; omega)) rfl (fun o212 => ?_)
 refine bg (fun w hs => trivial) ?_
 refine apO (o2) rfl ap80 rfl rfl (rowsH (row := [.bool bad]) rfl) rfl rfl ((by simp only [brows, List.length_map, List.length_singleton]; have := hch.l2; omega)) rfl (fun o216 => ?_)
 refine bg (fun w hs => trivial) ?_
 refine apO (o3) rfl ap85 rfl rfl (rowsH (row := srow (t.next s q bad)) rfl) rfl rfl ((by simp only [srows, List.length_map, List.length_singleton]; omega)) rfl (fun o221 => ?_)
 refine bg (fun w hs => trivial) ?_
 refine tk rfl (PE.assign rfl) rfl ?_
 refine tk rfl (PE.assign rfl) rfl ?_
 refine tk rfl (PE.assign rfl) rfl ?_
 exact sy_cutEnd (o212.cast (by simp [irows]), o216.cast (by simp [brows, brow]), o221.cast (by simp [srows])) (by repeat' first | exact Sub.nil | apply Sub.cons | rfl | (simp [lk]; omega)) (fun w h => ((h.del b211).del b215).del b220)
 exact sy_stop
 exact sy_stop
 rintro ⟨o1, o2, o3⟩
 dsimp only
 refine sy_seq ?_
 refine sy_tx' [0, 1, 2, 3] rfl ?_
 refine spL rfl rfl (lhA [_, _, _, _, _, _, _, _, _, _, _] ag26 rfl rfl rfl) rfl ?_
 refine sp rfl (PE.move rfl) rfl ?_
 refine sto rfl rfl rfl cn26 rfl rfl rfl rfl ?_
 refine sp rfl (PE.assign rfl) rfl ?_
 refine sy_seq ?_
 refine sy_tx' [0, 1, 2, 3, 4] rfl ?_
 refine sp rfl (PE.move rfl) rfl ?_
 refine sp rfl (PE.move rfl) rfl ?_
 refine sy_case (t := 225) rfl (fun g225 => ?_) (fun g225 => ?_)
 refine spG rfl rfl rfl rfl (PE.move rfl) rfl ?_
 refine spG rfl rfl rfl rfl (PE.eql rfl rfl) rfl ?_
 refine sp rfl (PE.pick rfl rfl rfl) rfl ?_
 refine sy_cond rfl (fun hc10 => ?_) (fun hc10 => ?_)
 exact absurd hc10 (by rw [decide_eq_false (by have := hm3 g225; omega)]; simp)
 refine sy_skip ?_
 refine sy_tx' [0, 1] rfl ?_
 refine sp rfl (PE.add rfl rfl (by omega)) rfl ?_
 refine sp rfl (PE.move rfl) rfl ?_
 exact sy_next ⟨⟨(k + 1, t.next s q bad, rs ++ [(r : Int)], bs ++ [bad], ss ++ [t.next s q bad], tq2, mz2, by_, 0, cy), by omega, by simp [hsl], hch.more hnx hnr, by dsimp only; omega, by assumption⟩, o1, o2, o3⟩ (by dsimp only; omega) (by repeat' first | exact Sub.nil | apply Sub.cons | rfl | (simp [lk]; omega)) (fun w h => St.sub (h.del b23))
 repeat refine spN rfl rfl rfl rfl rfl rfl rfl rfl ?_
 refine sp rfl (PE.pick rfl rfl rfl) rfl ?_
 refine sy_condF rfl ?_
 refine sy_skip ?_
 refine sy_tx' [0, 1] rfl ?_
 refine sp rfl (PE.add rfl rfl (by omega)) rfl ?_
 refine sp rfl (PE.move rfl) rfl ?_
 exact sy_next ⟨⟨(k + 1, t.next s q bad, rs ++ [(r : Int)], bs ++ [bad], ss ++ [t.next s q bad], tq2, mz2, by_, 0, cy), by omega, by simp [hsl], hch.more hnx hnr, by dsimp only; omega, by assumption⟩, o1, o2, o3⟩ (by dsimp only; omega) (by repeat' first | exact Sub.nil | apply Sub.cons | rfl | (simp [lk]; omega)) (fun w h => St.sub (h.del b23))
 repeat refine tkN rfl rfl rfl rfl rfl rfl rfl rfl ?_
 refine tkG rfl rfl rfl rfl (PE.pick rfl rfl rfl) rfl ?_
 refine tk rfl (PE.pick rfl rfl rfl) rfl ?_
 refine sy_condF rfl ?_
 refine sy_skip ?_
 refine sy_seq ?_
 refine sy_cut (ι := OSl 3 1 (irows (rs ++ [(r : Int)])) × OSl 4 1 (brows (bs ++ [bad])) × OSl 23 3 (srows (ss ++ [t.next s q bad]))) (fun z => ⟨[(5, .pointer (some ⟨b5, 0, none⟩)), (6, .pointer (some ⟨bh, 0, none⟩)), (7, .int .i64 (lat (LY t) s)), (9, .pointer (some ⟨b9, 0, none⟩)), (10, z.1.fs), (11, z.2.1.fs), (12, z.2.2.fs), (40, .int .i64 k), (21, .int .i64 r), (22, .bool bad), (23, .pointer (some ⟨b23, 0, none⟩)), (24, .int .i64 (lat (LY t) (t.next s q bad)))], (b23, cel 26 (twl { t with now := t.next s q bad } (.slice (some ⟨by_, 0, none⟩) t.rats.length cy))) :: (bh, cel 168 [.slice ah h.length ch, .int .i64 (tq2), .int .u32 (mz2)]) :: (z.1.G ++ (z.2.1.G ++ (z.2.2.G ++ (b9, cel 26 (twl { t with now := s } (.slice (some ⟨bn, on, none⟩) t.rats.length cn))) :: (b5, cel 26 (twl { t with now := t.now } (.slice (some ⟨ba, oa, none⟩) t.rats.length ca))) :: H))), RowsA (some ⟨by_, 0, none⟩) 2 (rrows t.rats) :: RowsA (some ⟨bn, on, none⟩) 2 (rrows t.rats) :: RowsA (some ⟨ba, oa, none⟩) 2 (rrows t.rats) :: R⟩) ?_ ?_
 refine sy_draw [0, 0, 2, 7, 0, 0, 32, 127, 0, 0, 512, 1536, 4095, 8191, 16383, 32767] (.tk 0 (.tk 1 (.tk 4 (.tk 5 (.tk 8 (.tk 9 (.ld 10 (.any (.alt 2 (.any (.alt 3 (.any (.alt 6 (.any (.alt 7 (.big 11 (.big 12 (.tk 13 (.tk 14 (.tk 15 .done))))) (.alt 11 (.big 7 (.big 12 (.tk 13 (.tk 14 (.tk 15 .done))))) .stop))) (.alt 11 (.big 6 (.big 7 (.big 12 (.tk 13 (.tk 14 (.tk 15 .done)))))) .stop))) (.alt 6 (.any (.alt 3 (.any (.alt 7 (.big 11 (.big 12 (.tk 13 (.tk 14 (.tk 15 .done))))) (.alt 11 (.big 7 (.big 12 (.tk 13 (.tk 14 (.tk 15 .done))))) .stop))) (.alt 11 (.big 3 (.big 7 (.big 12 (.tk 13 (.tk 14 (.tk 15 .done)))))) .stop))) (.alt 11 (.any (.alt 3 (.big 6 (.big 7 (.big 12 (.tk 13 (.tk 14 (.tk 15 .done)))))) (.alt 6 (.big 3 (.big 7 (.big 12 (.tk 13 (.tk 14 (.tk 15 .done)))))) .stop))) .stop)))) (.alt 6 (.any (.alt 2 (.any (.alt 3 (.any (.alt 7 (.big 11 (.big 12 (.tk 13 (.tk 14 (.tk 15 .done))))) (.alt 11 (.big 7 (.big 12 (.tk 13 (.tk 14 (.tk 15 .done))))) .stop))) (.alt 11 (.big 3 (.big 7 (.big 12 (.tk 13 (.tk 14 (.tk 15 .done)))))) .stop))) (.alt 11 (.big 2 (.big 3 (.big 7 (.big 12 (.tk 13 (.tk 14 (.tk 15 .done))))))) .stop))) (.alt 11 (.any (.alt 2 (.any (.alt 3 (.big 6 (.big 7 (.big 12 (.tk 13 (.tk 14 (.tk 15 .done)))))) (.alt 6 (.big 3 (.big 7 (.big 12 (.tk 13 (.tk 14 (.tk 15 .done)))))) .stop))) (.alt 6 (.big 2 (.big 3 (.big 7 (.big 12 (.tk 13 (.tk 14 (.tk 15 .done))))))) .stop))) .stop))))))))))) mixed (by kernel_rfl) ?_
 refine tk rfl (PE.move rfl) rfl ?_
 refine tk rfl (PE.move rfl) rfl ?_
 refine tk rfl (PE.move rfl) rfl ?_
 refine tk rfl (PE.move rfl) rfl ?_
 refine tk rfl (PE.move rfl) rfl ?_
 refine tk rfl (PE.fieldAddr fo26_0 rfl) rfl ?_
 refine ld rfl rfl (lhA [_, _, _] ag23 rfl rfl rfl) rfl ?_
 refine sy_alt ?_ ?_
 refine bsl (out := [_]) rfl sl42 zl3 rfl rfl rfl rfl rfl rfl (fun b211 => ?_)
 refine bg (fun w hs => ⟨(lhA [_, _, _] ag23 rfl rfl rfl) w hs, trivial⟩) ?_
 refine sy_alt ?_ ?_
 refine apO (o1) rfl ap42 rfl rfl (rowsH (row := [.int .i64 r]) rfl) rfl rfl ((by simp only [irows, List.length_map, List.length_singleton]; have := hch.l1; omega)) rfl (fun o212 => ?_)
 refine bg (fun w hs => ⟨(lhA [_, _, _] ag23 rfl rfl rfl) w hs, trivial⟩) ?_
 refine sy_alt ?_ ?_
 refine bsl (out := [_]) rfl sl80 zl4 rfl rfl rfl rfl rfl rfl (fun b215 => ?_)
 refine bg (fun w hs => ⟨(lhA [_, _, _] ag23 rfl rfl rfl) w hs, trivial⟩) ?_
 refine sy_alt ?_ ?_
 refine apO (o2) rfl ap80 rfl rfl (rowsH (row := [.bool bad]) rfl) rfl rfl ((by simp only [brows, List.length_map, List.length_singleton]; have := hch.l2; omega)) rfl (fun o216 => ?_)
 refine bg (fun w hs => ⟨(lhA [_, _, _] ag23 rfl rfl rfl) w hs, trivial⟩) ?_
 refine bsl (out := [_, _, _]) rfl sl85 zl23 rfl rfl rfl rfl rfl rfl (fun b220 => ?_)
 refine bg (fun w hs => ⟨trivial, trivial⟩) ?_
 refine apO (o3) rfl ap85 rfl rfl (rowsH (row := srow (t.next s q bad)) rfl) rfl rfl ((by simp only [srows, List.length_map, List.length_singleton]; omega)) rfl (fun o221 => ?_)
 refine bg (fun w hs => trivial) ?_
 refine tk rfl (PE.assign rfl) rfl ?_
 refine tk rfl (PE.assign rfl) rfl ?_
 refine tk rfl (PE.assign rfl) rfl ?_
 exact sy_cutEnd (o212.cast (by simp [irows]), o216.cast (by simp [brows, brow]), o221.cast (by simp [srows])) (by repeat' first | exact Sub.nil | apply Sub.cons | rfl | (simp [lk]; omega)) (fun w h => ((h.del b211).del b215).del b220)
 refine sy_alt ?_ ?_
 refine bsl (out := [_, _, _]) rfl sl85 zl23 rfl rfl rfl rfl rfl rfl (fun b220 => ?_)
 refine bg (fun w hs => ⟨trivial, trivial⟩) ?_
 refine apO (o2) rfl ap80 rfl rfl (rowsH (row := [.bool bad]) rfl) rfl rfl ((by simp only [brows, List.length_map, List.length_singleton]; have := hch.l2; omega)) rfl (fun o216 => ?_)
 refine bg (fun w hs => trivial) ?_
 refine apO (o3) rfl ap85 rfl rfl (rowsH (row := srow (t.next s q bad)) rfl) rfl rfl ((by simp only [srows, List.length_map, List.length_singleton]; omega)) rfl (fun o221 => ?_)
 refine bg (fun w hs => trivial) ?_
 refine tk rfl (PE.assign rfl) rfl ?_
 refine tk rfl (PE.assign rfl) rfl ?_
 refine tk rfl (PE.assign rfl) rfl ?_
 exact sy_cutEnd (o212.cast (by simp [irows]), o216.cast (by simp [brows, brow]), o221.cast (by simp [srows])) (by repeat' first | exact Sub.nil | apply Sub.cons | rfl | (simp [lk]; omega)) (fun w h => ((h.del b211).del b215).del b220)
 exact sy_stop
 refine sy_alt ?_ ?_
 refine bsl (out := [_, _, _]) rfl sl85 zl23 rfl rfl rfl rfl rfl rfl (fun b220 => ?_)
 refine bg (fun w hs => ⟨trivial, trivial⟩) ?_
 refine bsl (out := [_]) rfl sl80 zl4 rfl rfl rfl rfl rfl rfl (fun b215 => ?_)
 refine bg (fun w hs => trivial) ?_
 refine apO (o2) rfl ap80 rfl rfl (rowsH (row := [.bool bad]) rfl) rfl rfl ((by simp only [brows, List.length_map, List.length_singleton]; have := hch.l2; omega)) rfl (fun o216 => ?_)
 refine bg (fun w hs => trivial) ?_
 refine apO (o3) rfl ap85 rfl rfl (rowsH (row := srow (t.next s q bad)) rfl) rfl rfl ((by simp only [srows, List.length_map, List.length_singleton]; omega)) rfl (fun o221 => ?_)
 refine bg (fun w hs => trivial) ?_
 refine tk rfl (PE.assign rfl) rfl ?_
 refine tk rfl (PE.assign rfl) rfl ?_
 refine tk rfl (PE.assign rfl) rfl ?_
 exact sy_cutEnd (o212.cast (by simp [irows]), o216.cast (by simp [brows, brow]), o221.cast (by simp [srows])) (by repeat' first | exact Sub.nil | apply Sub.cons | rfl | (simp [lk]; omega)) (fun w h => ((h.del b211).del b215).del b220)
 exact sy_stop
 refine sy_alt ?_ ?_
 refine bsl (out := [_]) rfl sl80 zl4 rfl rfl rfl rfl rfl rfl (fun b215 => ?_)
 refine bg (fun w hs => ⟨(lhA [_, _, _] ag23 rfl rfl rfl) w hs, trivial⟩) ?_
 refine sy_alt ?_ ?_
 refine apO (o1) rfl ap42 rfl rfl (rowsH (row := [.int .i64 r]) rfl) rfl rfl ((by simp only [irows, List.length_map, List.length_singleton]; have := hch.l1; omega)) rfl (fun o212 => ?_)
 refine bg (fun w hs => ⟨(lhA [_, _, _] ag23 rfl rfl rfl) w hs, trivial⟩) ?_
 refine sy_alt ?_ ?_
 refine apO (o2) rfl ap80 rfl rfl (rowsH (row := [.bool bad]) rfl) rfl rfl ((by simp only [brows, List.length_map, List.length_singleton]; have := hch.l2; omega)) rfl (fun o216 => ?_)
 refine bg (fun w hs => ⟨(lhA [_, _, _] ag23 rfl rfl rfl) w hs, trivial⟩) ?_
 refine bsl (out := [_, _, _]) rfl sl85 zl23 rfl rfl rfl rfl rfl rfl (fun b220 => ?_)
 refine bg (fun w hs => ⟨trivial, trivial⟩) ?_
 refine apO (o3) rfl ap85 rfl rfl (rowsH (row := srow (t.next s q bad)) rfl) rfl rfl ((by simp only [srows, List.length_map, List.length_singleton]; omega)) rfl (fun o221 => ?_)
 refine bg (fun w hs => trivial) ?_
 refine tk rfl (PE.assign rfl) rfl ?_
 refine tk rfl (PE.assign rfl) rfl ?_
 refine tk rfl (PE.assign rfl) rfl ?_
 exact sy_cutEnd (o212.cast (by simp [irows]), o216.cast (by simp [brows, brow]), o221.cast (by simp [srows])) (by repeat' first | exact Sub.nil | apply Sub.cons | rfl | (simp [lk]; omega)) (fun w h => ((h.del b211).del b215).del b220)
 refine sy_alt ?_ ?_
 refine bsl (out := [_, _, _]) rfl sl85 zl23 rfl rfl rfl rfl rfl rfl (fun b220 => ?_)
 refine bg (fun w hs => ⟨trivial, trivial⟩) ?_
 refine apO (o2) rfl ap80 rfl rfl (rowsH (row := [.bool bad]) rfl) rfl rfl ((by simp only [brows, List.length_map, List.length_singleton]; have := hch.l2; omega)) rfl (fun o216 => ?_)
 refine bg (fun w hs => trivial) ?_
 refine apO (o3) rfl ap85 rfl rfl (rowsH (row := srow (t.next s q bad)) rfl) rfl rfl ((by simp only [srows, List.length_map, List.length_singleton]; omega)) rfl (fun o221 => ?_)
 refine bg (fun w hs => trivial) ?_
 refine tk rfl (PE.assign rfl) rfl ?_
 refine tk rfl (PE.assign rfl) rfl ?_
 refine tk rfl (PE.assign rfl) rfl ?_
 exact sy_cutEnd (o212.cast (by simp [irows]), o216.cast (by simp [brows, brow]), o221.cast (by simp [srows])) (by repeat' first | exact Sub.nil | apply Sub.cons | rfl | (simp [lk]; omega)) (fun w h => ((h.del b211).del b215).del b220)
 exact sy_stop
 refine sy_alt ?_ ?_
 refine bsl (out := [_, _, _]) rfl sl85 zl23 rfl rfl rfl rfl rfl rfl (fun b220 => ?_)
 refine bg (fun w hs => ⟨trivial, trivial⟩) ?_
 refine apO (o1) rfl ap42 rfl rfl (rowsH (row := [.int .i64 r]) rfl) rfl rfl ((by simp only [irows, List.length_map, List.length_singleton]; have := hch.l1; omega)) rfl (fun o212 => ?_)
 refine bg (fun w hs => trivial) ?_
 refine apO (o2) rfl ap80 rfl rfl (rowsH (row := [.bool bad]) rfl) rfl rfl ((by simp only [brows, List.length_map, List.length_singleton]; have := hch.l2; omega)) rfl (fun o216 => ?_)
 refine bg (fun w hs => trivial) ?_
 refine apO (o3) rfl ap85 rfl rfl (rowsH (row := srow (t.next s q bad)) rfl) rfl rfl ((by simp only [srows, List.length_map, List.length_singleton]; omega)) rfl (fun o221 => ?_)
 refine bg (fun w hs => trivial) ?_
 refine tk rfl (PE.assign rfl) rfl ?_
 refine tk rfl (PE.assign rfl) rfl ?_
 refine tk rfl (PE.assign rfl) rfl ?_
 exact sy_cutEnd (o212.cast (by simp [irows]), o216.cast (by simp [brows, brow]), o221.cast (by simp [srows])) (by repeat' first | exact Sub.nil | apply Sub.cons | rfl | (simp [lk]; omega)) (fun w h => ((h.del b211).del b215).del b220)
 exact sy_stop
 refine sy_alt ?_ ?_
 refine bsl (out := [_, _, _]) rfl sl85 zl23 rfl rfl rfl rfl rfl rfl (fun b220 => ?_)
 refine bg (fun w hs => ⟨trivial, trivial⟩) ?_
 refine sy_alt ?_ ?_
 refine apO (o1) rfl ap42 rfl rfl (rowsH (row := [.int .i64 r]) rfl) rfl rfl ((by simp only [irows, List.length_map, List.length_singleton]; have := hch.l1; omega)) rfl (fun o212 => ?_)
 refine bg (fun w hs => trivial) ?_
 refine bsl (out := [_]) rfl sl80 zl4 rfl rfl rfl rfl rfl rfl (fun b215 => ?_)
 refine bg (fun w hs => trivial) ?_
 refine apO (o2) rfl ap80 rfl rfl (rowsH (row := [.bool bad]) rfl) rfl rfl ((by simp only [brows, List.length_map, List.length_singleton]; have := hch.l2; omega)) rfl (fun o216 => ?_)
 refine bg (fun w hs => trivial) ?_
 refine apO (o3) rfl ap85 rfl rfl (rowsH (row := srow (t.next s q bad)) rfl) rfl rfl ((by simp only [srows, List.length_map, List.length_singleton]; omega)) rfl (fun o221 => ?_)
 refine bg (fun w hs => trivial) ?_
 refine tk rfl (PE.assign rfl) rfl ?_
 refine tk rfl (PE.assign rfl) rfl ?_
 refine tk rfl (PE.assign rfl) rfl ?_
 exact sy_cutEnd (o212.cast (by simp [irows]), o216.cast (by simp [brows, brow]), o221.cast (by simp [srows])) (by repeat' first | exact Sub.nil | apply Sub.cons | rfl | (simp [lk]; omega)) (fun w h => ((h.del b211).del b215).del b220)
 refine sy_alt ?_ ?_
 refine bsl (out := [_]) rfl sl80 zl4 rfl rfl rfl rfl rfl rfl (fun b215 => ?_)
 refine bg (fun w hs => trivial) ?_
 refine apO (o1) rfl ap42 rfl rfl (rowsH (row := [.int .i64 r]) rfl) rfl rfl ((by simp only [irows, List.length_map, List.length_singleton]; have := hch.l1; omega)) rfl (fun o212 => ?_)
 refine bg (fun w hs => trivial) ?_
 refine apO (o2) rfl ap80 rfl rfl (rowsH (row := [.bool bad]) rfl) rfl rfl ((by simp only [brows, List.length_map, List.length_singleton]; have := hch.l2; omega)) rfl (fun o216 => ?_)
 refine bg (fun w hs => trivial) ?_
 refine apO (o3) rfl ap85 rfl rfl (rowsH (row := srow (t.next s q bad)) rfl) rfl rfl ((by simp only [srows, List.length_map, List.length_singleton]; omega)) rfl (fun o221 => ?_)
 refine bg (fun w hs => trivial) ?_
 refine tk rfl (PE.assign rfl) rfl ?_
 refine tk rfl (PE.assign rfl) rfl ?_
 refine tk rfl (PE.assign rfl) rfl ?_
 exact sy_cutEnd (o212.cast (by simp [irows]), o216.cast (by simp [brows, brow]), o221.cast (by simp [srows])) (by repeat' first | exact Sub.nil | apply Sub.cons | rfl | (simp [lk]; omega)) (fun w h => ((h.del b211).del b215).del b220)
 exact sy_stop
 exact sy_stop
 refine sy_alt ?_ ?_
 refine bsl (out := [_]) rfl sl80 zl4 rfl rfl rfl rfl rfl rfl (fun b215 => ?_)
 refine bg (fun w hs => ⟨(lhA [_, _, _] ag23 rfl rfl rfl) w hs, trivial⟩) ?_
 refine sy_alt ?_ ?_
 refine bsl (out := [_]) rfl sl42 zl3 rfl rfl rfl rfl rfl rfl (fun b211 => ?_)
 refine bg (fun w hs => ⟨(lhA [_, _, _] ag23 rfl rfl rfl) w hs, trivial⟩) ?_
 refine sy_alt ?_ ?_
 refine apO (o1) rfl ap42 rfl rfl (rowsH (row := [.int .i64 r]) rfl) rfl rfl ((by simp only [irows, List.length_map, List.length_singleton]; have := hch.l1; omega)) rfl (fun o212 => ?_)
 refine bg (fun w hs => ⟨(lhA [_, _, _] ag23 rfl rfl rfl) w hs, trivial⟩) ?_
 refine sy_alt ?_ ?_
 refine apO (o2) rfl ap80 rfl rfl (rowsH (row := [.bool bad]) rfl) rfl rfl ((by simp only [brows, List.length_map, List.length_singleton]; have := hch.l2; omega)) rfl (fun o216 => ?_)
 refine bg (fun w hs => ⟨(lhA [_, _, _] ag23 rfl rfl rfl) w hs, trivial⟩) ?_
 refine bsl (out := [_, _, _]) rfl sl85 zl23 rfl rfl rfl rfl rfl rfl (fun b220 => ?_)
 refine bg (fun w hs => ⟨trivial, trivial⟩) ?_
 refine apO (o3) rfl ap85 rfl rfl (rowsH (row := srow (t.next s q bad)) rfl) rfl rfl ((by simp only [srows, List.length_map, List.length_singleton]; omega)) rfl (fun o221 => ?_)
 refine bg (fun w hs => trivial) ?_
 refine tk rfl (PE.assign rfl) rfl ?_
 refine tk rfl (PE.assign rfl) rfl ?_
 refine tk rfl (PE.assign rfl) rfl ?_
 exact sy_cutEnd (o212.cast (by simp [irows]), o216.cast (by simp [brows, brow]), o221.cast (by simp [srows])) (by repeat' first | exact Sub.nil | apply Sub.cons | rfl | (simp [lk]; omega)) (fun w h => ((h.del b211).del b215).del b220)
 refine sy_alt ?_ ?_
 refine bsl (out := [_, _, _]) rfl sl85 zl23 rfl rfl rfl rfl rfl rfl (fun b220 => ?_)
 refine bg (fun w hs => ⟨trivial, trivial⟩) ?_
 refine apO (o2) rfl ap80 rfl rfl (rowsH (row := [.bool bad]) rfl) rfl rfl ((by simp only [brows, List.length_map, List.length_singleton]; have := hch.l2; omega)) rfl (fun o216 => ?_)
 refine bg (fun w hs => trivial) ?_
 refine apO (o3) rfl ap85 rfl rfl (rowsH (row := srow (t.next s q bad)) rfl) rfl rfl ((by simp only [srows, List.length_map, List.length_singleton]; omega)) rfl (fun o221 => ?_)
 refine bg (fun w hs => trivial) ?_
 refine tk rfl (PE.assign rfl) rfl ?_
 refine tk rfl (PE.assign rfl) rfl ?_
 refine tk rfl (PE.assign rfl) rfl ?_
 exact sy_cutEnd (o212.cast (by simp [irows]), o216.cast (by simp [brows, brow]), o221.cast (by simp [srows])) (by repeat' first | exact Sub.nil | apply Sub.cons | rfl | (simp [lk]; omega)) (fun w h => ((h.del b211).del b215).del b220)
 exact sy_stop
 refine sy_alt ?_ ?_
 refine bsl (out := [_, _, _]) rfl sl85 zl23 rfl rfl rfl rfl rfl rfl (fun b220 => ?_)
 refine bg (fun w hs => ⟨trivial, trivial⟩) ?_
 refine apO (o1) rfl ap42 rfl rfl (rowsH (row := [.int .i64 r]) rfl) rfl rfl ((by simp only [irows, List.length_map, List.length_singleton]; have := hch.l1; omega)) rfl (fun o212 => ?_)
 refine bg (fun w hs => trivial) ?_
 refine apO (o2) rfl ap80 rfl rfl (rowsH (row := [.bool bad]) rfl) rfl rfl ((by simp only [brows, List.length_map, List.length_singleton]; have := hch.l2; omega)) rfl (fun o216 => ?_)
 refine bg (fun w hs => trivial) ?_
 refine apO (o3) rfl ap85 rfl rfl (rowsH (row := srow (t.next s q bad)) rfl) rfl rfl ((by simp only [srows, List.length_map, List.length_singleton]; omega)) rfl (fun o221 => ?_)
 refine bg (fun w hs => trivial) ?_
 refine tk rfl (PE.assign rfl) rfl ?_
 refine tk rfl (PE.assign rfl) rfl ?_
 refine tk rfl (PE.assign rfl) rfl ?_
 exact sy_cutEnd (o212.cast (by simp [irows]), o216.cast (by simp [brows, brow]), o221.cast (by simp [srows])) (by repeat' first | exact Sub.nil | apply Sub.cons | rfl | (simp [lk]; omega)) (fun w h => ((h.del b211).del b215).del b220)
 exact sy_stop
 refine sy_alt ?_ ?_
 refine bsl (out := [_, _, _]) rfl sl85 zl23 rfl rfl rfl rfl rfl rfl (fun b220 => ?_)
 refine bg (fun w hs => ⟨trivial, trivial⟩) ?_
 refine bsl (out := [_]) rfl sl42 zl3 rfl rfl rfl rfl rfl rfl (fun b211 => ?_)
 refine bg (fun w hs => trivial) ?_
 refine apO (o1) rfl ap42 rfl rfl (rowsH (row := [.int .i64 r]) rfl) rfl rfl ((by simp only [irows, List.length_map, List.length_singleton]; have := hch.l1; omega)) rfl (fun o212 => ?_)
 refine bg (fun w hs => trivial) ?_
 refine apO (o2) rfl ap80 rfl rfl (rowsH (row := [.bool bad]) rfl) rfl rfl ((by simp only [brows, List.length_map, List.length_singleton]; have := hch.l2; omega)) rfl (fun o216 => ?_)
 refine bg (fun w hs => trivial) ?_
 refine apO (o3) rfl ap85 rfl rfl (rowsH (row := srow (t.next s q bad)) rfl) rfl rfl ((by simp only [srows, List.length_map, List.length_singleton]; omega)) rfl (fun o221 => ?_)
 refine bg (fun w hs => trivial) ?_
 refine tk rfl (PE.assign rfl) rfl ?_
 refine tk rfl (PE.assign rfl) rfl ?_
 refine tk rfl (PE.assign rfl) rfl ?_
 exact sy_cutEnd (o212.cast (by simp [irows]), o216.cast (by simp [brows, brow]), o221.cast (by simp [srows])) (by repeat' first | exact Sub.nil | apply Sub.cons | rfl | (simp [lk]; omega)) (fun w h => ((h.del b211).del b215).del b220)
 exact sy_stop
 refine sy_alt ?_ ?_
 refine bsl (out := [_, _, _]) rfl sl85 zl23 rfl rfl rfl rfl rfl rfl (fun b220 => ?_)
 refine bg (fun w hs => ⟨trivial, trivial⟩) ?_
 refine sy_alt ?_ ?_
 refine bsl (out := [_]) rfl sl42 zl3 rfl rfl rfl rfl rfl rfl (fun b211 => ?_)
 refine bg (fun w hs => trivial) ?_
 refine sy_alt ?_ ?_
 refine apO (o1) rfl ap42 rfl rfl (rowsH (row := [.int .i64 r]) rfl) rfl rfl ((by simp only [irows, List.length_map, List.length_singleton]; have := hch.l1; omega)) rfl (fun o212 => ?_)
 refine bg (fun w hs => trivial) ?_
 refine bsl (out := [_]) rfl sl80 zl4 rfl rfl rfl rfl rfl rfl (fun b215 => ?_)
 refine bg (fun w hs => trivial) ?_
 refine apO (o2) rfl ap80 rfl rfl (rowsH (row := [.bool bad]) rfl) rfl rfl ((by simp only [brows, List.length_map, List.length_singleton]; have := hch.l2; omega)) rfl (fun o216 => ?_)
 refine bg (fun w hs => trivial) ?_
 refine apO (o3) rfl ap85 rfl rfl (rowsH (row := srow (t.next s q bad)) rfl) rfl rfl ((by simp only [srows, List.length_map, List.length_singleton]; omega)) rfl (fun o221 => ?_)
 refine bg (fun w hs => trivial) ?_
 refine tk rfl (PE.assign rfl) rfl ?_
 refine tk rfl (PE.assign rfl) rfl ?_
 refine tk rfl (PE.assign rfl) rfl ?_
 exact sy_cutEnd (o212.cast (by simp [irows]), o216.cast (by simp [brows, brow]), o221.cast (by simp [srows])) (by repeat' first | exact Sub.nil | apply Sub.cons | rfl | (simp [lk]; omega)) (fun w h => ((h.del b211).del b215).del b220)
 refine sy_alt ?_ ?_
 refine bsl (out := [_]) rfl sl80 zl4 rfl rfl rfl rfl rfl rfl (fun b215 => ?_)
 refine bg (fun w hs => trivial) ?_
 refine apO (o1) rfl ap42 rfl rfl (rowsH (row := [.int .i64 r]) rfl) rfl rfl ((by simp only [irows, List.length_map, List.length_singleton]; have := hch.l1; omega)) rfl (fun o212 => ?_)
 refine bg (fun w hs => trivial) ?_
 refine apO (o2) rfl ap80 rfl rfl (rowsH (row := [.bool bad]) rfl) rfl rfl ((by simp only [brows, List.length_map, List.length_singleton]; have := hch.l2; omega)) rfl (fun o216 => ?_)
 refine bg (fun w hs => trivial) ?_
 refine apO (o3) rfl ap85 rfl rfl (rowsH (row := srow (t.next s q bad)) rfl) rfl rfl ((by simp only [srows, List.length_map, List.length_singleton]; omega)) rfl (fun o221 => ?_)
 refine bg (fun w hs => trivial) ?_
 refine tk rfl (PE.assign rfl) rfl ?_
 refine tk rfl (PE.assign rfl) rfl ?_
 refine tk rfl (PE.assign rfl) rfl ?_
 exact sy_cutEnd (o212.cast (by simp [irows]), o216.cast (by simp [brows, brow]), o221.cast (by simp [srows])) (by repeat' first | exact Sub.nil | apply Sub.cons | rfl | (simp [lk]; omega)) (fun w h => ((h.del b211).del b215).del b220)
 exact sy_stop
 refine sy_alt ?_ ?_
 refine bsl (out := [_]) rfl sl80 zl4 rfl rfl rfl rfl rfl rfl (fun b215 => ?_)
 refine bg (fun w hs => trivial) ?_
 refine bsl (out := [_]) rfl sl42 zl3 rfl rfl rfl rfl rfl rfl (fun b211 => ?_)
 refine bg (fun w hs => trivial) ?_
 refine apO (o1) rfl ap42 rfl rfl (rowsH (row := [.int .i64 r]) rfl) rfl rfl ((by simp only [irows, List.length_map, List.length_singleton]; have := hch.l1; omega)) rfl (fun o212 => ?_)
 refine bg (fun w hs => trivial) ?_
 refine apO (o2) rfl ap80 rfl rfl (rowsH (row := [.bool bad]) rfl) rfl rfl ((by simp only [brows, List.length_map, List.length_singleton]; have := hch.l2; omega)) rfl (fun o216 => ?_)
 refine bg (fun w hs => trivial) ?_
 refine apO (o3) rfl ap85 rfl rfl (rowsH (row := srow (t.next s q bad)) rfl) rfl rfl ((by simp only [srows, List.length_map, List.length_singleton]; omega)) rfl (fun o221 => ?_)
 refine bg (fun w hs => trivial) ?_
 refine tk rfl (PE.assign rfl) rfl ?_
 refine tk rfl (PE.assign rfl) rfl ?_
 refine tk rfl (PE.assign rfl) rfl ?_
 exact sy_cutEnd (o212.cast (by simp [irows]), o216.cast (by simp [brows, brow]), o221.cast (by simp [srows])) (by repeat' first | exact Sub.nil | apply Sub.cons | rfl | (simp [lk]; omega)) (fun w h => ((h.del b211).del b215).del b220)
 exact sy_stop
 exact sy_stop
 rintro ⟨o1, o2, o3⟩
 dsimp only
 refine sy_seq ?_
 refine sy_tx' [0, 1, 2, 3] rfl ?_
 refine spL rfl rfl (lhA [_, _, _, _, _, _, _, _, _, _, _] ag26 rfl rfl rfl) rfl ?_
 refine sp rfl (PE.move rfl) rfl ?_
 refine sto rfl rfl rfl cn26 rfl rfl rfl rfl ?_
 refine sp rfl (PE.assign rfl) rfl ?_
 refine sy_seq ?_
 refine sy_tx' [0, 1, 2, 3, 4] rfl ?_
 refine sp rfl (PE.move rfl) rfl ?_
 refine sp rfl (PE.move rfl) rfl ?_
 refine sy_case (t := 225) rfl (fun g225 => ?_) (fun g225 => ?_)
 refine spG rfl rfl rfl rfl (PE.move rfl) rfl ?_
 refine spG rfl rfl rfl rfl (PE.eql rfl rfl) rfl ?_
 refine sp rfl (PE.pick rfl rfl rfl) rfl ?_
 refine sy_cond rfl (fun hc10 => ?_) (fun hc10 => ?_)
 exact absurd hc10 (by rw [decide_eq_false (by have := hm3 g225; omega)]; simp)
 refine sy_skip ?_
 refine sy_tx' [0, 1] rfl ?_
 refine sp rfl (PE.add rfl rfl (by omega)) rfl ?_
 refine sp rfl (PE.move rfl) rfl ?_
 exact sy_next ⟨⟨(k + 1, t.next s q bad, rs ++ [(r : Int)], bs ++ [bad], ss ++ [t.next s q bad], tq2, mz2, by_, 0, cy), by omega, by simp [hsl], hch.more hnx hnr, by dsimp only; omega, by assumption⟩, o1, o2, o3⟩ (by dsimp only; omega) (by repeat' first | exact Sub.nil | apply Sub.cons | rfl | (simp [lk]; omega)) (fun w h => St.sub (h.del b23))
 repeat refine spN rfl rfl rfl rfl rfl rfl rfl rfl ?_
 refine sp rfl (PE.pick rfl rfl rfl) rfl ?_
 refine sy_condF rfl ?_
 refine sy_skip ?_
 refine sy_tx' [0, 1] rfl ?_
 refine sp rfl (PE.add rfl rfl (by omega)) rfl ?_
 refine sp rfl (PE.move rfl) rfl ?_
 exact sy_next ⟨⟨(k + 1, t.next s q bad, rs ++ [(r : Int)], bs ++ [bad], ss ++ [t.next s q bad], tq2, mz2, by_, 0, cy), by omega, by simp [hsl], hch.more hnx hnr, by dsimp only; omega, by assumption⟩, o1, o2, o3⟩ (by dsimp only; omega) (by repeat' first | exact Sub.nil | apply Sub.cons | rfl | (simp [lk]; omega)) (fun w h => St.sub (h.del b23))
 repeat refine tkN rfl rfl rfl rfl rfl rfl rfl rfl ?_
 refine tkG rfl rfl rfl rfl (PE.pick rfl rfl rfl) rfl ?_
 refine tkG rfl rfl rfl rfl (PE.move rfl) rfl ?_
 repeat refine tkN rfl rfl rfl rfl rfl rfl rfl rfl ?_
 refine tkG rfl rfl rfl rfl (PE.pick rfl rfl rfl) rfl ?_
 refine tk rfl (PE.pick rfl rfl rfl) rfl ?_
 refine sy_condF rfl ?_
 refine sy_skip ?_
 refine sy_seq ?_
 refine sy_cut (ι := OSl 3 1 (irows (rs ++ [(r : Int)])) × OSl 4 1 (brows (bs ++ [bad])) × OSl 23 3 (srows (ss ++ [t.next s q bad]))) (fun z => ⟨[(5, .pointer (some ⟨b5, 0, none⟩)), (6, .pointer (some ⟨bh, 0, none⟩)), (7, .int .i64 (lat (LY t) s)), (9, .pointer (some ⟨b9, 0, none⟩)), (10, z.1.fs), (11, z.2.1.fs), (12, z.2.2.fs), (40, .int .i64 k), (21, .int .i64 r), (22, .bool bad), (23, .pointer (some ⟨b23, 0, none⟩)), (24, .int .i64 (lat (LY t) (t.next s q bad)))], (b23, cel 26 (twl { t with now := t.next s q bad } (.slice (some ⟨by_, 0, none⟩) t.rats.length cy))) :: (bh, cel 168 [.slice ah h.length ch, .int .i64 (tq2), .int .u32 (mz2)]) :: (z.1.G ++ (z.2.1.G ++ (z.2.2.G ++ (b9, cel 26 (twl { t with now := s } (.slice (some ⟨bn, on, none⟩) t.rats.length cn))) :: (b5, cel 26 (twl { t with now := t.now } (.slice (some ⟨ba, oa, none⟩) t.rats.length ca))) :: H))), RowsA (some ⟨by_, 0, none⟩) 2 (rrows t.rats) :: RowsA (some ⟨bn, on, none⟩) 2 (rrows t.rats) :: RowsA (some ⟨ba, oa, none⟩) 2 (rrows t.rats) :: R⟩) ?_ ?_
 refine sy_draw [0, 0, 2, 7, 0, 0, 32, 127, 0, 0, 512, 1536, 4095, 8191, 16383, 32767] (.tk 0 (.tk 1 (.tk 4 (.tk 5 (.tk 8 (.tk 9 (.ld 10 (.any (.alt 2 (.any (.alt 3 (.any (.alt 6 (.any (.alt 7 (.big 11 (.big 12 (.tk 13 (.tk 14 (.tk 15 .done))))) (.alt 11 (.big 7 (.big 12 (.tk 13 (.tk 14 (.tk 15 .done))))) .stop))) (.alt 11 (.big 6 (.big 7 (.big 12 (.tk 13 (.tk 14 (.tk 15 .done)))))) .stop))) (.alt 6 (.any (.alt 3 (.any (.alt 7 (.big 11 (.big 12 (.tk 13 (.tk 14 (.tk 15 .done))))) (.alt 11 (.big 7 (.big 12 (.tk 13 (.tk 14 (.tk 15 .done))))) .stop))) (.alt 11 (.big 3 (.big 7 (.big 12 (.tk 13 (.tk 14 (.tk 15 .done)))))) .stop))) (.alt 11 (.any (.alt 3 (.big 6 (.big 7 (.big 12 (.tk 13 (.tk 14 (.tk 15 .done)))))) (.alt 6 (.big 3 (.big 7 (.big 12 (.tk 13 (.tk 14 (.tk 15 .done)))))) .stop))) .stop)))) (.alt 6 (.any (.alt 2 (.any (.alt 3 (.any (.alt 7 (.big 11 (.big 12 (.tk 13 (.tk 14 (.tk 15 .done))))) (.alt 11 (.big 7 (.big 12 (.tk 13 (.tk 14 (.tk 15 .done))))) .stop))) (.alt 11 (.big 3 (.big 7 (.big 12 (.tk 13 (.tk 14 (.tk 15 .done)))))) .stop))) (.alt 11 (.big 2 (.big 3 (.big 7 (.big 12 (.tk 13 (.tk 14 (.tk 15 .done))))))) .stop))) (.alt 11 (.any (.alt 2 (.any (.alt 3 (.big 6 (.big 7 (.big 12 (.tk 13 (.tk 14 (.tk 15 .done)))))) (.alt 6 (.big 3 (.big 7 (.big 12 (.tk 13 (.tk 14 (.tk 15 .done)))))) .stop))) (.alt 6 (.big 2 (.big 3 (.big 7 (.big 12 (.tk 13 (.tk 14 (.tk 15 .done))))))) .stop))) .stop))))))))))) mixed (by kernel_rfl) ?_
 refine tk rfl (PE.move rfl) rfl ?_
 refine tk rfl (PE.move rfl) rfl ?_
 refine tk rfl (PE.move rfl) rfl ?_
 refine tk rfl (PE.move rfl) rfl ?_
 refine tk rfl (PE.move rfl) rfl ?_
 refine tk rfl (PE.fieldAddr fo26_0 rfl) rfl ?_
 refine ld rfl rfl (lhA [_, _, _] ag23 rfl rfl rfl) rfl ?_
 refine sy_alt ?_ ?_
 refine bsl (out := [_]) rfl sl42 zl3 rfl rfl rfl rfl rfl rfl (fun b211 => ?_)
 refine bg (fun w hs => ⟨(lhA [_, _, _] ag23 rfl rfl rfl) w hs, trivial⟩) ?_
 refine sy_alt ?_ ?_
 refine apO (o1) rfl ap42 rfl rfl (rowsH (row := [.int .i64 r]) rfl) rfl rfl ((by simp only [irows, List.length_map, List.length_singleton]; have := hch.l1; omega)) rfl (fun o212 => ?_)
 refine bg (fun w hs => ⟨(lhA [_, _, _] ag23 rfl rfl rfl) w hs, trivial⟩) ?_
 refine sy_alt ?_ ?_
 refine bsl (out := [_]) rfl sl80 zl4 rfl rfl rfl rfl rfl rfl (fun b215 => ?_)
 refine bg (fun w hs => ⟨(lhA [_, _, _] ag23 rfl rfl rfl) w hs, trivial⟩) ?_
 refine sy_alt ?_ ?_
 refine apO (o2) rfl ap80 rfl rfl (rowsH (row := [.bool bad]) rfl) rfl rfl ((by simp only [brows, List.length_map, List.length_singleton]; have := hch.l2; omega)) rfl (fun o216 => ?_)
 refine bg (fun w hs => ⟨(lhA [_, _, _] ag23 rfl rfl rfl) w hs, trivial⟩) ?_
 refine bsl (out := [_, _, _]) rfl sl85 zl23 rfl rfl rfl rfl rfl rfl (fun b220 => ?_)
 refine bg (fun w hs => ⟨trivial, trivial⟩) ?_
 refine apO (o3) rfl ap85 rfl rfl (rowsH (row := srow (t.next s q bad)) rfl) rfl rfl ((by simp only [srows, List.length_map, List.length_singleton]; omega)) rfl (fun o221 => ?_)
 refine bg (fun w hs => trivial) ?_
 refine tk rfl (PE.assign rfl) rfl ?_
 refine tk rfl (PE.assign rfl) rfl ?_
 refine tk rfl (PE.assign rfl) rfl ?_
 exact sy_cutEnd (o212.cast (by simp [irows]), o216.cast (by simp [brows, brow]), o221.cast (by simp [srows])) (by repeat' first | exact Sub.nil | apply Sub.cons | rfl | (simp [lk]; omega)) (fun w h => ((h.del b211).del b215).del b220)
 refine sy_alt ?_ ?_
 refine bsl (out := [_, _, _]) rfl sl85 zl23 rfl rfl rfl rfl rfl rfl (fun b220 => ?_)
 refine bg (fun w hs => ⟨trivial, trivial⟩) ?_
 refine apO (o2) rfl ap80 rfl rfl (rowsH (row := [.bool bad]) rfl) rfl rfl ((by simp only [brows, List.length_map, List.length_singleton]; have := hch.l2; omega)) rfl (fun o216 => ?_)
 refine bg (fun w hs => trivial) ?_
 refine apO (o3) rfl ap85 rfl rfl (rowsH (row := srow (t.next s q bad)) rfl) rfl rfl ((by simp only [srows, List.length_map, List.length_singleton]; omega)) rfl (fun o221 => ?_)
 refine bg (fun w hs => trivial) ?_
 refine tk rfl (PE.assign rfl) rfl ?_
 refine tk rfl (PE.assign rfl) rfl ?_
 refine tk rfl (PE.assign rfl) rfl ?_
 exact sy_cutEnd (o212.cast (by simp [irows]), o216.cast (by simp [brows, brow]), o221.cast (by simp [srows])) (by repeat' first | exact Sub.nil | apply Sub.cons | rfl | (simp [lk]; omega)) (fun w h => ((h.del b211).del b215).del b220)
 exact sy_stop
 refine sy_alt ?_ ?_
 refine bsl (out := [_, _, _]) rfl sl85 zl23 rfl rfl rfl rfl rfl rfl (fun b220 => ?_)
 refine bg (fun w hs => ⟨trivial, trivial⟩) ?_
 refine bsl (out := [_]) rfl sl80 zl4 rfl rfl rfl rfl rfl rfl (fun b215 => ?_)
 refine bg (fun w hs => trivial) ?_
 refine apO (o2) rfl ap80 rfl rfl (rowsH (row := [.bool bad]) rfl) rfl rfl ((by simp only [brows, List.length_map, List.length_singleton]; have := hch.l2; omega)) rfl (fun o216 => ?_)
 refine bg (fun w hs => trivial) ?_
 refine apO (o3) rfl ap85 rfl rfl (rowsH (row := srow (t.next s q bad)) rfl) rfl rfl ((by simp only [srows, List.length_map, List.length_singleton]; omega)) rfl (fun o221 => ?_)
 refine bg (fun w hs => trivial) ?_
 refine tk rfl (PE.assign rfl) rfl ?_
 refine tk rfl (PE.assign rfl) rfl ?_
 refine tk rfl (PE.assign rfl) rfl ?_
 exact sy_cutEnd (o212.cast (by simp [irows]), o216.cast (by simp [brows, brow]), o221.cast (by simp [srows])) (by repeat' first | exact Sub.nil | apply Sub.cons | rfl | (simp [lk]; omega)) (fun w h => ((h.del b211).del b215).del b220)
 exact sy_stop
 refine sy_alt ?_ ?_
 refine bsl (out := [_]) rfl sl80 zl4 rfl rfl rfl rfl rfl rfl (fun b215 => ?_)
 refine bg (fun w hs => ⟨(lhA [_, _, _] ag23 rfl rfl rfl) w hs, trivial⟩) ?_
 refine sy_alt ?_ ?_
 refine apO (o1) rfl ap42 rfl rfl (rowsH (row := [.int .i64 r]) rfl) rfl rfl ((by simp only [irows, List.length_map, List.length_singleton]; have := hch.l1; omega)) rfl (fun o212 => ?_)
 refine bg (fun w hs => ⟨(lhA [_, _, _] ag23 rfl rfl rfl) w hs, trivial⟩) ?_
 refine sy_alt ?_ ?_
 refine apO (o2) rfl ap80 rfl rfl (rowsH (row := [.bool bad]) rfl) rfl rfl ((by simp only [brows, List.length_map, List.length_singleton]; have := hch.l2; omega)) rfl (fun o216 => ?_)
 refine bg (fun w hs => ⟨(lhA [_, _, _] ag23 rfl rfl rfl) w hs, trivial⟩) ?_
 refine bsl (out := [_, _, _]) rfl sl85 zl23 rfl rfl rfl rfl rfl rfl (fun b220 => ?_)
 refine bg (fun w hs => ⟨trivial, trivial⟩) ?_
 refine apO (o3) rfl ap85 rfl rfl (rowsH (row := srow (t.next s q bad)) rfl) rfl rfl ((by simp only [srows, List.length_map, List.length_singleton]; omega)) rfl (fun o221 => ?_)
 refine bg (fun w hs => trivial) ?_
 refine tk rfl (PE.assign rfl) rfl ?_
 refine tk rfl (PE.assign rfl) rfl ?_
 refine tk rfl (PE.assign rfl) rfl ?_
 exact sy_cutEnd (o212.cast (by simp [irows]), o216.cast (by simp [brows, brow]), o221.cast (by simp [srows])) (by repeat' first | exact Sub.nil | apply Sub.cons | rfl | (simp [lk]; omega)) (fun w h => ((h.del b211).del b215).del b220)
 refine sy_alt ?_ ?_
 refine bsl (out := [_, _, _]) rfl sl85 zl23 rfl rfl rfl rfl rfl rfl (fun b220 => ?_)
 refine bg (fun w hs => ⟨trivial, trivial⟩) ?_
 refine apO (o2) rfl ap80 rfl rfl (rowsH (row := [.bool bad]) rfl) rfl rfl ((by simp only [brows, List.length_map, List.length_singleton]; have := hch.l2; omega)) rfl (fun o216 => ?_)
 refine bg (fun w hs => trivial) ?_
 refine apO (o3) rfl ap85 rfl rfl (rowsH (row := srow (t.next s q bad)) rfl) rfl rfl ((by simp only [srows, List.length_map, List.length_singleton]; omega)) rfl (fun o221 => ?_)
 refine bg (fun w hs => trivial) ?_
 refine tk rfl (PE.assign rfl) rfl ?_
 refine tk rfl (PE.assign rfl) rfl ?_
 refine tk rfl (PE.assign rfl) rfl ?_
 exact sy_cutEnd (o212.cast (by simp [irows]), o216.cast (by simp [brows, brow]), o221.cast (by simp [srows])) (by repeat' first | exact Sub.nil | apply Sub.cons | rfl | (simp [lk]; omega)) (fun w h => ((h.del b211).del b215).del b220)
 exact sy_stop
 refine sy_alt ?_ ?_
 refine bsl (out := [_, _, _]) rfl sl85 zl23 rfl rfl rfl rfl rfl rfl (fun b220 => ?_)
 refine bg (fun w hs => ⟨trivial, trivial⟩) ?_
 refine apO (o1) rfl ap42 rfl rfl (rowsH (row := [.int .i64 r]) rfl) rfl rfl ((by simp only [irows, List.length_map, List.length_singleton]; have := hch.l1; omega)) rfl (fun o212 => ?_)
 refine bg (fun w hs => trivial) ?_
 refine apO (o2) rfl ap80 rfl rfl (rowsH (row := [.bool bad]) rfl) rfl rfl ((by simp only [brows, List.length_map, List.length_singleton]; have := hch.l2; omega)) rfl (fun o216 => ?_)
 refine bg (fun w hs => trivial) ?_
 refine apO (o3) rfl ap85 rfl rfl (rowsH (row := srow (t.next s q bad)) rfl) rfl rfl ((by simp only [srows, List.length_map, List.length_singleton]; omega)) rfl (fun o221 => ?_)
 refine bg (fun w hs => trivial) ?_
 refine tk rfl (PE.assign rfl) rfl ?_
 refine tk rfl (PE.assign rfl) rfl ?_
 refine tk rfl (PE.assign rfl) rfl ?_
 exact sy_cutEnd (o212.cast (by simp [irows]), o216.cast (by simp [brows, brow]), o221.cast (by simp [srows])) (by repeat' first | exact Sub.nil | apply Sub.cons | rfl | (simp [lk]; omega)) (fun w h => ((h.del b211).del b215).del b220)
 exact sy_stop
 refine sy_alt ?_ ?_
 refine bsl (out := [_, _, _]) rfl sl85 zl23 rfl rfl rfl rfl rfl rfl (fun b220 => ?_)
 refine bg (fun w hs => ⟨trivial, trivial⟩) ?_
 refine sy_alt ?_ ?_
 refine apO (o1) rfl ap42 rfl rfl (rowsH (row := [.int .i64 r]) rfl) rfl rfl ((by simp only [irows, List.length_map, List.length_singleton]; have := hch.l1; omega)) rfl (fun o212 => ?_)
 refine bg (fun w hs => trivial) ?_
 refine bsl (out := [_]) rfl sl80 zl4 rfl rfl rfl rfl rfl rfl (fun b215 => ?_)
 refine bg (fun w hs => trivial) ?_
 refine apO (o2) rfl ap80 rfl rfl (rowsH (row := [.bool bad]) rfl) rfl rfl ((by simp only [brows, List.length_map, List.length_singleton]; have := hch.l2; omega)) rfl (fun o216 => ?_)
 refine bg (fun w hs => trivial) ?_
 refine apO (o3) rfl ap85 rfl rfl (rowsH (row := srow (t.next s q bad)) rfl) rfl rfl ((by simp only [srows, List.length_map, List.length_singleton]; omega)) rfl (fun o221 => ?_)
 refine bg (fun w hs => trivial) ?_
 refine tk rfl (PE.assign rfl) rfl ?_
 refine tk rfl (PE.assign rfl) rfl ?_
 refine tk rfl (PE.assign rfl) rfl ?_
 exact sy_cutEnd (o212.cast (by simp [irows]), o216.cast (by simp [brows, brow]), o221.cast (by simp [srows])) (by repeat' first | exact Sub.nil | apply Sub.cons | rfl | (simp [lk]; omega)) (fun w h => ((h.del b211).del b215).del b220)
 refine sy_alt ?_ ?_
 refine bsl (out := [_]) rfl sl80 zl4 rfl rfl rfl rfl rfl rfl (fun b215 => ?_)
 refine bg (fun w hs => trivial) ?_
 refine apO (o1) rfl ap42 rfl rfl (rowsH (row := [.int .i64 r]) rfl) rfl rfl ((by simp only [irows, List.length_map, List.length_singleton]; have := hch.l1; omega)) rfl (fun o212 => ?_)
 refine bg (fun w hs => trivial) ?_
 refine apO (o2) rfl ap80 rfl rfl (rowsH (row := [.bool bad]) rfl) rfl rfl ((by simp only [brows, List.length_map, List.length_singleton]; have := hch.l2; omega)) rfl (fun o216 => ?_)
 refine bg (fun w hs => trivial) ?_
 refine apO (o3) rfl ap85 rfl rfl (rowsH (row := srow (t.next s q bad)) rfl) rfl rfl ((by simp only [srows, List.length_map, List.length_singleton]; omega)) rfl (fun o221 => ?_)
 refine bg (fun w hs => trivial) ?_
 refine tk rfl (PE.assign rfl) rfl ?_
 refine tk rfl (PE.assign rfl) rfl ?_
 refine tk rfl (PE.assign rfl) rfl ?_
 exact sy_cutEnd (o212.cast (by simp [irows]), o216.cast (by simp [brows, brow]), o221.cast (by simp [srows])) (by repeat' first | exact Sub.nil | apply Sub.cons | rfl | (simp [lk]; omega)) (fun w h => ((h.del b211).del b215).del b220)
 exact sy_stop
 exact sy_stop
 refine sy_alt ?_ ?_
 refine bsl (out := [_]) rfl sl80 zl4 rfl rfl rfl rfl rfl rfl (fun b215 => ?_)
 refine bg (fun w hs => ⟨(lhA [_, _, _] ag23 rfl rfl rfl) w hs, trivial⟩) ?_
 refine sy_alt ?_ ?_
 refine bsl (out := [_]) rfl sl42 zl3 rfl rfl rfl rfl rfl rfl (fun b211 => ?_)
 refine bg (fun w hs => ⟨(lhA [_, _, _] ag23 rfl rfl rfl) w hs, trivial⟩) ?_
 refine sy_alt ?_ ?_
 refine apO (o1) rfl ap42 rfl rfl (rowsH (row := [.int .i64 r]) rfl) rfl rfl ((by simp only [irows, List.length_map, List.length_singleton]; have := hch.l1; omega)) rfl (fun o212 => ?_)
 refine bg (fun w hs => ⟨(lhA [_, _, _] ag23 rfl rfl rfl) w hs, trivial⟩) ?_
 refine sy_alt ?_ ?_
 refine apO (o2) rfl ap80 rfl rfl (rowsH (row := [.bool bad]) rfl) rfl rfl ((by simp only [brows, List.length_map, List.length_singleton]; have := hch.l2; omega)) rfl (fun o216 => ?_)
 refine bg (fun w hs => ⟨(lhA [_, _, _] ag23 rfl rfl rfl) w hs, trivial⟩) ?_
 refine bsl (out := [_, _, _]) rfl sl85 zl23 rfl rfl rfl rfl rfl rfl (fun b220 => ?_)
 refine bg (fun w hs => ⟨trivial, trivial⟩) ?_
 refine apO (o3) rfl ap85 rfl rfl (rowsH (row := srow (t.next s q bad)) rfl) rfl rfl ((by simp only [srows, List.length_map, List.length_singleton]; omega)) rfl (fun o221 => ?_)
 refine bg (fun w hs => trivial) ?_
 refine tk rfl (PE.assign rfl) rfl ?_
 refine tk rfl (PE.assign rfl) rfl ?_
 refine tk rfl (PE.assign rfl) rfl ?_
 exact sy_cutEnd (o212.cast (by simp [irows]), o216.cast (by simp [brows, brow]), o221.cast (by simp [srows])) (by repeat' first | exact Sub.nil | apply Sub.cons | rfl | (simp [lk]; omega)) (fun w h => ((h.del b211).del b215).del b220)
 refine sy_alt ?_ ?_
 refine bsl (out := [_, _, _]) rfl sl85 zl23 rfl rfl rfl rfl rfl rfl (fun b220 => ?_)
 refine bg (fun w hs => ⟨trivial, trivial⟩) ?_
 refine apO (o2) rfl ap80 rfl rfl (rowsH (row := [.bool bad]) rfl) rfl rfl ((by simp only [brows, List.length_map, List.length_singleton]; have := hch.l2; omega)) rfl (fun o216 => ?_)
 refine bg (fun w hs => trivial) ?_
 refine apO (o3) rfl ap85 rfl rfl (rowsH (row := srow (t.next s q bad)) rfl) rfl rfl ((by simp only [srows, List.length_map, List.length_singleton]; omega)) rfl (fun o221 => ?_)
 refine bg (fun w hs => trivial) ?_
 refine tk rfl (PE.assign rfl) rfl ?_
 refine tk rfl (PE.assign rfl) rfl ?_
 refine tk rfl (PE.assign rfl) rfl ?_
 exact sy_cutEnd (o212.cast (by simp [irows]), o216.cast (by simp [brows, brow]), o221.cast (by simp [srows])) (by repeat' first | exact Sub.nil | apply Sub.cons | rfl | (simp [lk]; omega)) (fun w h => ((h.del b211).del b215).del b220)
 exact sy_stop
 refine sy_alt ?_ ?_
 refine bsl (out := [_, _, _]) rfl sl85 zl23 rfl rfl rfl rfl rfl rfl (fun b220 => ?_)
 refine bg (fun w hs => ⟨trivial, trivial⟩) ?_
 refine apO (o1) rfl ap42 rfl rfl (rowsH (row := [.int .i64 r]) rfl) rfl rfl ((by simp only [irows, List.length_map, List.length_singleton]; have := hch.l1; omega)) rfl (fun o212 => ?_)
 refine bg (fun w hs => trivial) ?_
 refine apO (o2) rfl ap80 rfl rfl (rowsH (row := [.bool bad]) rfl) rfl rfl ((by simp only [brows, List.length_map, List.length_singleton]; have := hch.l2; omega)) rfl (fun o216 => ?_)
 refine bg (fun w hs => trivial) ?_
 refine apO (o3) rfl ap85 rfl rfl (rowsH (row := srow (t.next s q bad)) rfl) rfl rfl ((by simp only [srows, List.length_map, List.length_singleton]; omega)) rfl (fun o221 => ?_)
 refine bg (fun w hs => trivial) ?_
 refine tk rfl (PE.assign rfl) rfl ?_
 refine tk rfl (PE.assign rfl) rfl ?_
 refine tk rfl (PE.assign rfl) rfl ?_
 exact sy_cutEnd (o212.cast (by simp [irows]), o216.cast (by simp [brows, brow]), o221.cast (by simp [srows])) (by repeat' first | exact Sub.nil | apply Sub.cons | rfl | (simp [lk]; omega)) (fun w h => ((h.del b211).del b215).del b220)
 exact sy_stop
 refine sy_alt ?_ ?_
 refine bsl (out := [_, _, _]) rfl sl85 zl23 rfl rfl rfl rfl rfl rfl (fun b220 => ?_)
 refine bg (fun w hs => ⟨trivial, trivial⟩) ?_
 refine bsl (out := [_]) rfl sl42 zl3 rfl rfl rfl rfl rfl rfl (fun b211 => ?_)
 refine bg (fun w hs => trivial) ?_
 refine apO (o1) rfl ap42 rfl rfl (rowsH (row := [.int .i64 r]) rfl) rfl rfl ((by simp only [irows, List.length_map, List.length_singleton]; have := hch.l1; omega)) rfl (fun o212 => ?_)
 refine bg (fun w hs => trivial) ?_
 refine apO (o2) rfl ap80 rfl rfl (rowsH (row := [.bool bad]) rfl) rfl rfl ((by simp only [brows, List.length_map, List.length_singleton]; have := hch.l2; omega)) rfl (fun o216 => ?_)
 refine bg (fun w hs => trivial) ?_
 refine apO (o3) rfl ap85 rfl rfl (rowsH (row := srow (t.next s q bad)) rfl) rfl rfl ((by simp only [srows, List.length_map, List.length_singleton]; omega)) rfl (fun o221 => ?_)
 refine bg (fun w hs => trivial) ?_
 refine tk rfl (PE.assign rfl) rfl ?_
 refine tk rfl (PE.assign rfl) rfl ?_
 refine tk rfl (PE.assign rfl) rfl ?_
 exact sy_cutEnd (o212.cast (by simp [irows]), o216.cast (by simp [brows, brow]), o221.cast (by simp [srows])) (by repeat' first | exact Sub.nil | apply Sub.cons | rfl | (simp [lk]; omega)) (fun w h => ((h.del b211).del b215).del b220)
 exact sy_stop
 refine sy_alt ?_ ?_
 refine bsl (out := [_, _, _]) rfl sl85 zl23 rfl rfl rfl rfl rfl rfl (fun b220 => ?_)
 refine bg (fun w hs => ⟨trivial, trivial⟩) ?_
 refine sy_alt ?_ ?_
 refine bsl (out := [_]) rfl sl42 zl3 rfl rfl rfl rfl rfl rfl (fun b211 => ?_)
 refine bg (fun w hs => trivial) ?_
 refine sy_alt ?_ ?_
 refine apO (o1) rfl ap42 rfl rfl (rowsH (row := [.int .i64 r]) rfl) rfl rfl ((by simp only [irows, List.length_map, List.length_singleton]; have := hch.l1; omega)) rfl (fun o212 => ?_)
 refine bg (fun w hs => trivial) ?_
 refine bsl (out := [_]) rfl sl80 zl4 rfl rfl rfl rfl rfl rfl (fun b215 => ?_)
 refine bg (fun w hs => trivial) ?_
 refine apO (o2) rfl ap80 rfl rfl (rowsH (row := [.bool bad]) rfl) rfl rfl ((by simp only [brows, List.length_map, List.length_singleton]; have := hch.l2; omega)) rfl (fun o216 => ?_)
 refine bg (fun w hs => trivial) ?_
 refine apO (o3) rfl ap85 rfl rfl (rowsH (row := srow (t.next s q bad)) rfl) rfl rfl ((by simp only [srows, List.length_map, List.length_singleton]; omega)) rfl (fun o221 => ?_)
 refine bg (fun w hs => trivial) ?_
 refine tk rfl (PE.assign rfl) rfl ?_
 refine tk rfl (PE.assign rfl) rfl ?_
 refine tk rfl (PE.assign rfl) rfl ?_
 exact sy_cutEnd (o212.cast (by simp [irows]), o216.cast (by simp [brows, brow]), o221.cast (by simp [srows])) (by repeat' first | exact Sub.nil | apply Sub.cons | rfl | (simp [lk]; omega)) (fun w h => ((h.del b211).del b215).del b220)
 refine sy_alt ?_ ?_
 refine bsl (out := [_]) rfl sl80 zl4 rfl rfl rfl rfl rfl rfl (fun b215 => ?_)
 refine bg (fun w hs => trivial) ?_
 refine apO (o1) rfl ap42 rfl rfl (rowsH (row := [.int .i64 r]) rfl) rfl rfl ((by simp only [irows, List.length_map, List.length_singleton]; have := hch.l1; omega)) rfl (fun o212 => ?_)
 refine bg (fun w hs => trivial) ?_
 refine apO (o2) rfl ap80 rfl rfl (rowsH (row := [.bool bad]) rfl) rfl rfl ((by simp only [brows, List.length_map, List.length_singleton]; have := hch.l2; omega)) rfl (fun o216 => ?_)
 refine bg (fun w hs => trivial) ?_
 refine apO (o3) rfl ap85 rfl rfl (rowsH (row := srow (t.next s q bad)) rfl) rfl rfl ((by simp only [srows, List.length_map, List.length_singleton]; omega)) rfl (fun o221 => ?_)
 refine bg (fun w hs => trivial) ?_
 refine tk rfl (PE.assign rfl) rfl ?_
 refine tk rfl (PE.assign rfl) rfl ?_
 refine tk rfl (PE.assign rfl) rfl ?_
 exact sy_cutEnd (o212.cast (by simp [irows]), o216.cast (by simp [brows, brow]), o221.cast (by simp [srows])) (by repeat' first | exact Sub.nil | apply Sub.cons | rfl | (simp [lk]; omega)) (fun w h => ((h.del b211).del b215).del b220)
 exact sy_stop
 refine sy_alt ?_ ?_
 refine bsl (out := [_]) rfl sl80 zl4 rfl rfl rfl rfl rfl rfl (fun b215 => ?_)
 refine bg (fun w hs => trivial) ?_
 refine bsl (out := [_]) rfl sl42 zl3 rfl rfl rfl rfl rfl rfl (fun b211 => ?_)
 refine bg (fun w hs => trivial) ?_
 refine apO (o1) rfl ap42 rfl rfl (rowsH (row := [.int .i64 r]) rfl) rfl rfl ((by simp only [irows, List.length_map, List.length_singleton]; have := hch.l1; omega)) rfl (fun o212 => ?_)
 refine bg (fun w hs => trivial) ?_
 refine apO (o2) rfl ap80 rfl rfl (rowsH (row := [.bool bad]) rfl) rfl rfl ((by simp only [brows, List.length_map, List.length_singleton]; have := hch.l2; omega)) rfl (fun o216 => ?_)
 refine bg (fun w hs => trivial) ?_
 refine apO (o3) rfl ap85 rfl rfl (rowsH (row := srow (t.next s q bad)) rfl) rfl rfl ((by simp only [srows, List.length_map, List.length_singleton]; omega)) rfl (fun o221 => ?_)
 refine bg (fun w hs => trivial) ?_
 refine tk rfl (PE.assign rfl) rfl ?_
 refine tk rfl (PE.assign rfl) rfl ?_
 refine tk rfl (PE.assign rfl) rfl ?_
 exact sy_cutEnd (o212.cast (by simp [irows]), o216.cast (by simp [brows, brow]), o221.cast (by simp [srows])) (by repeat' first | exact Sub.nil | apply Sub.cons | rfl | (simp [lk]; omega)) (fun w h => ((h.del b211).del b215).del b220)
 exact sy_stop
 exact sy_stop
 rintro ⟨o1, o2, o3⟩
 dsimp only
 refine sy_seq ?_
 refine sy_tx' [0, 1, 2, 3] rfl ?_
 refine spL rfl rfl (lhA [_, _, _, _, _, _, _, _, _, _, _] ag26 rfl rfl rfl) rfl ?_
 refine sp rfl (PE.move rfl) rfl ?_
 refine sto rfl rfl rfl cn26 rfl rfl rfl rfl ?_
 refine sp rfl (PE.assign rfl) rfl ?_
 refine sy_seq ?_
 refine sy_tx' [0, 1, 2, 3, 4] rfl ?_
 refine sp rfl (PE.move rfl) rfl ?_
 refine sp rfl (PE.move rfl) rfl ?_
 refine sy_case (t := 225) rfl (fun g225 => ?_) (fun g225 => ?_)
 refine spG rfl rfl rfl rfl (PE.move rfl) rfl ?_
 refine spG rfl rfl rfl rfl (PE.eql rfl rfl) rfl ?_
 refine sp rfl (PE.pick rfl rfl rfl) rfl ?_
 refine sy_cond rfl (fun hc10 => ?_) (fun hc10 => ?_)
 exact absurd hc10 (by rw [decide_eq_false (by have := hm3 g225; omega)]; simp)
 refine sy_skip ?_
 refine sy_tx' [0, 1] rfl ?_
 refine sp rfl (PE.add rfl rfl (by omega)) rfl ?_
 refine sp rfl (PE.move rfl) rfl ?_
 exact sy_next ⟨⟨(k + 1, t.next s q bad, rs ++ [(r : Int)], bs ++ [bad], ss ++ [t.next s q bad], tq2, mz2, by_, 0, cy), by omega, by simp [hsl], hch.more hnx hnr, by dsimp only; omega, by assumption⟩, o1, o2, o3⟩ (by dsimp only; omega) (by repeat' first | exact Sub.nil | apply Sub.cons | rfl | (simp [lk]; omega)) (fun w h => St.sub (h.del b23))
 repeat refine spN rfl rfl rfl rfl rfl rfl rfl rfl ?_
 refine sp rfl (PE.pick rfl rfl rfl) rfl ?_
 refine sy_condF rfl ?_
 refine sy_skip ?_
 refine sy_tx' [0, 1] rfl ?_
 refine sp rfl (PE.add rfl rfl (by omega)) rfl ?_
 refine sp rfl (PE.move rfl) rfl ?_
 exact sy_next ⟨⟨(k + 1, t.next s q bad, rs ++ [(r : Int)], bs ++ [bad], ss ++ [t.next s q bad], tq2, mz2, by_, 0, cy), by omega, by simp [hsl], hch.more hnx hnr, by dsimp only; omega, by assumption⟩, o1, o2, o3⟩ (by dsimp only; omega) (by repeat' first | exact Sub.nil | apply Sub.cons | rfl | (simp [lk]; omega)) (fun w h => St.sub (h.del b23))
 try simp only [decide_eq_true_eq, decide_eq_false_iff_not, Bool.and_eq_true, Bool.or_eq_true, Bool.not_eq_true', Int.not_le, Int.not_lt] at hc1
 refine sy_exit ?_
 repeat refine sy_tx ?_
 refine sy_bx ?_
 refine sy_seq ?_
 refine sy_tx' [0, 1, 2, 3, 4, 5, 6, 7, 8] rfl ?_
 obtain ⟨a1, c1, he1, hf1⟩ := o1.freeze
 obtain ⟨a2, c2, he2, hf2⟩ := o2.freeze
 obtain ⟨a3, c3, he3, hf3⟩ := o3.freeze
 rw [he1, he2, he3]
 refine Sy.heap (fun w h => hf1 (h.pullG o1.G)) ?_
 refine Sy.heap (fun w h => hf2 (h.pullG o2.G)) ?_
 refine Sy.heap (fun w h => hf3 (h.pullG o3.G)) ?_
 rw [show (irows rs).length = rs.length from List.length_map _, show (brows bs).length = bs.length from List.length_map _, show (srows ss).length = ss.length from List.length_map _]
 refine spL rfl rfl (lhA [_, _, _, _, _, _, _, _, _, _, _] ag26 rfl rfl rfl) rfl ?_
 refine sp rfl (PE.move rfl) rfl ?_
 refine sp rfl (PE.move rfl) rfl ?_
 refine cl rfl cal52 rfl rfl (c_Play t (by omega) rs bs a1 a2 c1 c2 (by have := hch.l1; omega) (by have := hch.l2; omega) ba oa ca _ _) ?_
 rintro _ _ _ ⟨a26, c26, rfl, rfl, rfl⟩
 rw [hplay]
 dsimp only
 refine sp rfl (PE.move rfl) rfl ?_
 refine sp rfl (PE.extract rfl rfl) rfl ?_
 refine sp rfl (PE.extract rfl rfl) rfl ?_
 refine sp rfl (PE.assign rfl) rfl ?_
 refine sp rfl (PE.assign rfl) rfl ?_
 refine sy_seq ?_
 refine sy_tx' [0, 1, 2, 3, 4, 5, 6, 7, 8, 9, 10] rfl ?_
 refine sp rfl (PE.move rfl) rfl ?_
 refine sp rfl (PE.eql rfl rfl) rfl ?_
 refine sp rfl (PE.move rfl) rfl ?_
 refine sy_case (t := 239) rfl (fun g239 => ?_) (fun g239 => ?_)
 refine spG rfl rfl rfl rfl (PE.move rfl) rfl ?_
 refine spG rfl rfl rfl rfl (PE.move rfl) rfl ?_
 refine clVG rfl rfl rfl rfl cal79 rfl rfl (c_eq_state ss ss a26 a3 c26 c3 (by omega) (by omega) _ _) ?_
 refine sp rfl (PE.pick rfl rfl rfl) rfl ?_
 refine sp rfl (PE.move rfl) rfl ?_
 refine sy_case (t := 244) rfl (fun g244 => ?_) (fun g244 => ?_)
 refine clVG rfl rfl rfl rfl cal16 rfl rfl (c_awake _ _) ?_
 refine sp rfl (PE.pick rfl rfl rfl) rfl ?_
 refine sp rfl (PE.assign rfl) rfl ?_
 refine sy_ret ?_
 exact sy_return (vs := [_]) rfl (.cons (RV.tmp rfl) .nil) rfl ⟨rfl, rfl, rfl⟩ drp
 exact absurd g244 (by simp)
 exact absurd g239 (by rw [decide_eq_true (by omega)]; simp)
end Go.Proofs.Ytaldphhdkmchhaa
