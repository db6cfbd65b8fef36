/- Walks of the functions of the program, and the laws that join them: what the last theorem of this claim needs, in order. -/
import Derived.Test.YtelegnmfhjfbaaaWs4
namespace Go.Proofs.Ytelegnmfhjfbaaa
set_option linter.unusedSimpArgs false
set_option linter.unusedVariables false
open Go
theorem cal57 : cal Try.prog 57 = true := by kernel_rfl
theorem cal82 : cal Try.prog 82 = true := by kernel_rfl
theorem srt_le {l : List Int} (h : srt l = true) {i : Nat} : ∀ {j : Nat}, i ≤ j → j < l.length → na l i ≤ na l j
  | 0, hij, hj => by obtain rfl : i = 0 := by omega
                     exact Int.le_refl _
  | j + 1, hij, hj => by
    rcases Nat.lt_or_ge j i with h1 | h1
    · obtain rfl : i = j + 1 := by omega
      exact Int.le_refl _
    · have ih := srt_le h (j := j) h1 (by omega)
      have : ¬ (na l (j + 1) < na l j) := fun hlt => by
        have := not_srt (na_get (by omega)) (na_get hj) hlt
        rw [h] at this; cases this
      omega
def Barn.binD (b : Barn) (k : Nat) : HBin := b.bins.getD k hb0
def hotc (b : Barn) (p : List (List Int)) (k : Nat) (c : Int) (d : Nat) : Prop := (b.binD k).mark < wst b.cool (na b.rise c.toNat) k (b.binD k).warm (p.take (d + 1))
structure Bst (S : Nat → Nat → Prop) (q : Nat × Nat × Bool) : Prop where
  no : q.2.2 = false → q.1 = 0 ∧ q.2.1 = 0 ∧ ∀ k d, ¬ S k d
  yes : q.2.2 = true → S q.2.1 q.1 ∧ ∀ k d, S k d → q.1 < d ∨ (q.1 = d ∧ q.2.1 ≤ k)
theorem Bst.iff {S S' : Nat → Nat → Prop} {q : Nat × Nat × Bool} (h : Bst S q) (e : ∀ k d, S' k d ↔ S k d) : Bst S' q := by
  have : S' = S := by funext k d; exact propext (e k d)
  exact this ▸ h
theorem Bst.add {S S' : Nat → Nat → Prop} {q : Nat × Nat × Bool} {k e : Nat} (h : Bst S q) (hS : ∀ j d, S' j d ↔ S j d ∨ (j = k ∧ d = e)) (hq : q.2.2 = false ∨ e < q.1) : Bst S' (e, k, true) where
  no h := by cases h
  yes _ := ⟨(hS _ _).2 (.inr ⟨rfl, rfl⟩), fun j d hj => by
    rcases (hS j d).1 hj with h1 | ⟨rfl, rfl⟩
    · cases hb : q.2.2 with
      | false => exact absurd h1 ((h.no hb).2.2 j d)
      | true =>
        have := (h.yes hb).2 j d h1
        rcases hq with hq | hq
        · rw [hb] at hq; cases hq
        · exact .inl (by show e < d; omega)
    · exact .inr ⟨rfl, Nat.le_refl _⟩⟩
theorem Bst.keep {S S' : Nat → Nat → Prop} {q : Nat × Nat × Bool} {k e : Nat} (h : Bst S q) (hle : ∀ j d, S j d → j ≤ k) (hS : ∀ j d, S' j d ↔ S j d ∨ (j = k ∧ d = e)) (hq : q.2.2 = true) (hq2 : ¬ e < q.1) : Bst S' q where
  no h := by rw [hq] at h; cases h
  yes _ := by
    obtain ⟨h1, h2⟩ := h.yes hq
    refine ⟨(hS _ _).2 (.inl h1), fun j d hj => ?_⟩
    rcases (hS j d).1 hj with h3 | ⟨rfl, rfl⟩
    · exact h2 j d h3
    · have := hle _ _ h1
      omega
def SA (b : Barn) (p : List (List Int)) (k : Nat) : Nat → Nat → Prop := fun j d => j < k ∧ d < p.length ∧ ∃ c, (b.binD j).lo ≤ c ∧ c ≤ (b.binD j).hi ∧ hotc b p j c d
def SB (b : Barn) (p : List (List Int)) (k : Nat) (c : Int) : Nat → Nat → Prop := fun j d => SA b p k j d ∨ (j = k ∧ d < p.length ∧ ∃ c', (b.binD k).lo ≤ c' ∧ c' < c ∧ hotc b p k c' d)
def SC (b : Barn) (p : List (List Int)) (k : Nat) (c : Int) (e : Nat) : Nat → Nat → Prop := fun j d => SB b p k c j d ∨ (j = k ∧ d < e ∧ hotc b p k c d)
theorem SA.start {b : Barn} {p : List (List Int)} : Bst (SA b p 0) (0, 0, false) := ⟨fun _ => ⟨rfl, rfl, fun k d h => by have := h.1; omega⟩, fun h => by cases h⟩
theorem SB.start {b : Barn} {p : List (List Int)} {k : Nat} {c : Int} (hc : c = (b.binD k).lo) {q : Nat × Nat × Bool} (h : Bst (SA b p k) q) : Bst (SB b p k c) q := h.iff fun j d => by
  constructor
  · rintro (h1 | ⟨_, _, c', h1, h2, _⟩)
    · exact h1
    · omega
  · exact .inl
theorem SC.start {b : Barn} {p : List (List Int)} {k : Nat} {c : Int} {q : Nat × Nat × Bool} (h : Bst (SB b p k c) q) : Bst (SC b p k c 0) q := h.iff fun j d => by
  constructor
  · rintro (h1 | ⟨_, h1, _⟩)
    · exact h1
    · omega
  · exact .inl
theorem SC.le {b : Barn} {p : List (List Int)} {k : Nat} {c : Int} {e j d : Nat} (h : SC b p k c e j d) : j ≤ k := by
  rcases h with (h | h) | h
  · exact Nat.le_of_lt h.1
  · exact Nat.le_of_eq h.1
  · exact Nat.le_of_eq h.1
theorem SC.done {b : Barn} {p : List (List Int)} {k : Nat} {c : Int} (hc : (b.binD k).lo ≤ c) {q : Nat × Nat × Bool} (h : Bst (SC b p k c p.length) q) : Bst (SB b p k (c + 1)) q := h.iff fun j d => by
  constructor
  · rintro (h1 | ⟨h1, h2, c', h3, h4, h5⟩)
    · exact .inl (.inl h1)
    · rcases Int.lt_or_le c' c with h6 | h6
      · exact .inl (.inr ⟨h1, h2, c', h3, h6, h5⟩)
      · obtain rfl : c' = c := by omega
        exact .inr ⟨h1, h2, h5⟩
  · rintro ((h1 | ⟨h1, h2, c', h3, h4, h5⟩) | ⟨h1, h2, h3⟩)
    · exact .inl h1
    · exact .inr ⟨h1, h2, c', h3, by omega, h5⟩
    · exact .inr ⟨h1, h2, c, hc, by omega, h3⟩
theorem SB.done {b : Barn} {p : List (List Int)} {k : Nat} {c : Int} (hc : c = (b.binD k).hi + 1) {q : Nat × Nat × Bool} (h : Bst (SB b p k c) q) : Bst (SA b p (k + 1)) q := h.iff fun j d => by
  constructor
  · rintro ⟨h1, h2, c', h3, h4, h5⟩
    rcases Nat.lt_or_ge j k with h6 | h6
    · exact .inl ⟨h6, h2, c', h3, h4, h5⟩
    · obtain rfl : j = k := by omega
      exact .inr ⟨rfl, h2, c', h3, by omega, h5⟩
  · rintro (⟨h1, h2, h3⟩ | ⟨rfl, h2, c', h3, h4, h5⟩)
    · exact ⟨by omega, h2, h3⟩
    · exact ⟨by omega, h2, c', h3, by omega, h5⟩
theorem Bst.bd {b : Barn} {p : List (List Int)} {k : Nat} {c : Int} {e : Nat} {q : Nat × Nat × Bool} (h : Bst (SC b p k c e) q) (he : e ≤ p.length) : q.1 ≤ p.length ∧ q.2.1 ≤ k := by
  cases hb : q.2.2 with
  | false => obtain ⟨h1, h2, _⟩ := h.no hb; omega
  | true =>
    have h1 := (h.yes hb).1
    refine ⟨?_, SC.le h1⟩
    rcases h1 with (h1 | h1) | h1
    · exact Nat.le_of_lt h1.2.1
    · exact Nat.le_of_lt h1.2.1
    · omega
theorem St.blkRows {rows : List (List Value)} {sz bk e : Nat} {junk : List Value} {H : Heap} {R : Facts} {w : World} (hz : ∀ r ∈ rows, r.length = sz) (hs : St ((bk, cel e (rows.flatten ++ junk)) :: H) R w) :
    St H (RowsA (some ⟨bk, 0, none⟩) sz rows :: R) w := by
  have h1 := (St.freeze hs).also (f := RowsA (some ⟨bk, 0, none⟩) sz rows) (fun w' hw => by
    have hb := hw (fun w => w.heap[bk]? = some (cel e (rows.flatten ++ junk))) (by simp)
    exact rows_block hb hz)
  exact h1.facts (fun g hg => by rcases List.mem_cons.1 hg with h3 | h3 <;> simp [h3])
theorem plr_one (l : List PL) : ∀ r ∈ plrows l, r.length = 1 := fun r hr => by obtain ⟨x, _, rfl⟩ := List.mem_map.1 hr; rfl
theorem plrows_app (A B : List PL) : plrows (A ++ B) = plrows A ++ plrows B := by simp [plrows]
theorem St.innSnoc {a : Option Addr} {c : Nat} {l0 : List Int} {l : List PL} {H : Heap} {R : Facts} {w : World} [m1 : MemF (Inn l) R] [m2 : MemRows a 1 (irows l0) R] (h : St H R w) : St H (Inn (l ++ [⟨a, c, l0⟩]) :: R) w :=
  h.also fun w' hw x hx => by
    rcases List.mem_append.1 hx with hx | hx
    · exact hw _ m1.mem x hx
    · obtain rfl : x = ⟨a, c, l0⟩ := by simpa using hx
      exact hw _ m2.mem
theorem c_eq_int (xs ys : List Int) (a a2 : Option Addr) (c c2 : Nat) (hl : xs.length ≤ 9223372036854775807) (hl2 : ys.length ≤ 9223372036854775807) (H : Heap) (R : Facts) [hR : MemRows a 1 (irows xs) R] [hR2 : MemRows a2 1 (irows ys) R] :
    FnV Try.prog 82 [.slice a xs.length c, .slice a2 ys.length c2] H R (.bool (decide (xs = ys))) := by
 refine fn_of Try.func82 rfl Try.ntmps82 rfl ?_
 refine sy_seq ?_
 refine sy_tx' [0] rfl ?_
 refine sp rfl (PE.assign rfl) rfl ?_
 refine sy_seq ?_
 refine sy_seq ?_
 refine sy_tx' [0, 1, 2, 3, 4] rfl ?_
 refine sp rfl (PE.move rfl) rfl ?_
 refine sp rfl (PE.lenSl isl40 rfl) rfl ?_
 refine sp rfl (PE.move rfl) rfl ?_
 refine sp rfl (PE.lenSl isl40 rfl) rfl ?_
 refine sp rfl (PE.neq rfl rfl) rfl ?_
 refine sy_cond rfl (fun hc0 => ?_) (fun hc0 => ?_)
 have hne : xs ≠ ys := fun e => by subst e; simp at hc0
 refine sy_seq ?_
 refine sy_tx' [0] rfl ?_
 refine sp rfl (PE.assign rfl) rfl ?_
 refine sy_ret ?_
 exact sy_return (vs := [_]) rfl (.cons (RV.tmp rfl) .nil) rfl ⟨by first | (simp only [retV]; rw [decide_eq_true heq]; done) | (simp only [retV]; rw [decide_eq_false hne]), rfl, rfl⟩ (fun _ h => h)
 have hle : xs.length = ys.length := by simp only [decide_eq_true_eq, decide_eq_false_iff_not, Bool.and_eq_true, Bool.or_eq_true, Bool.not_eq_true', Int.not_le, Int.not_lt] at hc0; omega
 refine sy_skip ?_
 refine sy_seq ?_
 refine sy_seq ?_
 refine sy_tx' [0, 1, 2] rfl ?_
 refine sp rfl (PE.move rfl) rfl ?_
 refine sp rfl (PE.lenSl isl40 rfl) rfl ?_
 refine sp rfl (PE.move rfl) rfl ?_
 refine sy_block ?_
 refine sy_loop (ι := {k : Nat // k ≤ xs.length ∧ xs.take k = ys.take k}) (fun k => ⟨[(0, .slice a xs.length c), (1, .slice a2 ys.length c2), (12, .int .i64 xs.length), (13, .int .i64 k.1)], H, R⟩) (fun k => xs.length - k.1) ⟨0, by simp⟩ ?_ (fun k => ?_)
 exact sy_at (by repeat' first | exact Sub.nil | apply Sub.cons | rfl | (simp [lk]; omega)) (fun _ h => h)
 obtain ⟨k, hk, hn⟩ := k
 dsimp only
 refine sy_seq ?_
 refine sy_tx' [0] rfl ?_
 refine sp rfl (PE.lss rfl rfl) rfl ?_
 refine sy_seq ?_
 refine sy_cond rfl (fun hc1 => ?_) (fun hc1 => ?_)
 simp only [decide_eq_true_eq, decide_eq_false_iff_not, Bool.and_eq_true, Bool.or_eq_true, Bool.not_eq_true', Int.not_le, Int.not_lt] at hc1
 obtain ⟨x, hx⟩ : ∃ x, xs[k]? = some x := ⟨_, List.getElem?_eq_getElem (by omega)⟩
 obtain ⟨z, hz⟩ : ∃ z, ys[k]? = some z := ⟨_, List.getElem?_eq_getElem (by omega)⟩
 refine sy_addr (a := a) (sz := 1) (rows := irows xs) (by intro h0; simp [irows] at h0; simp [h0] at hx) (fun b off he => ?_)
 subst he
 refine sy_addr (a := a2) (sz := 1) (rows := irows ys) (by intro h0; simp [irows] at h0; simp [h0] at hz) (fun b2 off2 he => ?_)
 subst he
 refine sy_skip ?_
 refine sy_seq ?_
 refine sy_block ?_
 refine sy_seq ?_
 refine sy_tx' [0, 1] rfl ?_
 refine sp rfl (PE.move rfl) rfl ?_
 refine sp rfl (PE.assign rfl) rfl ?_
 refine sy_seq ?_
 refine sy_draw [0, 0, 3, 7, 0, 0, 48, 112, 255] (.tk 0 (.tk 1 (.tk 2 (.ld 3 (.tk 4 (.tk 5 (.tk 6 (.ld 7 (.tk 8 .done))))))))) mixed (by kernel_rfl) ?_
 refine tk rfl (PE.move rfl) rfl ?_
 refine tk rfl (PE.move rfl) rfl ?_
 refine tk rfl (PE.indexAddr el40 rfl rfl (by omega) (by omega)) rfl ?_
 refine ld rfl rfl (lf0 sc3 (by simp [irows, hx]; rfl) rfl) rfl ?_
 refine tk rfl (PE.move rfl) rfl ?_
 refine tk rfl (PE.move rfl) rfl ?_
 refine tk rfl (PE.indexAddr el40 rfl rfl (by omega) (by omega)) rfl ?_
 refine ld rfl rfl (lf0 sc3 (by simp [irows, hz]; rfl) rfl) rfl ?_
 refine tk rfl (PE.neq rfl rfl) rfl ?_
 refine sy_cond rfl (fun hc2 => ?_) (fun hc2 => ?_)
 have hne : xs ≠ ys := fun e => by subst e; rw [hx] at hz; cases hz; simp at hc2
 refine sy_seq ?_
 refine sy_tx' [0] rfl ?_
 refine sp rfl (PE.assign rfl) rfl ?_
 refine sy_ret ?_
 exact sy_return (vs := [_]) rfl (.cons (RV.tmp rfl) .nil) rfl ⟨by first | (simp only [retV]; rw [decide_eq_true heq]; done) | (simp only [retV]; rw [decide_eq_false hne]), rfl, rfl⟩ (fun _ h => h)
 have hxz : x = z := by simpa using hc2
 refine sy_skip ?_
 refine sy_tx' [0, 1] rfl ?_
 refine sp rfl (PE.add rfl rfl (by omega)) rfl ?_
 refine sp rfl (PE.move rfl) rfl ?_
 exact sy_next ⟨k + 1, by omega, by rw [List.take_add_one, List.take_add_one, hn, hx, hz, hxz]⟩ (by dsimp only; omega) (by repeat' first | exact Sub.nil | apply Sub.cons | rfl | (simp [lk]; omega)) (fun _ h => h)
 simp only [decide_eq_true_eq, decide_eq_false_iff_not, Bool.and_eq_true, Bool.or_eq_true, Bool.not_eq_true', Int.not_le, Int.not_lt] at hc1
 obtain rfl : k = xs.length := by omega
 have heq : xs = ys := by
   rw [List.take_length] at hn
   exact hn.trans (by rw [hle]; exact List.take_length)
 refine sy_exit ?_
 repeat refine sy_tx ?_
 refine sy_bx ?_
 refine sy_seq ?_
 refine sy_tx' [0] rfl ?_
 refine sp rfl (PE.assign rfl) rfl ?_
 refine sy_ret ?_
 exact sy_return (vs := [_]) rfl (.cons (RV.tmp rfl) .nil) rfl ⟨by first | (simp only [retV]; rw [decide_eq_true heq]; done) | (simp only [retV]; rw [decide_eq_false hne]), rfl, rfl⟩ (fun _ h => h)
theorem c_dup_int (xs : List Int) (a : Option Addr) (c : Nat) (hl : xs.length ≤ 1000000) (H : Heap) (R : Facts) [hR : MemRows a 1 (irows xs) R] :
    Fn Try.prog 57 [.slice a xs.length c] H R (fun v H' R' => ∃ o : OSl 3 1 (irows xs), v = o.fs ∧ o.here ∧ H' = o.G ++ H ∧ R' = R) := by
 refine fn_of Try.func57 rfl Try.ntmps57 rfl ?_
 refine sy_seq ?_
 refine sy_tx' [0] rfl ?_
 refine sp rfl (PE.assign rfl) rfl ?_
 refine sy_seq ?_
 refine sy_tx' [0, 1, 2, 3, 4, 5] rfl ?_
 refine sp rfl (PE.move rfl) rfl ?_
 refine sp rfl (PE.lenSl isl40 rfl) rfl ?_
 refine mkO rfl ap40 zl3 rfl rfl ⟨by omega, by omega⟩ rfl (fun o ho => ?_)
 refine sp rfl (PE.move rfl) rfl ?_
 refine apOh (news := irows xs) o rfl ap40 rfl rfl (rowsF) (by simp [irows]) (by simp [onecells, irows, Value.oneCell']) ⟨by simp [irows]; omega, by simp [irows]; omega⟩ rfl ho (fun o2 ho2 => ?_)
 refine sp rfl (PE.assign rfl) rfl ?_
 refine sy_ret ?_
 exact sy_return (vs := [_]) rfl (.cons (RV.tmp rfl) .nil) rfl ⟨o2.cast (by simp), rfl, ho2, rfl, rfl⟩ (fun _ h => h)
end Go.Proofs.Ytelegnmfhjfbaaa
namespace Go.Proofs.Ytelegnmfhjfbaaa
set_option linter.unusedSimpArgs false
set_option linter.unusedVariables false
open Go
theorem ub4 : Try.prog.underlying 4 = some .bool := by kernel_rfl
end Go.Proofs.Ytelegnmfhjfbaaa
namespace Go.Proofs.Ytelegnmfhjfbaaa
set_option linter.unusedSimpArgs false
set_option linter.unusedVariables false
theorem Dsk.next_mono {d : Dsk} (hd : d.ok) {s s' : HSt} (h : d.inS s) (h' : d.inS s') (hle : ∀ k < d.n, na s k ≤ na s' k) {l l' : List Nat} (hl : ∀ k ∈ l, k < d.n) (hl' : ∀ k ∈ l', k < d.n)
    (hsub : ∀ k ∈ l, k ∈ l') {t : HSt} (e : d.next s l = some t) : ∃ t', d.next s' l' = some t' ∧ ∀ k < d.n, na t k ≤ na t' k := by
  obtain ⟨_, h2⟩ := d.next_at hd.n.2 h.len hl e
  have hm : ∀ k < d.n, d.mid s l k ≤ d.mid s' l' k := fun k hk => by
    have := hle k hk
    unfold Dsk.mid
    by_cases h3 : k ∈ l
    · rw [if_pos h3, if_pos (hsub k h3)]; omega
    · rw [if_neg h3]; split <;> omega
  obtain ⟨t', ht'⟩ := d.next_some hd.n.2 h'.len hl' (fun k hk => by have := hm k hk; have := (h2 k).1 hk; have := d.inS_mid hd h l hk; have := d.inS_mid hd h' l' hk; have := (hd.ever k hk).2.1; omega)
  refine ⟨t', ht', fun k hk => ?_⟩
  obtain ⟨_, h3⟩ := d.next_at hd.n.2 h'.len hl' ht'
  have a1 := (h2 k).2; have a2 := (h3 k).2
  have := hm k hk
  have b1 := d.inS_mid hd h l hk; have b2 := d.inS_mid hd h' l' hk
  have := (hd.ever k hk).2.1
  rw [a1, a2]
  split <;> split <;> omega
theorem full_dec : ((List.range 5).all fun n => (List.range (2 ^ n)).all fun u => (List.range (n + 1)).all fun g => !decide ((bitl n u).length ≤ g) || (List.range (2 ^ n)).any fun v => decide ((bitl n v).length = g) && (bitl n u).all fun k => (bitl n v).contains k) = true := by decide +kernel
theorem full_ext {n u g : Nat} (hn : n ≤ 4) (hu : u < 2 ^ n) (hg : g ≤ n) (h : (bitl n u).length ≤ g) : ∃ v, v < 2 ^ n ∧ (bitl n v).length = g ∧ ∀ k ∈ bitl n u, k ∈ bitl n v := by
  have h0 := full_dec
  rw [List.all_eq_true] at h0
  have h1 := h0 n (List.mem_range.2 (by omega))
  rw [List.all_eq_true] at h1
  have h2 := h1 u (List.mem_range.2 hu)
  rw [List.all_eq_true] at h2
  have h3 := h2 g (List.mem_range.2 (by omega))
  rw [decide_eq_true h, Bool.not_true, Bool.false_or, List.any_eq_true] at h3
  obtain ⟨v, hv, h4⟩ := h3
  rw [Bool.and_eq_true, decide_eq_true_eq, List.all_eq_true] at h4
  exact ⟨v, List.mem_range.1 hv, h4.1, fun k hk => by simpa using h4.2 k hk⟩
theorem Dsk.mem_trs {d : Dsk} {full : Bool} {l : List Nat} : l ∈ d.trs full ↔ ∃ u, u < 2 ^ d.n ∧ l = bitl d.n u ∧ (l.length : Int) ≤ d.g ∧ (full = true → d.g ≤ (l.length : Int)) := by
  unfold Dsk.trs
  rw [List.mem_filter, List.mem_map]
  have hm : d.may full l = true ↔ (l.length : Int) ≤ d.g ∧ (full = true → d.g ≤ (l.length : Int)) := by
    unfold Dsk.may
    cases full <;> simp <;> omega
  constructor
  · rintro ⟨⟨u, hu, rfl⟩, h⟩; exact ⟨u, List.mem_range.1 hu, rfl, hm.1 h⟩
  · rintro ⟨u, hu, rfl, h⟩; exact ⟨⟨u, List.mem_range.2 hu, rfl⟩, hm.2 h⟩
theorem Dsk.full_of {d : Dsk} (hd : d.ok) {l : List Nat} (h : l ∈ d.trs false) : ∃ l' ∈ d.trs true, ∀ k ∈ l, k ∈ l' := by
  obtain ⟨u, hu, rfl, h1, _⟩ := d.mem_trs.1 h
  have hn := hd.n; have hg := hd.gangs
  have e : (d.g.toNat : Int) = d.g := by unfold Dsk.g at *; omega
  obtain ⟨v, hv, h2, h3⟩ := full_ext (g := d.g.toNat) hn.2 hu (by unfold Dsk.g at *; omega) (by omega)
  exact ⟨_, d.mem_trs.2 ⟨v, hv, rfl, by omega, fun _ => by omega⟩, h3⟩
def Dsk.pth (d : Dsk) : Nat → HSt → HSt → Nat → Prop
  | 0, s, t, c => t = s ∧ c = 0
  | n + 1, s, t, c => ∃ u a l, d.pth n s u a ∧ l ∈ d.trs false ∧ d.next u l = some t ∧ c = a + l.length
theorem Dsk.pth_cons {d : Dsk} {s u : HSt} {l : List Nat} (hl : l ∈ d.trs false) (e : d.next s l = some u) : ∀ {n : Nat} {t : HSt} {c : Nat}, d.pth n u t c → d.pth (n + 1) s t (l.length + c)
  | 0, t, c, h => by obtain ⟨rfl, rfl⟩ := h; exact ⟨s, 0, l, ⟨rfl, rfl⟩, hl, e, by omega⟩
  | n + 1, t, c, h => by
    obtain ⟨v, a, l', h1, h2, h3, rfl⟩ := h
    exact ⟨v, l.length + a, l', pth_cons hl e h1, h2, h3, by omega⟩
theorem Dsk.pth_uncons {d : Dsk} {s : HSt} : ∀ {n : Nat} {t : HSt} {c : Nat}, d.pth (n + 1) s t c → ∃ l u a, l ∈ d.trs false ∧ d.next s l = some u ∧ d.pth n u t a ∧ c = l.length + a
  | 0, t, c, h => by
    obtain ⟨v, a, l, ⟨rfl, rfl⟩, h2, h3, rfl⟩ := h
    exact ⟨l, t, 0, h2, h3, ⟨rfl, rfl⟩, by omega⟩
  | n + 1, t, c, h => by
    obtain ⟨v, a, l, h1, h2, h3, rfl⟩ := h
    obtain ⟨l', u, a', i1, i2, i3, rfl⟩ := pth_uncons h1
    exact ⟨l', u, a' + l.length, i1, i2, ⟨v, a', l, i3, h2, h3, rfl⟩, by omega⟩
theorem Dsk.trs_sub {d : Dsk} {l : List Nat} (h : l ∈ d.trs true) : l ∈ d.trs false := by
  obtain ⟨u, hu, rfl, h1, _⟩ := d.mem_trs.1 h
  exact d.mem_trs.2 ⟨u, hu, rfl, h1, fun h => by cases h⟩
theorem Dsk.pth_inS {d : Dsk} (hd : d.ok) {s : HSt} (hs : d.inS s) : ∀ {n : Nat} {t : HSt} {c : Nat}, d.pth n s t c → d.inS t
  | 0, t, c, h => by obtain ⟨rfl, rfl⟩ := h; exact hs
  | n + 1, t, c, h => by
    obtain ⟨v, a, l, h1, h2, h3, rfl⟩ := h
    exact d.next_inS hd (pth_inS hd hs h1) (d.trs_lt h2) h3
theorem Dsk.pth_alive {d : Dsk} (hd : d.ok) : ∀ {n : Nat} {s s' t : HSt} {c : Nat}, d.inS s → d.inS s' → (∀ k < d.n, na s k ≤ na s' k) → d.pth n s t c → s' ∈ d.alive n
  | 0, s, s', t, c, _, h', _, _ => (d.mem_sts hd s').2 h'
  | n + 1, s, s', t, c, h, h', hle, hp => by
    obtain ⟨v, a, _, h1, _⟩ := id hp
    obtain ⟨l, u, a', i1, i2, i3, _⟩ := d.pth_uncons hp
    obtain ⟨l', j1, j2⟩ := d.full_of hd i1
    obtain ⟨u', k1, k2⟩ := d.next_mono hd h h' hle (d.trs_lt i1) (d.trs_lt j1) j2 i2
    exact d.alive_succ.2 ⟨pth_alive hd h h' hle h1, d.helped_iff.2 ⟨l', j1, u', k1, pth_alive hd (d.next_inS hd h (d.trs_lt i1) i2) (d.next_inS hd h' (d.trs_lt j1) k1) k2 i3⟩⟩
theorem Dsk.alive_pth {d : Dsk} : ∀ {n : Nat} {s : HSt}, s ∈ d.alive n → ∃ t c, d.pth n s t c
  | 0, s, _ => ⟨s, 0, rfl, rfl⟩
  | n + 1, s, h => by
    obtain ⟨l, hl, t, ht, hta⟩ := d.helped_iff.1 (d.alive_succ.1 h).2
    obtain ⟨t', c, hp⟩ := alive_pth hta
    exact ⟨t', _, d.pth_cons (d.trs_sub hl) ht hp⟩
theorem Dsk.alive_iff {d : Dsk} (hd : d.ok) {n : Nat} {s : HSt} (hs : d.inS s) : s ∈ d.alive n ↔ ∃ t c, d.pth n s t c :=
  ⟨d.alive_pth, fun ⟨_, _, h⟩ => d.pth_alive hd hs hs (fun _ _ => Int.le_refl _) h⟩
theorem Dsk.alive_stop (d : Dsk) : ∃ n, n ≤ d.nst ∧ d.alive (n + 1) = d.alive n := by
  by_cases h : ∃ n, n ≤ d.nst ∧ d.alive (n + 1) = d.alive n
  · exact h
  · have h1 : ∀ m, m ≤ d.nst + 1 → (d.alive m).length + m ≤ d.nst := by
      intro m
      induction m with
      | zero => intro _; show d.sts.length + 0 ≤ _; rw [d.sts_len]; omega
      | succ m ih =>
        intro hm
        have := ih (by omega)
        have h2 : ((d.alive m).filter fun s => !d.helped (d.alive m) s).length ≠ 0 := fun e => h ⟨m, by omega, d.alive_same e⟩
        have := d.alive_less h2
        omega
    have := h1 (d.nst + 1) (Nat.le_refl _)
    omega
theorem Dsk.alive_ever {d : Dsk} {s : HSt} {m : Nat} (hm : d.nst ≤ m) (h : s ∈ d.alive m) : ∀ k, s ∈ d.alive k := fun k => by
  obtain ⟨n, hn, e⟩ := d.alive_stop
  rcases Nat.lt_or_ge k n with h1 | h1
  · exact d.alive_le (by omega) h
  · obtain ⟨j, rfl⟩ : ∃ j, k = n + j := ⟨k - n, by omega⟩
    rw [d.alive_fix e]; exact d.alive_le (by omega) h
theorem kpt_ref {d : Dsk} (hd : d.ok) {s : HSt} (hs : d.inS s) {j : Nat} (hj : j ≤ d.nst) (h1 : ∃ t c, d.pth j s t c) (h2 : ¬ ∃ t c, d.pth (j + 1) s t c) : Kpt d s j :=
  .inr ⟨j, Nat.le_trans hj (d.nst_le hd).2, rfl, (d.alive_iff hd hs).2 h1, fun h => h2 ((d.alive_iff hd hs).1 h)⟩
theorem kpt_ref_ever {d : Dsk} (hd : d.ok) {s : HSt} (hs : d.inS s) {m : Nat} (hm : d.nst ≤ m) (h1 : ∃ t c, d.pth m s t c) : Kpt d s 1000000 :=
  .inl ⟨rfl, d.alive_ever hm ((d.alive_iff hd hs).2 h1)⟩
def rmid (la s : List Int) (u k : Nat) : Int := bif u.testBit k then max (na s k) (na la k) else na s k
def rnum (v : Int) : Int := bif decide (v = 1000000) then v else v - 1
def rNx (la s : List Int) (u : Nat) : Nat → Option (List Int)
  | 0 => some []
  | k + 1 => match rNx la s u k with
    | none => none
    | some t => bif decide (rnum (rmid la s u k) < 0) then none else some (t ++ [rnum (rmid la s u k)])
theorem rNx_len {la s : List Int} {u : Nat} : ∀ {k : Nat} {t : List Int}, rNx la s u k = some t → t.length = k
  | 0, t, h => by cases h; rfl
  | k + 1, t, h => by
    unfold rNx at h
    split at h
    · cases h
    · rename_i v hv
      cases h1 : decide (rnum (rmid la s u k) < 0) with
      | true => rw [h1] at h; cases h
      | false => rw [h1] at h; cases h; simp [rNx_len hv]
theorem rNx_none {la s : List Int} {u n : Nat} : ∀ {k : Nat}, k ≤ n → rNx la s u k = none → rNx la s u n = none := by
  intro k hk h
  induction n with
  | zero => obtain rfl : k = 0 := by omega
            exact h
  | succ n ih =>
    rcases Nat.lt_or_ge n k with h1 | h1
    · obtain rfl : k = n + 1 := by omega
      exact h
    · unfold rNx; rw [ih h1]
theorem na_snoc {l : List Int} {v : Int} {k : Nat} : na (l ++ [v]) k = if k < l.length then na l k else if k = l.length then v else 0 := by
  unfold na
  rw [List.getD_eq_getElem?_getD, List.getD_eq_getElem?_getD]
  by_cases h : k < l.length
  · rw [if_pos h, List.getElem?_append_left h]
  · rw [if_neg h, List.getElem?_append_right (by omega)]
    by_cases h1 : k = l.length
    · rw [if_pos h1, h1]; simp
    · rw [if_neg h1, List.getElem?_eq_none (by simp; omega)]; rfl
theorem rNx_iff {la s : List Int} {u : Nat} : ∀ {n : Nat} {t : List Int}, rNx la s u n = some t ↔ t.length = n ∧ ∀ k < n, 0 ≤ rnum (rmid la s u k) ∧ na t k = rnum (rmid la s u k)
  | 0, t => by
    constructor
    · intro h; cases h; exact ⟨rfl, fun k hk => absurd hk (Nat.not_lt_zero _)⟩
    · rintro ⟨h, _⟩; rw [List.length_eq_zero_iff.1 h]; rfl
  | n + 1, t => by
    constructor
    · intro h
      refine ⟨rNx_len h, ?_⟩
      unfold rNx at h
      split at h
      · cases h
      · rename_i v hv
        obtain ⟨h1, h2⟩ := rNx_iff.1 hv
        by_cases h3 : rnum (rmid la s u n) < 0
        · rw [decide_eq_true h3] at h; cases h
        · rw [decide_eq_false h3, cond_false] at h; cases h
          intro k hk
          rw [na_snoc, h1]
          by_cases h4 : k < n
          · rw [if_pos h4]; exact h2 k h4
          · obtain rfl : k = n := by omega
            rw [if_neg h4, if_pos rfl]; exact ⟨by omega, rfl⟩
    · rintro ⟨h1, h2⟩
      have e : t = t.take n ++ [na t n] := by
        have := List.take_append_drop n t
        rw [List.drop_eq_getElem_cons (by omega), List.drop_eq_nil_of_le (by omega)] at this
        have h3 : na t n = t[n] := by unfold na; rw [List.getD_eq_getElem?_getD, List.getElem?_eq_getElem (by omega)]; rfl
        rw [h3]; exact this.symm
      have hv : rNx la s u n = some (t.take n) := rNx_iff.2 ⟨by rw [List.length_take]; omega, fun k hk => by
        have := h2 k (by omega)
        have e2 : na (t.take n) k = na t k := by unfold na; rw [List.getD_eq_getElem?_getD, List.getD_eq_getElem?_getD, List.getElem?_take, if_pos hk]
        rw [e2]; exact this⟩
      have h4 := h2 n (by omega)
      unfold rNx
      rw [hv]
      simp only
      rw [decide_eq_false (by omega), cond_false, ← h4.2, ← e]
theorem pad_na {l : List Int} {k : Nat} : na (pad l) k = na l k := by
  unfold na pad
  rw [List.getD_eq_getElem?_getD, List.getD_eq_getElem?_getD]
  rcases Nat.lt_or_ge k l.length with h | h
  · rw [List.getElem?_append_left h]
  · rw [List.getElem?_append_right h, List.getElem?_eq_none h, List.getElem?_replicate]
    split <;> rfl
theorem pad_inj {s t : List Int} (hs : s.length = t.length) (h : pad s = pad t) : s = t := by
  refine List.ext_getElem? fun k => ?_
  rcases Nat.lt_or_ge k s.length with h1 | h1
  · have : na (pad s) k = na (pad t) k := by rw [h]
    rw [pad_na, pad_na] at this
    unfold na at this
    rw [List.getD_eq_getElem?_getD, List.getD_eq_getElem?_getD, List.getElem?_eq_getElem h1, List.getElem?_eq_getElem (by omega)] at this
    rw [List.getElem?_eq_getElem h1, List.getElem?_eq_getElem (by omega)]
    simpa using this
  · rw [List.getElem?_eq_none h1, List.getElem?_eq_none (by omega)]
theorem mem_bitl {n u k : Nat} : k ∈ bitl n u ↔ k < n ∧ u.testBit k = true := by
  unfold bitl; rw [List.mem_filter, List.mem_range]
theorem rmid_eq {d : Dsk} {la s : List Int} (hla : ∀ k < d.n, na la k = na d.lasts k) (u : Nat) {k : Nat} (hk : k < d.n) : rmid la s u k = d.mid (pad s) (bitl d.n u) k := by
  unfold rmid Dsk.mid
  rw [pad_na, hla k hk]
  cases h : u.testBit k with
  | true => rw [if_pos (mem_bitl.2 ⟨hk, h⟩)]; rfl
  | false => rw [if_neg (fun h1 => by have := (mem_bitl.1 h1).2; rw [h] at this; cases this)]; rfl
theorem rNx_next {d : Dsk} (hn : d.n ≤ 4) {la s t : List Int} (hla : ∀ k < d.n, na la k = na d.lasts k) (hs : s.length = d.n) (ht : t.length = d.n) (u : Nat) : rNx la s u d.n = some t ↔ d.next (pad s) (bitl d.n u) = some (pad t) := by
  have hl : ∀ k ∈ bitl d.n u, k < d.n := fun k hk => bitl_lt hk
  have hps : (pad s).length = 4 := pad_len' (by omega)
  rw [rNx_iff]
  constructor
  · rintro ⟨_, h⟩
    obtain ⟨t', ht'⟩ := d.next_some hn hps hl (fun k hk => by
      have := (h k hk).1
      rw [rmid_eq hla u hk] at this
      unfold rnum at this
      by_cases h1 : d.mid (pad s) (bitl d.n u) k = 1000000
      · exact .inl h1
      · rw [decide_eq_false h1, cond_false] at this; exact .inr (by omega))
    rw [ht']
    congr 1
    obtain ⟨h2, h3⟩ := d.next_at hn hps hl ht'
    refine ext4 h2 (pad_len' (by omega)) fun k hk => ?_
    rw [(h3 k).2, pad_na]
    by_cases hkn : k < d.n
    · rw [(h k hkn).2, rmid_eq hla u hkn]
      unfold rnum
      by_cases h1 : d.mid (pad s) (bitl d.n u) k = 1000000
      · rw [if_neg (by omega), decide_eq_true h1]; rfl
      · rw [if_pos ⟨hkn, h1⟩, decide_eq_false h1]; rfl
    · rw [if_neg (by omega)]
      unfold Dsk.mid
      rw [if_neg (fun h1 => hkn (hl k h1)), pad_na]
      unfold na
      rw [List.getD_eq_getElem?_getD, List.getD_eq_getElem?_getD, List.getElem?_eq_none (by omega), List.getElem?_eq_none (by omega)]
  · intro h
    obtain ⟨h2, h3⟩ := d.next_at hn hps hl h
    refine ⟨ht, fun k hk => ?_⟩
    obtain ⟨h4, h5⟩ := h3 k
    have h4 := h4 hk
    rw [pad_na] at h5
    rw [rmid_eq hla u hk, h5]
    unfold rnum
    by_cases h1 : d.mid (pad s) (bitl d.n u) k = 1000000
    · rw [if_neg (by omega), decide_eq_true h1, cond_true]; exact ⟨by omega, rfl⟩
    · rw [if_pos ⟨hk, h1⟩, decide_eq_false h1, cond_false]; exact ⟨by omega, rfl⟩
theorem ones_dec : ((List.range 5).all fun n => (List.range (2 ^ n)).all fun u => decide ((bitl n u).length = (bitl 4 u).length)) = true := by decide +kernel
theorem ones_eq {n u : Nat} (hn : n ≤ 4) (hu : u < 2 ^ n) : (bitl 4 u).length = (bitl n u).length := by
  have h0 := ones_dec
  rw [List.all_eq_true] at h0
  have h1 := h0 n (List.mem_range.2 (by omega))
  rw [List.all_eq_true] at h1
  exact (of_decide_eq_true (h1 u (List.mem_range.2 hu))).symm
theorem ones_step : ∀ u < 16, (bitl 4 u).length = u % 2 + (bitl 4 (u / 2)).length := by decide +kernel
theorem ones_le (u : Nat) : (bitl 4 u).length ≤ 4 := bitl_len 4 u
def rS (n : Nat) (g : Int) (la s : List Int) (u : Nat) : Option (List Int) := bif decide (((bitl 4 u).length : Int) ≤ g) then rNx la s u n else none
theorem rS_len {n : Nat} {g : Int} {la s t : List Int} {u : Nat} (h : rS n g la s u = some t) : t.length = n := by
  unfold rS at h
  cases h1 : decide (((bitl 4 u).length : Int) ≤ g) with
  | true => rw [h1] at h; exact rNx_len h
  | false => rw [h1] at h; cases h
def Sx (n : Nat) (g : Int) (la : List Int) (now : List (List Int)) (i u : Nat) (t : List Int) : Prop := ∃ j s v, now[j]? = some s ∧ (j < i ∨ (j = i ∧ v < u)) ∧ v < 2 ^ n ∧ rS n g la s v = some t
theorem Sx.step {n : Nat} {g : Int} {la s t : List Int} {now : List (List Int)} {i u : Nat} (hs : now[i]? = some s) (hu : u < 2 ^ n) : Sx n g la now i (u + 1) t ↔ Sx n g la now i u t ∨ rS n g la s u = some t := by
  constructor
  · rintro ⟨j, s', v, h1, h2, h3, h4⟩
    rcases h2 with h2 | ⟨rfl, h2⟩
    · exact .inl ⟨j, s', v, h1, .inl h2, h3, h4⟩
    · rcases Nat.lt_or_ge v u with h5 | h5
      · exact .inl ⟨j, s', v, h1, .inr ⟨rfl, h5⟩, h3, h4⟩
      · obtain rfl : v = u := by omega
        rw [hs] at h1; cases h1; exact .inr h4
  · rintro (⟨j, s', v, h1, h2, h3, h4⟩ | h)
    · exact ⟨j, s', v, h1, by omega, h3, h4⟩
    · exact ⟨i, s, u, hs, by omega, hu, h⟩
theorem Sx.next {n : Nat} {g : Int} {la t : List Int} {now : List (List Int)} {i : Nat} : Sx n g la now (i + 1) 0 t ↔ Sx n g la now i (2 ^ n) t := by
  constructor
  · rintro ⟨j, s', v, h1, h2, h3, h4⟩
    exact ⟨j, s', v, h1, by omega, h3, h4⟩
  · rintro ⟨j, s', v, h1, h2, h3, h4⟩
    exact ⟨j, s', v, h1, by omega, h3, h4⟩
structure Bf (n : Nat) (g : Int) (la : List Int) (now : List (List Int)) (i u : Nat) (L : List (List Int)) : Prop where
  len : ∀ t ∈ L, t.length = n
  nd : L.Nodup
  mem : ∀ t, t ∈ L ↔ Sx n g la now i u t
theorem Bf.start {n : Nat} {g : Int} {la : List Int} {now : List (List Int)} : Bf n g la now 0 0 [] := ⟨by simp, List.nodup_nil, fun t => by
  constructor
  · intro h; cases h
  · rintro ⟨j, s, v, _, h, _⟩; omega⟩
theorem Bf.next {n : Nat} {g : Int} {la : List Int} {now : List (List Int)} {i : Nat} {L : List (List Int)} (h : Bf n g la now i (2 ^ n) L) : Bf n g la now (i + 1) 0 L := ⟨h.len, h.nd, fun t => (h.mem t).trans Sx.next.symm⟩
theorem Bf.skip {n : Nat} {g : Int} {la s : List Int} {now : List (List Int)} {i u : Nat} {L : List (List Int)} (h : Bf n g la now i u L) (hs : now[i]? = some s) (hu : u < 2 ^ n) (hn : ∀ t, rS n g la s u = some t → t ∈ L) : Bf n g la now i (u + 1) L := ⟨h.len, h.nd, fun t => by
  rw [Sx.step hs hu, ← h.mem]
  exact ⟨.inl, fun h1 => h1.elim id (hn t)⟩⟩
theorem Bf.add {n : Nat} {g : Int} {la s t : List Int} {now : List (List Int)} {i u : Nat} {L : List (List Int)} (h : Bf n g la now i u L) (hs : now[i]? = some s) (hu : u < 2 ^ n) (ht : rS n g la s u = some t) (hn : t ∉ L) : Bf n g la now i (u + 1) (L ++ [t]) where
  len x hx := by
    rcases List.mem_append.1 hx with hx | hx
    · exact h.len x hx
    · rw [List.mem_singleton.1 hx]; exact rS_len ht
  nd := List.nodup_append.2 ⟨h.nd, by simp, fun x hx y hy e => hn (by rw [← List.mem_singleton.1 hy, ← e]; exact hx)⟩
  mem x := by
    rw [Sx.step hs hu, ← h.mem, List.mem_append, List.mem_singleton, ht]
    exact or_congr_right ⟨fun e => by rw [e], fun e => (Option.some.inj e).symm⟩
theorem nodup_len {α : Type} [DecidableEq α] : ∀ {l m : List α}, l.Nodup → (∀ x ∈ l, x ∈ m) → l.length ≤ m.length
  | [], _, _, _ => Nat.zero_le _
  | x :: l, m, hn, h => by
    rw [List.nodup_cons] at hn
    have hx := h x (by simp)
    have h1 := nodup_len (m := m.erase x) hn.2 fun y hy => (List.mem_erase_of_ne (show y ≠ x from fun e => hn.1 (by rw [← e]; exact hy))).2 (h y (by simp [hy]))
    rw [List.length_erase_of_mem hx] at h1
    have := List.length_pos_of_mem hx
    rw [List.length_cons]; omega
theorem nodup_map {α β : Type} {f : α → β} : ∀ {l : List α}, (∀ x ∈ l, ∀ y ∈ l, f x = f y → x = y) → l.Nodup → (l.map f).Nodup
  | [], _, _ => List.nodup_nil
  | x :: l, hf, hn => by
    rw [List.nodup_cons] at hn
    rw [List.map_cons, List.nodup_cons]
    refine ⟨fun h => ?_, nodup_map (fun a ha b hb => hf a (by simp [ha]) b (by simp [hb])) hn.2⟩
    obtain ⟨y, hy, e⟩ := List.mem_map.1 h
    have e2 := hf y (by simp [hy]) x (by simp) e
    exact hn.1 (e2 ▸ hy)
structure Lv (d : Dsk) (s0 : HSt) (day : Nat) (L : List (List Int)) : Prop where
  len : ∀ t ∈ L, t.length = d.n
  mem : ∀ t, t.length = d.n → (t ∈ L ↔ ∃ c, d.pth day s0 (pad t) c)
theorem inS_pad {d : Dsk} (hd : d.ok) {u : HSt} (h : d.inS u) : pad (u.take d.n) = u := by
  have hn := hd.n
  refine ext4 (pad_len' (by rw [List.length_take]; omega)) h.len fun k hk => ?_
  rw [pad_na]
  unfold na
  rw [List.getD_eq_getElem?_getD, List.getD_eq_getElem?_getD, List.getElem?_take]
  by_cases h1 : k < d.n
  · rw [if_pos h1]
  · rw [if_neg h1]
    have := h.out k hk (by omega)
    unfold na at this
    rw [List.getD_eq_getElem?_getD] at this
    rw [this]; rfl
theorem Lv.start {d : Dsk} {s : List Int} (hs : s.length = d.n) : Lv d (pad s) 0 [s] := ⟨fun t ht => by rw [List.mem_singleton.1 ht]; exact hs, fun t ht => by
  rw [List.mem_singleton]
  constructor
  · rintro rfl; exact ⟨0, rfl, rfl⟩
  · rintro ⟨c, h, _⟩; exact pad_inj (by omega) h⟩
theorem Lv.inS {d : Dsk} (hd : d.ok) {s0 : HSt} (h0 : d.inS s0) {day : Nat} {L : List (List Int)} (h : Lv d s0 day L) {t : List Int} (ht : t ∈ L) : d.inS (pad t) := by
  obtain ⟨c, hc⟩ := (h.mem t (h.len t ht)).1 ht
  exact d.pth_inS hd h0 hc
theorem rS_iff {d : Dsk} (hd : d.ok) {la s t : List Int} (hla : ∀ k < d.n, na la k = na d.lasts k) (hs : s.length = d.n) (ht : t.length = d.n) {v : Nat} (hv : v < 2 ^ d.n) : rS d.n d.gangs la s v = some t ↔ bitl d.n v ∈ d.trs false ∧ d.next (pad s) (bitl d.n v) = some (pad t) := by
  have hn := hd.n
  have e := ones_eq hn.2 hv
  have hle := bitl_len d.n v
  have hm : bitl d.n v ∈ d.trs false ↔ ((bitl d.n v).length : Int) ≤ d.gangs := by
    rw [d.mem_trs]
    unfold Dsk.g
    constructor
    · rintro ⟨_, _, _, h, _⟩; omega
    · intro h; exact ⟨v, hv, rfl, by omega, fun h => by cases h⟩
  unfold rS
  rw [e]
  by_cases h : ((bitl d.n v).length : Int) ≤ d.gangs
  · rw [decide_eq_true h, cond_true, rNx_next hn.2 hla hs ht]
    exact ⟨fun h1 => ⟨hm.2 h, h1⟩, fun h1 => h1.2⟩
  · rw [decide_eq_false h, cond_false]
    exact ⟨fun h1 => (by cases h1), fun h1 => absurd (hm.1 h1.1) h⟩
theorem Lv.next {d : Dsk} (hd : d.ok) {s0 : HSt} (h0 : d.inS s0) {la : List Int} (hla : ∀ k < d.n, na la k = na d.lasts k) {day : Nat} {now L : List (List Int)} (h : Lv d s0 day now) (hb : Bf d.n d.gangs la now now.length 0 L) : Lv d s0 (day + 1) L where
  len := hb.len
  mem t ht := by
    rw [hb.mem]
    constructor
    · rintro ⟨j, s, v, h1, _, h3, h4⟩
      have hm := List.mem_of_getElem? h1
      obtain ⟨c, hc⟩ := (h.mem s (h.len s hm)).1 hm
      obtain ⟨h5, h6⟩ := (rS_iff hd hla (h.len s hm) ht h3).1 h4
      exact ⟨_, _, _, _, hc, h5, h6, rfl⟩
    · rintro ⟨c, u, a, l, h1, h2, h3, _⟩
      obtain ⟨v, hv, rfl, _⟩ := d.mem_trs.1 h2
      have hu := d.pth_inS hd h0 h1
      have hlen : (u.take d.n).length = d.n := by rw [List.length_take, hu.len]; have := hd.n; omega
      have e := inS_pad hd hu
      have hm : u.take d.n ∈ now := (h.mem _ hlen).2 ⟨a, by rw [e]; exact h1⟩
      obtain ⟨j, hj⟩ := List.getElem?_of_mem hm
      exact ⟨j, _, v, hj, .inl (List.getElem?_eq_some_iff.1 hj).1, hv, (rS_iff hd hla hlen ht hv).2 ⟨h2, by rw [e]; exact h3⟩⟩
theorem Bf.few {d : Dsk} (hd : d.ok) {s0 : HSt} (h0 : d.inS s0) {la : List Int} (hla : ∀ k < d.n, na la k = na d.lasts k) {day i u : Nat} {now L : List (List Int)} (h : Lv d s0 day now) (hb : Bf d.n d.gangs la now i u L) : L.length ≤ 14641 := by
  have h1 : (L.map pad).length ≤ d.sts.length := nodup_len (nodup_map (fun x hx y hy e => pad_inj (by rw [hb.len x hx, hb.len y hy]) e) hb.nd) fun p hp => by
    obtain ⟨t, ht, rfl⟩ := List.mem_map.1 hp
    obtain ⟨j, s, v, h1, _, h3, h4⟩ := (hb.mem t).1 ht
    have hm := List.mem_of_getElem? h1
    obtain ⟨h5, h6⟩ := (rS_iff hd hla (h.len s hm) (hb.len t ht) h3).1 h4
    exact (d.mem_sts hd _).2 (d.next_inS hd (h.inS hd h0 hm) (d.trs_lt h5) h6)
  rw [List.length_map, d.sts_len] at h1
  have := (d.nst_le hd).2
  omega
theorem Lv.ends {d : Dsk} (hd : d.ok) {s0 : HSt} (h0 : d.inS s0) {day : Nat} (hday : day ≤ d.nst) {now : List (List Int)} (h : Lv d s0 day now) (hne : now ≠ []) (h' : Lv d s0 (day + 1) []) : Kpt d s0 day := by
  refine kpt_ref hd h0 hday ?_ ?_
  · obtain ⟨t, ht⟩ := List.exists_mem_of_ne_nil now hne
    obtain ⟨c, hc⟩ := (h.mem t (h.len t ht)).1 ht
    exact ⟨_, c, hc⟩
  · rintro ⟨t, c, hc⟩
    have hi := d.pth_inS hd h0 hc
    have hlen : (t.take d.n).length = d.n := by rw [List.length_take, hi.len]; have := hd.n; omega
    have := (h'.mem _ hlen).2 ⟨c, by rw [inS_pad hd hi]; exact hc⟩
    cases this
theorem Lv.ever {d : Dsk} (hd : d.ok) {s0 : HSt} (h0 : d.inS s0) {day : Nat} (hday : d.nst ≤ day) {now : List (List Int)} (h : Lv d s0 day now) (hne : now ≠ []) : Kpt d s0 1000000 := by
  obtain ⟨t, ht⟩ := List.exists_mem_of_ne_nil now hne
  obtain ⟨c, hc⟩ := (h.mem t (h.len t ht)).1 ht
  exact kpt_ref_ever hd h0 hday ⟨_, c, hc⟩
end Go.Proofs.Ytelegnmfhjfbaaa
namespace Go.Proofs.Ytelegnmfhjfbaaa
set_option linter.unusedSimpArgs false
set_option linter.unusedVariables false
open Go
def bgL (b : Barn) : List Int := b.bins.map fun x => b.days x x.warm
def laL (b : Barn) : List Int := b.bins.map fun x => b.days x b.cool
theorem bgL_len (b : Barn) : (bgL b).length = b.bins.length := List.length_map _
theorem laL_at {b : Barn} {k : Nat} {x : HBin} (hx : b.bins[k]? = some x) : na (laL b) k = b.days x b.cool := by unfold na laL; rw [List.getD_eq_getElem?_getD, List.getElem?_map, hx]; rfl
theorem laL_lasts (b : Barn) : ∀ k < b.dsk.n, na (laL b) k = na b.dsk.lasts k := fun k _ => (pad_na (l := laL b)).symm
theorem prd_app : ∀ (a c : List Nat), prd (a ++ c) = prd a * prd c
  | [], c => by simp [prd]
  | z :: a, c => by show z * prd (a ++ c) = z * prd a * prd c; rw [prd_app a c, Nat.mul_assoc]
theorem prd_take {zs : List Nat} {k z : Nat} (h : zs[k]? = some z) : prd (zs.take (k + 1)) = prd (zs.take k) * z := by
  rw [List.take_add_one, h, Option.toList_some, prd_app]; simp [prd]
theorem prd_bd {d : Dsk} (hd : d.ok) {k : Nat} (hk : k ≤ d.n) : 1 ≤ prd (d.zs.take k) ∧ prd (d.zs.take k) ≤ 14641 := by
  refine ⟨prd_pos _ (fun z hz => d.zs_pos z (List.mem_of_mem_take hz)), ?_⟩
  have h1 : d.nst = prd (d.zs.take k) * prd (d.zs.drop k) := by unfold Dsk.nst; rw [← prd_app, List.take_append_drop]
  have h2 := prd_pos (d.zs.drop k) (fun z hz => d.zs_pos z (List.mem_of_mem_drop hz))
  have h3 := (d.nst_le hd).2
  have h4 : prd (d.zs.take k) * 1 ≤ prd (d.zs.take k) * prd (d.zs.drop k) := Nat.mul_le_mul_left _ h2
  omega
theorem pow_le16 {n : Nat} (h : n ≤ 4) : 1 ≤ 2 ^ n ∧ 2 ^ n ≤ 16 := by
  refine ⟨Nat.pos_of_ne_zero (by simp), ?_⟩
  have := Nat.pow_le_pow_right (show 0 < 2 by decide) h
  omega
theorem rmid_yes {la s : List Int} {u k : Nat} (h : u / 2 ^ k % 2 = 1) : rmid la s u k = max (na s k) (na la k) := by
  unfold rmid; rw [Nat.testBit_eq_decide_div_mod_eq, decide_eq_true h]; rfl
theorem rmid_no {la s : List Int} {u k : Nat} (h : ¬ u / 2 ^ k % 2 = 1) : rmid la s u k = na s k := by
  unfold rmid; rw [Nat.testBit_eq_decide_div_mod_eq, decide_eq_false h]; rfl
theorem rNx_bad {la s : List Int} {u k n : Nat} {t : List Int} (hk : k < n) (h : rNx la s u k = some t) (hb : rnum (rmid la s u k) < 0) : rNx la s u n = none := by
  refine rNx_none (k := k + 1) hk ?_
  unfold rNx; rw [h]; simp only; rw [decide_eq_true hb]; rfl
theorem rNx_good {la s : List Int} {u k : Nat} {t : List Int} (h : rNx la s u k = some t) (hb : ¬ rnum (rmid la s u k) < 0) : rNx la s u (k + 1) = some (t ++ [rnum (rmid la s u k)]) := by
  unfold rNx; rw [h]; simp only; rw [decide_eq_false hb]; rfl
theorem irows_one (l : List Int) : ∀ r ∈ irows l, r.length = 1 := fun r hr => by obtain ⟨x, _, rfl⟩ := List.mem_map.1 hr; rfl
def plcV (l : List (List Int)) (s : List Int) : Int := match l.findIdx? (fun t => decide (t = s)) with
  | some k => (k : Int)
  | none => -1
theorem plc_neg {l : List (List Int)} {s : List Int} : plcV l s < 0 ↔ s ∉ l := by
  unfold plcV
  cases h : l.findIdx? (fun t => decide (t = s)) with
  | some k =>
    obtain ⟨hk, h1, _⟩ := List.findIdx?_eq_some_iff_getElem.1 h
    have : l[k] = s := of_decide_eq_true h1
    constructor
    · intro h; simp only at h; omega
    · intro h; exact absurd (this ▸ List.getElem_mem hk) h
  | none =>
    rw [List.findIdx?_eq_none_iff] at h
    constructor
    · intro _ hm; have := h s hm; simp at this
    · intro _; simp only; omega
theorem take_eq2 {l s : List Int} {i : Nat} {u v : Int} (hu : l[i]? = some u) (hv : s[i]? = some v) : decide (l.take (i + 1) = s.take (i + 1)) = (decide (l.take i = s.take i) && decide (u = v)) := by
  rw [take_snoc hu, take_snoc hv, ← Bool.decide_and]
  refine decide_eq_decide.2 ⟨fun h => ?_, fun h => by rw [h.1, h.2]⟩
  have h1 := List.append_inj h (by have := (List.getElem?_eq_some_iff.1 hu).1; have := (List.getElem?_eq_some_iff.1 hv).1; rw [List.length_take, List.length_take]; omega)
  exact ⟨h1.1, by simpa using h1.2⟩
theorem plc_at {l : List (List Int)} {s t : List Int} {k : Nat} (hn : ∀ y ∈ l.take k, y ≠ s) (h : l[k]? = some t) (e : t = s) : plcV l s = k := by
  have hk := (List.getElem?_eq_some_iff.1 h).1
  have : l.findIdx? (fun t => decide (t = s)) = some k := List.findIdx?_eq_some_iff_getElem.2 ⟨hk, by rw [(List.getElem?_eq_some_iff.1 h).2]; exact decide_eq_true e, fun j hj => by
    have := hn l[j] (List.mem_take_iff_getElem.2 ⟨j, by omega, rfl⟩)
    simpa using this⟩
  unfold plcV; rw [this]
theorem plc_no {l : List (List Int)} {s : List Int} (hn : ∀ y ∈ l, y ≠ s) : plcV l s = -1 := by
  have : l.findIdx? (fun t => decide (t = s)) = none := List.findIdx?_eq_none_iff.2 fun x hx => by simpa using hn x hx
  unfold plcV; rw [this]
theorem c_rBegin (b : Barn) (ab : Option Addr) (cb : Nat) (hok : b.ok) (H : Heap) (R : Facts) [hB : MemRows ab 4 (brows b.bins) R] :
    Fn Try.prog 84 [b.v (b.sl ab cb)] H R (fun v H' R' => ∃ (ax : Option Addr) (cx : Nat), v = .slice ax b.bins.length cx ∧ H' = H ∧ R' = RowsA ax 1 (irows (bgL b)) :: R) := by
 have hmn := hok.many
 refine fn_of Try.func84 rfl Try.ntmps84 rfl ?_
 refine sy_seq ?_
 refine sy_tx' [0, 1] rfl ?_
 refine bx rfl rfl rfl (fun b1 => ?_)
 refine sp rfl (PE.assign rfl) rfl ?_
 refine sy_seq ?_
 refine sy_tx' [0] rfl ?_
 refine sp rfl (PE.assign rfl) rfl ?_
 refine sy_seq ?_
 refine sy_seq ?_
 refine sy_tx' [0] rfl ?_
 refine sp rfl (PE.assign rfl) rfl ?_
 refine sy_block ?_
 refine sy_loop (ι := (k : {k : Nat // k ≤ b.bins.length}) × OSl 3 1 (irows ((bgL b).take k.1))) (fun y => ⟨[(1, .pointer (some ⟨b1, 0, none⟩)), (3, y.2.fs), (4, .int .i64 y.1.1)], y.2.G ++ (b1, cel 33 (btl b (b.sl ab cb))) :: H, R⟩) (fun y => b.bins.length - y.1.1) ⟨⟨0, by omega⟩, OSl.nil _ _⟩ ?_ (fun y => ?_)
 exact sy_at (by repeat' first | exact Sub.nil | apply Sub.cons | rfl | (simp [lk]; omega)) (fun _ h => h)
 obtain ⟨⟨k, hk⟩, o⟩ := y
 dsimp only at hk o ⊢
 refine sy_seq ?_
 refine sy_seq ?_
 refine sy_tx' [0, 1, 2, 3, 4] rfl ?_
 refine sp rfl (PE.move rfl) rfl ?_
 refine sp rfl (PE.fieldAddr fo33_3 rfl) rfl ?_
 refine spL rfl rfl (lh sc31 rfl rfl) rfl ?_
 refine sp rfl (PE.lenSl isl31 rfl) rfl ?_
 refine sp rfl (PE.lss rfl rfl) rfl ?_
 refine sy_cond rfl (fun hc0 => ?_) (fun hc0 => ?_)
 try simp only [decide_eq_true_eq, decide_eq_false_iff_not, Bool.and_eq_true, Bool.or_eq_true, Bool.not_eq_true', Int.not_le, Int.not_lt] at hc0
 obtain ⟨x, hx⟩ : ∃ x, b.bins[k]? = some x := ⟨_, List.getElem?_eq_getElem (by omega)⟩
 have hm := List.mem_of_getElem? hx
 have hh := hok.bins x hm
 have hg : (bgL b)[k]? = some (b.days x x.warm) := by unfold bgL; rw [List.getElem?_map, hx]; rfl
 refine sy_addr (a := ab) (sz := 4) (rows := brows b.bins) (by intro h0; simp [brows] at h0; simp [h0] at hx) (fun ba oa he => ?_)
 subst he
 refine sy_skip ?_
 refine sy_seq ?_
 refine sy_block ?_
 refine sy_draw [0, 0, 0, 0, 8, 0, 56, 120, 248, 510, 1022, 2047, 4095] (.tk 0 (.ld 1 (.tk 2 (.tk 3 (.ld 4 (.tk 5 (.tk 6 (.tk 7 (.ld 8 (.big 9 (.big 10 (.big 11 (.tk 12 .done))))))))))))) mixed (by kernel_rfl) ?_
 refine tk rfl (PE.move rfl) rfl ?_
 refine ld rfl rfl (lhA (btl b (b.sl (some ⟨ba, oa, none⟩) cb)) ag33 rfl rfl rfl) rfl ?_
 refine tk rfl (PE.move rfl) rfl ?_
 refine tk rfl (PE.fieldAddr fo33_3 rfl) rfl ?_
 refine ld rfl rfl (lh sc31 rfl rfl) rfl ?_
 refine tk rfl (PE.move rfl) rfl ?_
 refine tk rfl (PE.indexAddr el31 rfl rfl (by omega) (by omega)) rfl ?_
 refine tk rfl (PE.fieldAddr fo113_0 rfl) rfl ?_
 refine ld rfl rfl (lf (j := 0) sc3 (br_get hx) rfl) rfl ?_
 refine clV rfl cal48 rfl rfl (c_rLeft b (some ⟨ba, oa, none⟩) cb hok k x hx x.warm (by omega) _ _) ?_
 refine bg (fun w hs => ⟨trivial, trivial, trivial, trivial⟩) ?_
 refine bsl (out := [_]) rfl sl40 zl3 rfl rfl rfl rfl rfl rfl (fun b22 => ?_)
 refine bg (fun w hs => trivial) ?_
 refine apO (o) rfl ap40 rfl rfl (rowsH (row := [.int .i64 (b.days x x.warm)]) rfl) rfl rfl ((by rw [irows_len, List.length_take, bgL_len]; simp only [List.length_singleton]; omega)) rfl (fun o23 => ?_)
 refine bg (fun w hs => trivial) ?_
 refine tk rfl (PE.assign rfl) rfl ?_
 refine sy_tx' [0, 1, 2] rfl ?_
 refine sp rfl (PE.move rfl) rfl ?_
 refine sp rfl (PE.add rfl rfl (by omega)) rfl ?_
 refine sp rfl (PE.assign rfl) rfl ?_
 exact sy_next ⟨⟨k + 1, by omega⟩, o23.cast (by rw [take_snoc hg]; simp [irows])⟩ (by dsimp only; omega) (by repeat' first | exact Sub.nil | apply Sub.cons | rfl | (simp [lk]; omega)) (fun w h => h.del b22)
 try simp only [decide_eq_true_eq, decide_eq_false_iff_not, Bool.and_eq_true, Bool.or_eq_true, Bool.not_eq_true', Int.not_le, Int.not_lt] at hc0
 obtain rfl : k = b.bins.length := by omega
 obtain ⟨ax, cx, he, hf⟩ := o.freeze
 rw [he, irows_len, List.length_take, bgL_len, Nat.min_self]
 refine Sy.heap (fun w h => hf h) ?_
 clear he hf
 rw [show (bgL b).take b.bins.length = bgL b from List.take_of_length_le (by rw [bgL_len]; exact Nat.le_refl _)]
 refine sy_exit ?_
 repeat refine sy_tx ?_
 refine sy_bx ?_
 refine sy_seq ?_
 refine sy_tx' [0, 1] rfl ?_
 refine sp rfl (PE.move rfl) rfl ?_
 refine sp rfl (PE.assign rfl) rfl ?_
 refine sy_ret ?_
 exact sy_return (vs := [_]) rfl (.cons (RV.tmp rfl) .nil) rfl ⟨ax, cx, rfl, rfl, rfl⟩ (fun w h => h.del b1)
theorem c_rMany (b : Barn) (ab : Option Addr) (cb : Nat) (hok : b.ok) (H : Heap) (R : Facts) [hB : MemRows ab 4 (brows b.bins) R] :
    FnV Try.prog 83 [b.v (b.sl ab cb)] H R (.int .i64 (b.dsk.nst : Int)) := by
 have hmn := hok.many
 have hdk := b.dsk_ok hok
 refine fn_of Try.func83 rfl Try.ntmps83 rfl ?_
 refine sy_seq ?_
 refine sy_tx' [0, 1] rfl ?_
 refine bx rfl rfl rfl (fun b1 => ?_)
 refine sp rfl (PE.assign rfl) rfl ?_
 refine sy_seq ?_
 refine sy_tx' [0] rfl ?_
 refine sp rfl (PE.assign rfl) rfl ?_
 refine sy_seq ?_
 refine sy_seq ?_
 refine sy_tx' [0] rfl ?_
 refine sp rfl (PE.assign rfl) rfl ?_
 refine sy_block ?_
 refine sy_loop (ι := {k : Nat // k ≤ b.bins.length}) (fun k => ⟨[(1, .pointer (some ⟨b1, 0, none⟩)), (3, .int .i64 (prd (b.dsk.zs.take k.1) : Nat)), (4, .int .i64 k.1)], (b1, cel 33 (btl b (b.sl ab cb))) :: H, R⟩) (fun k => b.bins.length - k.1) ⟨0, by omega⟩ ?_ (fun k => ?_)
 exact sy_at (by repeat' first | exact Sub.nil | apply Sub.cons | rfl | (simp [lk]; omega)) (fun _ h => h)
 obtain ⟨k, hk⟩ := k
 dsimp only at hk ⊢
 have hpb := prd_bd hdk (show k ≤ b.dsk.n from hk)
 refine sy_seq ?_
 refine sy_seq ?_
 refine sy_tx' [0, 1, 2, 3, 4] rfl ?_
 refine sp rfl (PE.move rfl) rfl ?_
 refine sp rfl (PE.fieldAddr fo33_3 rfl) rfl ?_
 refine spL rfl rfl (lh sc31 rfl rfl) rfl ?_
 refine sp rfl (PE.lenSl isl31 rfl) rfl ?_
 refine sp rfl (PE.lss rfl rfl) rfl ?_
 refine sy_cond rfl (fun hc0 => ?_) (fun hc0 => ?_)
 try simp only [decide_eq_true_eq, decide_eq_false_iff_not, Bool.and_eq_true, Bool.or_eq_true, Bool.not_eq_true', Int.not_le, Int.not_lt] at hc0
 obtain ⟨x, hx⟩ : ∃ x, b.bins[k]? = some x := ⟨_, List.getElem?_eq_getElem (by omega)⟩
 have hm := List.mem_of_getElem? hx
 have hh := hok.bins x hm
 have r1 := b.days_range hok hm hh.2.1.1
 have r2 := b.days_range hok hm hok.cool.1
 have hmo : na b.dsk.most k = max (b.days x x.warm) (b.days x b.cool) := na_at (b.map_get hok _ hx)
 have hzk := b.dsk.zs_get hdk (show k < b.dsk.n by show k < b.bins.length; omega)
 rw [hmo] at hzk
 have hpt := prd_take hzk
 have hpb2 := prd_bd hdk (show k + 1 ≤ b.dsk.n by show k + 1 ≤ b.bins.length; omega)
 refine sy_addr (a := ab) (sz := 4) (rows := brows b.bins) (by intro h0; simp [brows] at h0; simp [h0] at hx) (fun ba oa he => ?_)
 subst he
 refine sy_skip ?_
 refine sy_seq ?_
 refine sy_block ?_
 refine sy_seq ?_
 refine sy_draw [0, 0, 0, 4, 0, 28, 60, 124, 255, 0, 0, 2047, 4095, 8191] (.ld 0 (.tk 1 (.tk 2 (.ld 3 (.tk 4 (.tk 5 (.tk 6 (.ld 7 (.ld 9 (.tk 10 (.big 8 (.big 11 (.tk 12 (.tk 13 .done)))))))))))))) mixed (by kernel_rfl) ?_
 refine ld rfl rfl (lhA (btl b (b.sl (some ⟨ba, oa, none⟩) cb)) ag33 rfl rfl rfl) rfl ?_
 refine tk rfl (PE.move rfl) rfl ?_
 refine tk rfl (PE.fieldAddr fo33_3 rfl) rfl ?_
 refine ld rfl rfl (lh sc31 rfl rfl) rfl ?_
 refine tk rfl (PE.move rfl) rfl ?_
 refine tk rfl (PE.indexAddr el31 rfl rfl (by omega) (by omega)) rfl ?_
 refine tk rfl (PE.fieldAddr fo113_0 rfl) rfl ?_
 refine ld rfl rfl (lf (j := 0) sc3 (br_get hx) rfl) rfl ?_
 refine ld rfl rfl (lhA (btl b (b.sl (some ⟨ba, oa, none⟩) cb)) ag33 rfl rfl rfl) rfl ?_
 refine tk rfl (PE.move rfl) rfl ?_
 refine clV rfl cal48 rfl rfl (c_rLeft b (some ⟨ba, oa, none⟩) cb hok k x hx x.warm (by omega) _ _) ?_
 refine bg (fun w hs => ⟨(lhA (btl b (b.sl (some ⟨ba, oa, none⟩) cb)) ag33 rfl rfl rfl) w hs, trivial, trivial, trivial, trivial⟩) ?_
 refine clV rfl cal49 rfl rfl (c_rLasts b (some ⟨ba, oa, none⟩) cb hok k x hx _ _) ?_
 refine bg (fun w hs => ⟨trivial, trivial⟩) ?_
 refine tk rfl (PE.max rfl rfl) rfl ?_
 refine tk rfl (PE.assign rfl) rfl ?_
 refine sy_seq ?_
 refine sy_tx' [0, 1] rfl ?_
 refine sp rfl (PE.move rfl) rfl ?_
 refine sp rfl (PE.neq rfl rfl) rfl ?_
 refine sy_cond rfl (fun hc1 => ?_) (fun hc1 => ?_)
 try simp only [decide_eq_true_eq, decide_eq_false_iff_not, Bool.and_eq_true, Bool.or_eq_true, Bool.not_eq_true', Int.not_le, Int.not_lt] at hc1
 rw [decide_eq_false hc1, cond_false] at hpt
 have hcast : ((prd (b.dsk.zs.take (k + 1)) : Nat) : Int) = (prd (b.dsk.zs.take k) : Nat) * (max (b.days x x.warm) (b.days x b.cool) + 1) := by rw [hpt]; push_cast; rw [Int.toNat_of_nonneg (by omega)]
 refine sy_tx' [0, 1, 2, 3, 4] rfl ?_
 refine sp rfl (PE.move rfl) rfl ?_
 refine sp rfl (PE.move rfl) rfl ?_
 refine sp rfl (PE.add rfl rfl (by omega)) rfl ?_
 refine sp rfl (PE.mul rfl rfl (by rw [← hcast]; omega)) rfl ?_
 refine sp rfl (PE.assign rfl) rfl ?_
 refine sy_tx' [0, 1, 2] rfl ?_
 refine sp rfl (PE.move rfl) rfl ?_
 refine sp rfl (PE.add rfl rfl (by omega)) rfl ?_
 refine sp rfl (PE.assign rfl) rfl ?_
 exact sy_next ⟨k + 1, by omega⟩ (by dsimp only; omega) (by dsimp only; first | (rw [hcast]; exact (by repeat' first | exact Sub.nil | apply Sub.cons | rfl | (simp [lk]; omega))) | (rw [hpt]; exact (by repeat' first | exact Sub.nil | apply Sub.cons | rfl | (simp [lk]; omega)))) (fun _ h => h)
 try simp only [decide_eq_true_eq, decide_eq_false_iff_not, Bool.and_eq_true, Bool.or_eq_true, Bool.not_eq_true', Int.not_le, Int.not_lt] at hc1
 rw [decide_eq_true (show max (b.days x x.warm) (b.days x b.cool) = 1000000 by omega), cond_true, Nat.mul_one] at hpt
 refine sy_skip ?_
 refine sy_tx' [0, 1, 2] rfl ?_
 refine sp rfl (PE.move rfl) rfl ?_
 refine sp rfl (PE.add rfl rfl (by omega)) rfl ?_
 refine sp rfl (PE.assign rfl) rfl ?_
 exact sy_next ⟨k + 1, by omega⟩ (by dsimp only; omega) (by dsimp only; first | (rw [hcast]; exact (by repeat' first | exact Sub.nil | apply Sub.cons | rfl | (simp [lk]; omega))) | (rw [hpt]; exact (by repeat' first | exact Sub.nil | apply Sub.cons | rfl | (simp [lk]; omega)))) (fun _ h => h)
 try simp only [decide_eq_true_eq, decide_eq_false_iff_not, Bool.and_eq_true, Bool.or_eq_true, Bool.not_eq_true', Int.not_le, Int.not_lt] at hc0
 obtain rfl : k = b.bins.length := by omega
 have hfull : prd (b.dsk.zs.take b.bins.length) = b.dsk.nst := by unfold Dsk.nst; rw [List.take_of_length_le (by rw [b.dsk.zs_len hdk]; exact Nat.le_refl _)]
 refine sy_exit ?_
 repeat refine sy_tx ?_
 refine sy_bx ?_
 refine sy_seq ?_
 refine sy_tx' [0, 1] rfl ?_
 refine sp rfl (PE.move rfl) rfl ?_
 refine sp rfl (PE.assign rfl) rfl ?_
 refine sy_ret ?_
 exact sy_return (vs := [_]) rfl (.cons (RV.tmp rfl) .nil) rfl ⟨by rw [← hfull]; rfl, rfl, rfl⟩ (fun w h => h.del b1)
theorem c_rsets (b : Barn) (ab : Option Addr) (cb : Nat) (hmn : b.bins.length ≤ 4) (H : Heap) (R : Facts) :
    FnV Try.prog 85 [b.v (b.sl ab cb)] H R (.int .i64 ((2 ^ b.bins.length : Nat) : Int)) := by
 refine fn_of Try.func85 rfl Try.ntmps85 rfl ?_
 refine sy_seq ?_
 refine sy_tx' [0, 1] rfl ?_
 refine bx rfl rfl rfl (fun b1 => ?_)
 refine sp rfl (PE.assign rfl) rfl ?_
 refine sy_seq ?_
 refine sy_tx' [0] rfl ?_
 refine sp rfl (PE.assign rfl) rfl ?_
 refine sy_seq ?_
 refine sy_seq ?_
 refine sy_tx' [0] rfl ?_
 refine sp rfl (PE.assign rfl) rfl ?_
 refine sy_block ?_
 refine sy_loop (ι := {k : Nat // k ≤ b.bins.length}) (fun k => ⟨[(1, .pointer (some ⟨b1, 0, none⟩)), (3, .int .i64 ((2 ^ k.1 : Nat) : Int)), (4, .int .i64 k.1)], (b1, cel 33 (btl b (b.sl ab cb))) :: H, R⟩) (fun k => b.bins.length - k.1) ⟨0, by omega⟩ ?_ (fun k => ?_)
 exact sy_at (by repeat' first | exact Sub.nil | apply Sub.cons | rfl | (simp [lk]; omega)) (fun _ h => h)
 obtain ⟨k, hk⟩ := k
 dsimp only at hk ⊢
 have hp := pow_le16 (n := k) (by omega)
 have hps : ((2 ^ (k + 1) : Nat) : Int) = 2 * ((2 ^ k : Nat) : Int) := by rw [Nat.pow_succ]; push_cast; omega
 refine sy_seq ?_
 refine sy_seq ?_
 refine sy_tx' [0, 1, 2, 3, 4] rfl ?_
 refine sp rfl (PE.move rfl) rfl ?_
 refine sp rfl (PE.fieldAddr fo33_3 rfl) rfl ?_
 refine spL rfl rfl (lh sc31 rfl rfl) rfl ?_
 refine sp rfl (PE.lenSl isl31 rfl) rfl ?_
 refine sp rfl (PE.lss rfl rfl) rfl ?_
 refine sy_cond rfl (fun hc0 => ?_) (fun hc0 => ?_)
 try simp only [decide_eq_true_eq, decide_eq_false_iff_not, Bool.and_eq_true, Bool.or_eq_true, Bool.not_eq_true', Int.not_le, Int.not_lt] at hc0
 refine sy_skip ?_
 refine sy_seq ?_
 refine sy_block ?_
 refine sy_tx' [0, 1, 2] rfl ?_
 refine sp rfl (PE.move rfl) rfl ?_
 refine sp rfl (PE.mul rfl rfl (by omega)) rfl ?_
 refine sp rfl (PE.assign rfl) rfl ?_
 refine sy_tx' [0, 1, 2] rfl ?_
 refine sp rfl (PE.move rfl) rfl ?_
 refine sp rfl (PE.add rfl rfl (by omega)) rfl ?_
 refine sp rfl (PE.assign rfl) rfl ?_
 exact sy_next ⟨k + 1, by omega⟩ (by dsimp only; omega) (by dsimp only; rw [hps]; exact (by repeat' first | exact Sub.nil | apply Sub.cons | rfl | (simp [lk]; omega))) (fun _ h => h)
 try simp only [decide_eq_true_eq, decide_eq_false_iff_not, Bool.and_eq_true, Bool.or_eq_true, Bool.not_eq_true', Int.not_le, Int.not_lt] at hc0
 obtain rfl : k = b.bins.length := by omega
 refine sy_exit ?_
 repeat refine sy_tx ?_
 refine sy_bx ?_
 refine sy_seq ?_
 refine sy_tx' [0, 1] rfl ?_
 refine sp rfl (PE.move rfl) rfl ?_
 refine sp rfl (PE.assign rfl) rfl ?_
 refine sy_ret ?_
 exact sy_return (vs := [_]) rfl (.cons (RV.tmp rfl) .nil) rfl ⟨rfl, rfl, rfl⟩ (fun w h => h.del b1)
theorem c_rones (u : Nat) (hu : u < 16) (H : Heap) (R : Facts) :
    FnV Try.prog 86 [.int .i64 u] H R (.int .i64 ((bitl 4 u).length : Int)) := by
 refine fn_of Try.func86 rfl Try.ntmps86 rfl ?_
 refine sy_seq ?_
 refine sy_tx' [0] rfl ?_
 refine sp rfl (PE.assign rfl) rfl ?_
 refine sy_seq ?_
 refine sy_tx' [0] rfl ?_
 refine sp rfl (PE.assign rfl) rfl ?_
 refine sy_seq ?_
 refine sy_block ?_
 refine sy_loop (ι := {y : Nat × Nat // y.1 < 16 ∧ y.2 ≤ 4 ∧ y.2 + (bitl 4 y.1).length = (bitl 4 u).length}) (fun y => ⟨[(0, .int .i64 y.1.1), (3, .int .i64 y.1.2)], H, R⟩) (fun y => y.1.1) ⟨(u, 0), hu, by dsimp only; omega, by simp⟩ ?_ (fun y => ?_)
 exact sy_at (by repeat' first | exact Sub.nil | apply Sub.cons | rfl | (simp [lk]; omega)) (fun _ h => h)
 obtain ⟨⟨v, c⟩, hv, hc4, hce⟩ := y
 dsimp only at hv hc4 hce ⊢
 have hst := ones_step v hv
 have h4 := ones_le u
 refine sy_seq ?_
 refine sy_seq ?_
 refine sy_tx' [0, 1] rfl ?_
 refine sp rfl (PE.move rfl) rfl ?_
 refine sp rfl (PE.gtr rfl rfl) rfl ?_
 refine sy_cond rfl (fun hc0 => ?_) (fun hc0 => ?_)
 try simp only [decide_eq_true_eq, decide_eq_false_iff_not, Bool.and_eq_true, Bool.or_eq_true, Bool.not_eq_true', Int.not_le, Int.not_lt] at hc0
 refine sy_skip ?_
 refine sy_block ?_
 refine sy_seq ?_
 refine sy_tx' [0, 1, 2, 3, 4] rfl ?_
 refine sp rfl (PE.move rfl) rfl ?_
 refine sp rfl (PE.move rfl) rfl ?_
 refine sp rfl (PE.rem rfl rfl (by omega)) rfl ?_
 refine sp rfl (PE.add rfl rfl (by omega)) rfl ?_
 refine sp rfl (PE.assign rfl) rfl ?_
 refine sy_tx' [0, 1, 2] rfl ?_
 refine sp rfl (PE.move rfl) rfl ?_
 refine sp rfl (PE.quo rfl rfl (by omega)) rfl ?_
 refine sp rfl (PE.assign rfl) rfl ?_
 exact sy_next ⟨(v / 2, c + v % 2), by dsimp only; omega, by dsimp only; omega, by dsimp only; omega⟩ (by dsimp only; omega) (by dsimp only; push_cast; exact (by repeat' first | exact Sub.nil | apply Sub.cons | rfl | (simp [lk]; omega))) (fun _ h => h)
 try simp only [decide_eq_true_eq, decide_eq_false_iff_not, Bool.and_eq_true, Bool.or_eq_true, Bool.not_eq_true', Int.not_le, Int.not_lt] at hc0
 obtain rfl : v = 0 := by omega
 have hz : (bitl 4 0).length = 0 := rfl
 refine sy_exit ?_
 repeat refine sy_tx ?_
 refine sy_bx ?_
 refine sy_seq ?_
 refine sy_tx' [0, 1] rfl ?_
 refine sp rfl (PE.move rfl) rfl ?_
 refine sp rfl (PE.assign rfl) rfl ?_
 refine sy_ret ?_
 exact sy_return (vs := [_]) rfl (.cons (RV.tmp rfl) .nil) rfl ⟨by rw [show (bitl 4 u).length = c by omega]; rfl, rfl, rfl⟩ (fun _ h => h)
theorem c_rNext (b : Barn) (ab : Option Addr) (cb : Nat) (hok : b.ok) (s : List Int) (aS : Option Addr) (cs : Nat) (hs : s.length = b.bins.length) (hsm : ∀ k < b.bins.length, 0 ≤ na s k ∧ na s k ≤ 1000000) (u : Nat) (hu : u < 16) (H : Heap) (R : Facts) [hB : MemRows ab 4 (brows b.bins) R] [hS : MemRows aS 1 (irows s) R] :
    Fn Try.prog 87 [b.v (b.sl ab cb), .slice aS s.length cs, .int .i64 u] H R (fun v H' R' => H' = H ∧ ((rNx (laL b) s u b.bins.length = none ∧ v = .slice none 0 0 ∧ R' = R) ∨ ∃ (t : List Int) (bo c : Nat), rNx (laL b) s u b.bins.length = some t ∧ v = .slice (some ⟨bo, 0, none⟩) t.length c ∧ R' = RowsA (some ⟨bo, 0, none⟩) 1 (irows t) :: R)) := by
 have hmn := hok.many
 refine fn_of Try.func87 rfl Try.ntmps87 rfl ?_
 refine sy_seq ?_
 refine sy_tx' [0, 1] rfl ?_
 refine bx rfl rfl rfl (fun b3 => ?_)
 refine sp rfl (PE.assign rfl) rfl ?_
 refine sy_seq ?_
 refine sy_tx' [0] rfl ?_
 refine sp rfl (PE.assign rfl) rfl ?_
 refine sy_seq ?_
 refine sy_seq ?_
 refine sy_tx' [0] rfl ?_
 refine sp rfl (PE.assign rfl) rfl ?_
 refine sy_block ?_
 refine sy_loop (ι := (y : {y : Nat × List Int // y.1 ≤ b.bins.length ∧ rNx (laL b) s u y.1 = some y.2}) × OSl 3 1 (irows y.1.2)) (fun y => ⟨[(1, .slice aS s.length cs), (2, .int .i64 ((u / 2 ^ y.1.1.1 : Nat) : Int)), (3, .pointer (some ⟨b3, 0, none⟩)), (7, y.2.fs), (8, .int .i64 y.1.1.1)], y.2.G ++ (b3, cel 33 (btl b (b.sl ab cb))) :: H, R⟩) (fun y => b.bins.length - y.1.1.1) ⟨⟨(0, []), Nat.zero_le _, rfl⟩, OSl.nil _ _⟩ ?_ (fun y => ?_)
 exact sy_at (by dsimp only; rw [Nat.pow_zero, Nat.div_one]; exact (by repeat' first | exact Sub.nil | apply Sub.cons | rfl | (simp [lk]; omega))) (fun _ h => h)
 obtain ⟨⟨⟨k, t⟩, hk, ht⟩, o⟩ := y
 dsimp only at hk ht o ⊢
 have htl := rNx_len ht
 have hdu : u / 2 ^ k < 16 := Nat.lt_of_le_of_lt (Nat.div_le_self _ _) hu
 generalize hv : u / 2 ^ k = v at hdu ⊢
 refine sy_seq ?_
 refine sy_seq ?_
 refine sy_tx' [0, 1, 2, 3] rfl ?_
 refine sp rfl (PE.move rfl) rfl ?_
 refine sp rfl (PE.move rfl) rfl ?_
 refine sp rfl (PE.lenSl isl40 rfl) rfl ?_
 refine sp rfl (PE.lss rfl rfl) rfl ?_
 refine sy_cond rfl (fun hc0 => ?_) (fun hc0 => ?_)
 try simp only [decide_eq_true_eq, decide_eq_false_iff_not, Bool.and_eq_true, Bool.or_eq_true, Bool.not_eq_true', Int.not_le, Int.not_lt] at hc0
 obtain ⟨x, hx⟩ : ∃ x, b.bins[k]? = some x := ⟨_, List.getElem?_eq_getElem (by omega)⟩
 have hm := List.mem_of_getElem? hx
 have hh := hok.bins x hm
 have hsk := hsm k (by omega)
 have r2 := b.days_range hok hm hok.cool.1
 have hlk := laL_at hx
 have hsg : s[k]? = some (na s k) := na_get (by omega)
 refine sy_addr (a := aS) (sz := 1) (rows := irows s) (by intro h0; have := congrArg List.length h0; rw [irows_len] at this; simp only [List.length_nil] at this; omega) (fun bs os he => ?_)
 subst he
 refine sy_skip ?_
 refine sy_seq ?_
 refine sy_block ?_
 refine sy_seq ?_
 refine sy_tx' [0, 1, 2, 3, 4] rfl ?_
 refine sp rfl (PE.move rfl) rfl ?_
 refine sp rfl (PE.move rfl) rfl ?_
 refine sp rfl (PE.indexAddr el40 rfl rfl (by omega) (by omega)) rfl ?_
 refine spL rfl rfl (lf0 sc3 (ir_get hsg) rfl) rfl ?_
 refine sp rfl (PE.assign rfl) rfl ?_
 refine sy_seq ?_
 refine sy_seq ?_
 refine sy_tx' [0, 1, 2] rfl ?_
 refine sp rfl (PE.move rfl) rfl ?_
 refine sp rfl (PE.rem rfl rfl (by omega)) rfl ?_
 refine sp rfl (PE.eql rfl rfl) rfl ?_
 refine sy_cond rfl (fun hc1 => ?_) (fun hc1 => ?_)
 try simp only [decide_eq_true_eq, decide_eq_false_iff_not, Bool.and_eq_true, Bool.or_eq_true, Bool.not_eq_true', Int.not_le, Int.not_lt] at hc1
 have hmd : rmid (laL b) s u k = max (na s k) (b.days x b.cool) := by rw [rmid_yes (by rw [hv]; omega), hlk]
 refine sy_tx' [0, 1, 2, 3, 4, 5] rfl ?_
 refine sp rfl (PE.move rfl) rfl ?_
 refine spL rfl rfl (lhA (btl b (b.sl ab cb)) ag33 rfl rfl rfl) rfl ?_
 refine sp rfl (PE.move rfl) rfl ?_
 refine clV rfl cal49 rfl rfl (c_rLasts b ab cb hok k x hx _ _) ?_
 refine sp rfl (PE.max rfl rfl) rfl ?_
 refine sp rfl (PE.assign rfl) rfl ?_
 refine sy_seq ?_
 refine sy_tx' [0, 1, 2] rfl ?_
 rw [← hmd]
 have hmr : 0 ≤ rmid (laL b) s u k ∧ rmid (laL b) s u k ≤ 1000000 := by omega
 clear hmd
 refine sp rfl (PE.move rfl) rfl ?_
 refine sp rfl (PE.quo rfl rfl (by omega)) rfl ?_
 refine sp rfl (PE.assign rfl) rfl ?_
 refine sy_seq ?_
 refine sy_seq ?_
 refine sy_tx' [0, 1] rfl ?_
 refine sp rfl (PE.move rfl) rfl ?_
 refine sp rfl (PE.neq rfl rfl) rfl ?_
 refine sy_cond rfl (fun hc2 => ?_) (fun hc2 => ?_)
 try simp only [decide_eq_true_eq, decide_eq_false_iff_not, Bool.and_eq_true, Bool.or_eq_true, Bool.not_eq_true', Int.not_le, Int.not_lt] at hc2
 have hnm : rnum (rmid (laL b) s u k) = rmid (laL b) s u k - 1 := by unfold rnum; rw [decide_eq_false hc2]; rfl
 refine sy_tx' [0, 1, 2] rfl ?_
 refine sp rfl (PE.move rfl) rfl ?_
 refine sp rfl (PE.sub rfl rfl (by omega)) rfl ?_
 refine sp rfl (PE.assign rfl) rfl ?_
 refine sy_seq ?_
 refine sy_seq ?_
 refine sy_tx' [0, 1] rfl ?_
 rw [← hnm]
 have hnr : -1 ≤ rnum (rmid (laL b) s u k) ∧ rnum (rmid (laL b) s u k) ≤ 1000000 := by omega
 clear hnm
 refine sp rfl (PE.move rfl) rfl ?_
 refine sp rfl (PE.lss rfl rfl) rfl ?_
 refine sy_cond rfl (fun hc3 => ?_) (fun hc3 => ?_)
 try simp only [decide_eq_true_eq, decide_eq_false_iff_not, Bool.and_eq_true, Bool.or_eq_true, Bool.not_eq_true', Int.not_le, Int.not_lt] at hc3
 refine sy_seq ?_
 refine sy_tx' [0] rfl ?_
 refine sp rfl (PE.assign rfl) rfl ?_
 refine sy_ret ?_
 exact sy_return (vs := [_]) rfl (.cons (RV.tmp rfl) .nil) rfl ⟨rfl, .inl ⟨rNx_bad (by omega) ht hc3, rfl, rfl⟩⟩ (fun w h => (St.drop h).del b3)
 try simp only [decide_eq_true_eq, decide_eq_false_iff_not, Bool.and_eq_true, Bool.or_eq_true, Bool.not_eq_true', Int.not_le, Int.not_lt] at hc3
 have htn := rNx_good ht (Int.not_lt.2 hc3)
 refine sy_skip ?_
 refine sy_tx' [0, 1, 2, 3, 4] rfl ?_
 refine sp rfl (PE.move rfl) rfl ?_
 refine sp rfl (PE.move rfl) rfl ?_
 refine bsl (out := [_]) rfl sl40 zl3 rfl rfl rfl rfl rfl rfl (fun b38 => ?_)
 refine apO (o) rfl ap40 rfl rfl (rowsH (row := [.int .i64 (rnum (rmid (laL b) s u k))]) rfl) rfl rfl ((by rw [irows_len]; simp only [List.length_singleton]; omega)) rfl (fun o39 => ?_)
 refine sp rfl (PE.assign rfl) rfl ?_
 refine sy_tx' [0, 1, 2] rfl ?_
 refine sp rfl (PE.move rfl) rfl ?_
 refine sp rfl (PE.add rfl rfl (by omega)) rfl ?_
 refine sp rfl (PE.assign rfl) rfl ?_
 exact sy_next ⟨⟨(k + 1, t ++ [rnum (rmid (laL b) s u k)]), by dsimp only; omega, htn⟩, o39.cast (by simp [irows])⟩ (by dsimp only; omega) (by dsimp only; rw [show u / 2 ^ (k + 1) = v / 2 by rw [Nat.pow_succ, ← Nat.div_div_eq_div_mul, hv]]; exact (by repeat' first | exact Sub.nil | apply Sub.cons | rfl | (simp [lk]; omega))) (fun w h => h.del b38)
 try simp only [decide_eq_true_eq, decide_eq_false_iff_not, Bool.and_eq_true, Bool.or_eq_true, Bool.not_eq_true', Int.not_le, Int.not_lt] at hc2
 have hnm : rnum (rmid (laL b) s u k) = rmid (laL b) s u k := by unfold rnum; rw [decide_eq_true (show rmid (laL b) s u k = 1000000 by omega)]; rfl
 refine sy_skip ?_
 refine sy_seq ?_
 refine sy_seq ?_
 refine sy_tx' [0, 1] rfl ?_
 rw [← hnm]
 have hnr : -1 ≤ rnum (rmid (laL b) s u k) ∧ rnum (rmid (laL b) s u k) ≤ 1000000 := by omega
 clear hnm
 refine sp rfl (PE.move rfl) rfl ?_
 refine sp rfl (PE.lss rfl rfl) rfl ?_
 refine sy_cond rfl (fun hc3 => ?_) (fun hc3 => ?_)
 try simp only [decide_eq_true_eq, decide_eq_false_iff_not, Bool.and_eq_true, Bool.or_eq_true, Bool.not_eq_true', Int.not_le, Int.not_lt] at hc3
 refine sy_seq ?_
 refine sy_tx' [0] rfl ?_
 refine sp rfl (PE.assign rfl) rfl ?_
 refine sy_ret ?_
 exact sy_return (vs := [_]) rfl (.cons (RV.tmp rfl) .nil) rfl ⟨rfl, .inl ⟨rNx_bad (by omega) ht hc3, rfl, rfl⟩⟩ (fun w h => (St.drop h).del b3)
 try simp only [decide_eq_true_eq, decide_eq_false_iff_not, Bool.and_eq_true, Bool.or_eq_true, Bool.not_eq_true', Int.not_le, Int.not_lt] at hc3
 have htn := rNx_good ht (Int.not_lt.2 hc3)
 refine sy_skip ?_
 refine sy_tx' [0, 1, 2, 3, 4] rfl ?_
 refine sp rfl (PE.move rfl) rfl ?_
 refine sp rfl (PE.move rfl) rfl ?_
 refine bsl (out := [_]) rfl sl40 zl3 rfl rfl rfl rfl rfl rfl (fun b38 => ?_)
 refine apO (o) rfl ap40 rfl rfl (rowsH (row := [.int .i64 (rnum (rmid (laL b) s u k))]) rfl) rfl rfl ((by rw [irows_len]; simp only [List.length_singleton]; omega)) rfl (fun o39 => ?_)
 refine sp rfl (PE.assign rfl) rfl ?_
 refine sy_tx' [0, 1, 2] rfl ?_
 refine sp rfl (PE.move rfl) rfl ?_
 refine sp rfl (PE.add rfl rfl (by omega)) rfl ?_
 refine sp rfl (PE.assign rfl) rfl ?_
 exact sy_next ⟨⟨(k + 1, t ++ [rnum (rmid (laL b) s u k)]), by dsimp only; omega, htn⟩, o39.cast (by simp [irows])⟩ (by dsimp only; omega) (by dsimp only; rw [show u / 2 ^ (k + 1) = v / 2 by rw [Nat.pow_succ, ← Nat.div_div_eq_div_mul, hv]]; exact (by repeat' first | exact Sub.nil | apply Sub.cons | rfl | (simp [lk]; omega))) (fun w h => h.del b38)
 try simp only [decide_eq_true_eq, decide_eq_false_iff_not, Bool.and_eq_true, Bool.or_eq_true, Bool.not_eq_true', Int.not_le, Int.not_lt] at hc1
 have hmd : rmid (laL b) s u k = na s k := rmid_no (by rw [hv]; omega)
 refine sy_skip ?_
 refine sy_seq ?_
 refine sy_tx' [0, 1, 2] rfl ?_
 rw [← hmd]
 have hmr : 0 ≤ rmid (laL b) s u k ∧ rmid (laL b) s u k ≤ 1000000 := by omega
 clear hmd
 refine sp rfl (PE.move rfl) rfl ?_
 refine sp rfl (PE.quo rfl rfl (by omega)) rfl ?_
 refine sp rfl (PE.assign rfl) rfl ?_
 refine sy_seq ?_
 refine sy_seq ?_
 refine sy_tx' [0, 1] rfl ?_
 refine sp rfl (PE.move rfl) rfl ?_
 refine sp rfl (PE.neq rfl rfl) rfl ?_
 refine sy_cond rfl (fun hc2 => ?_) (fun hc2 => ?_)
 try simp only [decide_eq_true_eq, decide_eq_false_iff_not, Bool.and_eq_true, Bool.or_eq_true, Bool.not_eq_true', Int.not_le, Int.not_lt] at hc2
 have hnm : rnum (rmid (laL b) s u k) = rmid (laL b) s u k - 1 := by unfold rnum; rw [decide_eq_false hc2]; rfl
 refine sy_tx' [0, 1, 2] rfl ?_
 refine sp rfl (PE.move rfl) rfl ?_
 refine sp rfl (PE.sub rfl rfl (by omega)) rfl ?_
 refine sp rfl (PE.assign rfl) rfl ?_
 refine sy_seq ?_
 refine sy_seq ?_
 refine sy_tx' [0, 1] rfl ?_
 rw [← hnm]
 have hnr : -1 ≤ rnum (rmid (laL b) s u k) ∧ rnum (rmid (laL b) s u k) ≤ 1000000 := by omega
 clear hnm
 refine sp rfl (PE.move rfl) rfl ?_
 refine sp rfl (PE.lss rfl rfl) rfl ?_
 refine sy_cond rfl (fun hc3 => ?_) (fun hc3 => ?_)
 try simp only [decide_eq_true_eq, decide_eq_false_iff_not, Bool.and_eq_true, Bool.or_eq_true, Bool.not_eq_true', Int.not_le, Int.not_lt] at hc3
 refine sy_seq ?_
 refine sy_tx' [0] rfl ?_
 refine sp rfl (PE.assign rfl) rfl ?_
 refine sy_ret ?_
 exact sy_return (vs := [_]) rfl (.cons (RV.tmp rfl) .nil) rfl ⟨rfl, .inl ⟨rNx_bad (by omega) ht hc3, rfl, rfl⟩⟩ (fun w h => (St.drop h).del b3)
 try simp only [decide_eq_true_eq, decide_eq_false_iff_not, Bool.and_eq_true, Bool.or_eq_true, Bool.not_eq_true', Int.not_le, Int.not_lt] at hc3
 have htn := rNx_good ht (Int.not_lt.2 hc3)
 refine sy_skip ?_
 refine sy_tx' [0, 1, 2, 3, 4] rfl ?_
 refine sp rfl (PE.move rfl) rfl ?_
 refine sp rfl (PE.move rfl) rfl ?_
 refine bsl (out := [_]) rfl sl40 zl3 rfl rfl rfl rfl rfl rfl (fun b38 => ?_)
 refine apO (o) rfl ap40 rfl rfl (rowsH (row := [.int .i64 (rnum (rmid (laL b) s u k))]) rfl) rfl rfl ((by rw [irows_len]; simp only [List.length_singleton]; omega)) rfl (fun o39 => ?_)
 refine sp rfl (PE.assign rfl) rfl ?_
 refine sy_tx' [0, 1, 2] rfl ?_
 refine sp rfl (PE.move rfl) rfl ?_
 refine sp rfl (PE.add rfl rfl (by omega)) rfl ?_
 refine sp rfl (PE.assign rfl) rfl ?_
 exact sy_next ⟨⟨(k + 1, t ++ [rnum (rmid (laL b) s u k)]), by dsimp only; omega, htn⟩, o39.cast (by simp [irows])⟩ (by dsimp only; omega) (by dsimp only; rw [show u / 2 ^ (k + 1) = v / 2 by rw [Nat.pow_succ, ← Nat.div_div_eq_div_mul, hv]]; exact (by repeat' first | exact Sub.nil | apply Sub.cons | rfl | (simp [lk]; omega))) (fun w h => h.del b38)
 try simp only [decide_eq_true_eq, decide_eq_false_iff_not, Bool.and_eq_true, Bool.or_eq_true, Bool.not_eq_true', Int.not_le, Int.not_lt] at hc2
 have hnm : rnum (rmid (laL b) s u k) = rmid (laL b) s u k := by unfold rnum; rw [decide_eq_true (show rmid (laL b) s u k = 1000000 by omega)]; rfl
 refine sy_skip ?_
 refine sy_seq ?_
 refine sy_seq ?_
 refine sy_tx' [0, 1] rfl ?_
 rw [← hnm]
 have hnr : -1 ≤ rnum (rmid (laL b) s u k) ∧ rnum (rmid (laL b) s u k) ≤ 1000000 := by omega
 clear hnm
 refine sp rfl (PE.move rfl) rfl ?_
 refine sp rfl (PE.lss rfl rfl) rfl ?_
 refine sy_cond rfl (fun hc3 => ?_) (fun hc3 => ?_)
 try simp only [decide_eq_true_eq, decide_eq_false_iff_not, Bool.and_eq_true, Bool.or_eq_true, Bool.not_eq_true', Int.not_le, Int.not_lt] at hc3
 refine sy_seq ?_
 refine sy_tx' [0] rfl ?_
 refine sp rfl (PE.assign rfl) rfl ?_
 refine sy_ret ?_
 exact sy_return (vs := [_]) rfl (.cons (RV.tmp rfl) .nil) rfl ⟨rfl, .inl ⟨rNx_bad (by omega) ht hc3, rfl, rfl⟩⟩ (fun w h => (St.drop h).del b3)
 try simp only [decide_eq_true_eq, decide_eq_false_iff_not, Bool.and_eq_true, Bool.or_eq_true, Bool.not_eq_true', Int.not_le, Int.not_lt] at hc3
 have htn := rNx_good ht (Int.not_lt.2 hc3)
 refine sy_skip ?_
 refine sy_tx' [0, 1, 2, 3, 4] rfl ?_
 refine sp rfl (PE.move rfl) rfl ?_
 refine sp rfl (PE.move rfl) rfl ?_
 refine bsl (out := [_]) rfl sl40 zl3 rfl rfl rfl rfl rfl rfl (fun b38 => ?_)
 refine apO (o) rfl ap40 rfl rfl (rowsH (row := [.int .i64 (rnum (rmid (laL b) s u k))]) rfl) rfl rfl ((by rw [irows_len]; simp only [List.length_singleton]; omega)) rfl (fun o39 => ?_)
 refine sp rfl (PE.assign rfl) rfl ?_
 refine sy_tx' [0, 1, 2] rfl ?_
 refine sp rfl (PE.move rfl) rfl ?_
 refine sp rfl (PE.add rfl rfl (by omega)) rfl ?_
 refine sp rfl (PE.assign rfl) rfl ?_
 exact sy_next ⟨⟨(k + 1, t ++ [rnum (rmid (laL b) s u k)]), by dsimp only; omega, htn⟩, o39.cast (by simp [irows])⟩ (by dsimp only; omega) (by dsimp only; rw [show u / 2 ^ (k + 1) = v / 2 by rw [Nat.pow_succ, ← Nat.div_div_eq_div_mul, hv]]; exact (by repeat' first | exact Sub.nil | apply Sub.cons | rfl | (simp [lk]; omega))) (fun w h => h.del b38)
 try simp only [decide_eq_true_eq, decide_eq_false_iff_not, Bool.and_eq_true, Bool.or_eq_true, Bool.not_eq_true', Int.not_le, Int.not_lt] at hc0
 obtain rfl : k = b.bins.length := by omega
 obtain ⟨bo, cap, junk, hfs, hGG, hjk, hcap, hmx⟩ := o.is.resolve_left (fun h => by have := congrArg List.length h.1; rw [irows_len] at this; simp only [List.length_nil] at this; omega)
 rw [irows_len] at hfs hjk hcap
 rw [hfs]
 refine Sy.heap (H' := (b3, cel 33 (btl b (b.sl ab cb))) :: H) (fun w h => St.blkRows (irows_one t) (by rw [hGG] at h; exact h)) ?_
 refine sy_exit ?_
 repeat refine sy_tx ?_
 refine sy_bx ?_
 refine sy_seq ?_
 refine sy_tx' [0, 1] rfl ?_
 refine sp rfl (PE.move rfl) rfl ?_
 refine sp rfl (PE.assign rfl) rfl ?_
 refine sy_ret ?_
 exact sy_return (vs := [_]) rfl (.cons (RV.tmp rfl) .nil) rfl ⟨rfl, .inr ⟨t, bo, cap, ht, rfl, rfl⟩⟩ (fun w h => h.del b3)
theorem c_rplace (pl : List PL) (ap : Option Addr) (cp : Nat) (hpl : pl.length ≤ 9223372036854775807) (s : List Int) (aS : Option Addr) (cs : Nat) (hsl : s.length ≤ 9223372036854775807) (hall : ∀ x ∈ pl, x.l.length = s.length) (H : Heap) (R : Facts) [hP : MemRows ap 1 (plrows pl) R] [hI : MemF (Inn pl) R] [hS : MemRows aS 1 (irows s) R] :
    FnV Try.prog 88 [.slice ap pl.length cp, .slice aS s.length cs] H R (.int .i64 (plcV (lls pl) s)) := by
 refine fn_of Try.func88 rfl Try.ntmps88 rfl ?_
 refine sy_seq ?_
 refine sy_tx' [0] rfl ?_
 refine sp rfl (PE.assign rfl) rfl ?_
 refine sy_seq ?_
 refine sy_seq ?_
 refine sy_tx' [0] rfl ?_
 refine sp rfl (PE.assign rfl) rfl ?_
 refine sy_block ?_
 refine sy_loop (ι := {k : Nat // k ≤ pl.length ∧ ∀ y ∈ (lls pl).take k, y ≠ s}) (fun k => ⟨[(0, .slice ap pl.length cp), (1, .slice aS s.length cs), (5, .int .i64 k.1)], H, R⟩) (fun k => pl.length - k.1) ⟨0, Nat.zero_le _, by simp⟩ ?_ (fun k => ?_)
 exact sy_at (by repeat' first | exact Sub.nil | apply Sub.cons | rfl | (simp [lk]; omega)) (fun _ h => h)
 obtain ⟨k, hk, hin⟩ := k
 dsimp only at hk hin ⊢
 refine sy_seq ?_
 refine sy_seq ?_
 refine sy_tx' [0, 1, 2, 3] rfl ?_
 refine sp rfl (PE.move rfl) rfl ?_
 refine sp rfl (PE.move rfl) rfl ?_
 refine sp rfl (PE.lenSl isl26 rfl) rfl ?_
 refine sp rfl (PE.lss rfl rfl) rfl ?_
 refine sy_cond rfl (fun hc0 => ?_) (fun hc0 => ?_)
 try simp only [decide_eq_true_eq, decide_eq_false_iff_not, Bool.and_eq_true, Bool.or_eq_true, Bool.not_eq_true', Int.not_le, Int.not_lt] at hc0
 obtain ⟨x, hx⟩ : ∃ x, pl[k]? = some x := ⟨_, List.getElem?_eq_getElem (by omega)⟩
 have hxm := List.mem_of_getElem? hx
 have hxl := hall x hxm
 refine sy_addr (a := ap) (sz := 1) (rows := plrows pl) (by intro h0; have := congrArg List.length h0; rw [plrows_len] at this; simp only [List.length_nil] at this; omega) (fun ba oa he => ?_)
 subst he
 refine Sy.heap (fun w h => St.inn (x := x) h hxm) ?_
 refine sy_skip ?_
 refine sy_seq ?_
 refine sy_block ?_
 refine sy_seq ?_
 refine sy_tx' [0] rfl ?_
 refine sp rfl (PE.assign rfl) rfl ?_
 refine sy_seq ?_
 refine sy_seq ?_
 refine sy_tx' [0] rfl ?_
 refine sp rfl (PE.assign rfl) rfl ?_
 refine sy_block ?_
 refine sy_loop (ι := {i : Nat // i ≤ s.length}) (fun i => ⟨[(0, .slice (some ⟨ba, oa, none⟩) pl.length cp), (1, .slice aS s.length cs), (5, .int .i64 k), (6, .bool (decide (x.l.take i.1 = s.take i.1))), (7, .int .i64 i.1)], H, RowsA x.a 1 (irows x.l) :: R⟩) (fun i => s.length - i.1) ⟨0, Nat.zero_le _⟩ ?_ (fun i => ?_)
 exact sy_at (by repeat' first | exact Sub.nil | apply Sub.cons | rfl | (simp [lk]; omega)) (fun _ h => h)
 obtain ⟨i, hi⟩ := i
 dsimp only at hi ⊢
 refine sy_seq ?_
 refine sy_seq ?_
 refine sy_tx' [0, 1, 2, 3] rfl ?_
 refine sp rfl (PE.move rfl) rfl ?_
 refine sp rfl (PE.move rfl) rfl ?_
 refine sp rfl (PE.lenSl isl40 rfl) rfl ?_
 refine sp rfl (PE.lss rfl rfl) rfl ?_
 refine sy_cond rfl (fun hc1 => ?_) (fun hc1 => ?_)
 try simp only [decide_eq_true_eq, decide_eq_false_iff_not, Bool.and_eq_true, Bool.or_eq_true, Bool.not_eq_true', Int.not_le, Int.not_lt] at hc1
 obtain ⟨u, hu⟩ : ∃ u, x.l[i]? = some u := ⟨_, List.getElem?_eq_getElem (by omega)⟩
 obtain ⟨v, hv⟩ : ∃ v, s[i]? = some v := ⟨_, List.getElem?_eq_getElem (by omega)⟩
 have htk := take_eq2 hu hv
 refine sy_addr (a := x.a) (sz := 1) (rows := irows x.l) (by intro h0; have := congrArg List.length h0; rw [irows_len] at this; simp only [List.length_nil] at this; omega) (fun bx ox he => ?_)
 rw [he]
 refine sy_addr (a := aS) (sz := 1) (rows := irows s) (by intro h0; have := congrArg List.length h0; rw [irows_len] at this; simp only [List.length_nil] at this; omega) (fun bs os he2 => ?_)
 subst he2
 refine sy_skip ?_
 refine sy_seq ?_
 refine sy_block ?_
 refine sy_draw [0, 1, 3, 3, 15, 31, 3, 127, 255, 3, 3, 1539, 3587, 8191, 16383, 32767] (.tk 0 (.tk 1 (.tk 2 (.tk 3 (.tk 4 (.ld 5 (.tk 6 (.tk 7 (.ld 8 (.tk 9 (.tk 10 (.tk 11 (.ld 12 (.tk 13 (.tk 14 (.tk 15 .done)))))))))))))))) mixed (by kernel_rfl) ?_
 refine tk rfl (PE.move rfl) rfl ?_
 refine tk rfl (PE.move rfl) rfl ?_
 refine sy_case (t := 21) rfl (fun g21 => ?_) (fun g21 => ?_)
 try simp only [decide_eq_true_eq, decide_eq_false_iff_not, Bool.and_eq_true, Bool.or_eq_true, Bool.not_eq_true', Int.not_le, Int.not_lt] at g21
 rw [decide_eq_true g21, Bool.true_and] at htk
 refine tkG rfl rfl rfl rfl (PE.move rfl) rfl ?_
 refine tkG rfl rfl rfl rfl (PE.move rfl) rfl ?_
 refine tkG rfl rfl rfl rfl (PE.indexAddr el26 rfl rfl (by omega) (by omega)) rfl ?_
 refine ldG rfl rfl rfl rfl rfl (lf0 (row := [.slice (some ⟨bx, ox, none⟩) x.l.length x.c]) sc40 (by refine (pl_get hx).trans ?_; unfold plrow; rw [he]) rfl) rfl ?_
 refine tkG rfl rfl rfl rfl (PE.move rfl) rfl ?_
 refine tkG rfl rfl rfl rfl (PE.indexAddr el40 rfl rfl (by omega) (by omega)) rfl ?_
 refine ldG rfl rfl rfl rfl rfl (lf0 sc3 (ir_get hu) rfl) rfl ?_
 refine tkG rfl rfl rfl rfl (PE.move rfl) rfl ?_
 refine tkG rfl rfl rfl rfl (PE.move rfl) rfl ?_
 refine tkG rfl rfl rfl rfl (PE.indexAddr el40 rfl rfl (by omega) (by omega)) rfl ?_
 refine ldG rfl rfl rfl rfl rfl (lf0 sc3 (ir_get hv) rfl) rfl ?_
 refine tkG rfl rfl rfl rfl (PE.eql rfl rfl) rfl ?_
 refine tk rfl (PE.pick rfl rfl rfl) rfl ?_
 refine tk rfl (PE.assign rfl) rfl ?_
 refine sy_tx' [0, 1, 2] rfl ?_
 refine sp rfl (PE.move rfl) rfl ?_
 refine sp rfl (PE.add rfl rfl (by omega)) rfl ?_
 refine sp rfl (PE.assign rfl) rfl ?_
 exact sy_next ⟨i + 1, by omega⟩ (by dsimp only; omega) (by dsimp only; rw [htk]; exact (by repeat' first | exact Sub.nil | apply Sub.cons | rfl | (simp [lk]; omega))) (fun _ h => h)
 try simp only [decide_eq_true_eq, decide_eq_false_iff_not, Bool.and_eq_true, Bool.or_eq_true, Bool.not_eq_true', Int.not_le, Int.not_lt] at g21
 rw [decide_eq_false g21, Bool.false_and] at htk
 repeat refine tkN rfl rfl rfl rfl rfl rfl rfl rfl ?_
 refine ldN rfl rfl rfl rfl rfl rfl rfl rfl ?_
 repeat refine tkN rfl rfl rfl rfl rfl rfl rfl rfl ?_
 refine ldN rfl rfl rfl rfl rfl rfl rfl rfl ?_
 repeat refine tkN rfl rfl rfl rfl rfl rfl rfl rfl ?_
 refine ldN rfl rfl rfl rfl rfl rfl rfl rfl ?_
 refine tkN rfl rfl rfl rfl rfl rfl rfl rfl ?_
 refine tk rfl (PE.pick rfl rfl rfl) rfl ?_
 refine tk rfl (PE.assign rfl) rfl ?_
 refine sy_tx' [0, 1, 2] rfl ?_
 refine sp rfl (PE.move rfl) rfl ?_
 refine sp rfl (PE.add rfl rfl (by omega)) rfl ?_
 refine sp rfl (PE.assign rfl) rfl ?_
 exact sy_next ⟨i + 1, by omega⟩ (by dsimp only; omega) (by dsimp only; rw [htk]; exact (by repeat' first | exact Sub.nil | apply Sub.cons | rfl | (simp [lk]; omega))) (fun _ h => h)
 try simp only [decide_eq_true_eq, decide_eq_false_iff_not, Bool.and_eq_true, Bool.or_eq_true, Bool.not_eq_true', Int.not_le, Int.not_lt] at hc1
 obtain rfl : i = s.length := by omega
 rw [List.take_length, List.take_of_length_le (by omega)]
 refine sy_exit ?_
 repeat refine sy_tx ?_
 refine sy_bx ?_
 refine sy_seq ?_
 refine sy_tx' [0] rfl ?_
 refine sp rfl (PE.move rfl) rfl ?_
 refine sy_cond rfl (fun hc2 => ?_) (fun hc2 => ?_)
 try simp only [decide_eq_true_eq, decide_eq_false_iff_not, Bool.and_eq_true, Bool.or_eq_true, Bool.not_eq_true', Int.not_le, Int.not_lt] at hc2
 have hans : plcV (lls pl) s = k := plc_at hin (lls_get hx) hc2
 refine sy_seq ?_
 refine sy_tx' [0, 1] rfl ?_
 refine sp rfl (PE.move rfl) rfl ?_
 refine sp rfl (PE.assign rfl) rfl ?_
 refine sy_ret ?_
 exact sy_return (vs := [_]) rfl (.cons (RV.tmp rfl) .nil) rfl ⟨by rw [hans]; rfl, rfl, rfl⟩ drp
 try simp only [decide_eq_true_eq, decide_eq_false_iff_not, Bool.and_eq_true, Bool.or_eq_true, Bool.not_eq_true', Int.not_le, Int.not_lt] at hc2
 refine sy_skip ?_
 refine sy_tx' [0, 1, 2] rfl ?_
 refine sp rfl (PE.move rfl) rfl ?_
 refine sp rfl (PE.add rfl rfl (by omega)) rfl ?_
 refine sp rfl (PE.assign rfl) rfl ?_
 exact sy_next ⟨k + 1, by omega, fun y hy => by
   rw [take_snoc (lls_get hx), List.mem_append, List.mem_singleton] at hy
   rcases hy with hy | rfl
   · exact hin y hy
   · exact hc2⟩ (by dsimp only; omega) (by repeat' first | exact Sub.nil | apply Sub.cons | rfl | (simp [lk]; omega)) (fun w h => h.ftail)
 try simp only [decide_eq_true_eq, decide_eq_false_iff_not, Bool.and_eq_true, Bool.or_eq_true, Bool.not_eq_true', Int.not_le, Int.not_lt] at hc0
 obtain rfl : k = pl.length := by omega
 have hans : plcV (lls pl) s = -1 := plc_no (fun y hy => hin y (by rw [List.take_of_length_le (by rw [lls_len]; exact Nat.le_refl _)]; exact hy))
 refine sy_exit ?_
 repeat refine sy_tx ?_
 refine sy_bx ?_
 refine sy_seq ?_
 refine sy_tx' [0] rfl ?_
 refine sp rfl (PE.assign rfl) rfl ?_
 refine sy_ret ?_
 exact sy_return (vs := [_]) rfl (.cons (RV.tmp rfl) .nil) rfl ⟨by rw [hans]; rfl, rfl, rfl⟩ drp
end Go.Proofs.Ytelegnmfhjfbaaa
namespace Go.Proofs.Ytelegnmfhjfbaaa
set_option linter.unusedSimpArgs false
set_option linter.unusedVariables false
open Go
theorem cal83 : cal Try.prog 83 = true := by kernel_rfl
theorem cal84 : cal Try.prog 84 = true := by kernel_rfl
theorem cal85 : cal Try.prog 85 = true := by kernel_rfl
theorem cal86 : cal Try.prog 86 = true := by kernel_rfl
theorem cal87 : cal Try.prog 87 = true := by kernel_rfl
theorem cal88 : cal Try.prog 88 = true := by kernel_rfl
theorem FnV.lendO {P : Program} {f : FuncId} {v : Value} {e sz : Nat} {rows : List (List Value)} (o : OSl e sz rows) (mk : Value → List Value) {T : Heap} {R : Facts}
    (h : ∀ (a : Option Addr) (c : Nat) (B : World → Prop), FnV P f (mk (.slice a rows.length c)) T (RowsA a sz rows :: B :: R) v) : FnV P f (mk o.fs) (o.G ++ T) R v := fun w hw => by
  obtain ⟨fs, G, hl, his⟩ := o
  rcases his with ⟨rfl, rfl, rfl⟩ | ⟨b, cap, junk, rfl, rfl, h1, h2, h3⟩
  · have h3 : St T (RowsA none sz [] :: (fun _ => True) :: R) w := St.also (St.also hw (f := fun _ => True) (fun _ _ => trivial)) (fun w' _ i row hi => by simp at hi)
    refine CallsIn.mono (h none 0 _ w h3) ?_
    rintro e' w' ⟨u, H', R', ⟨rfl, rfl, rfl⟩, he, hs'⟩
    exact ⟨_, _, R, ⟨rfl, rfl, rfl⟩, he, hs'.ftail.ftail⟩
  · exact FnV.lend (H := (b, cel e (rows.flatten ++ junk)) :: T) (b := b) (e := e) (sz := sz) (rows := rows) (junk := junk) hl (fun B => h _ cap B) w hw
theorem lls_snoc (l : List PL) (x : PL) : lls (l ++ [x]) = lls l ++ [x.l] := by simp [lls]
theorem rS_no {n : Nat} {g : Int} {la s : List Int} {u : Nat} (h : g < ((bitl 4 u).length : Int)) : rS n g la s u = none := by unfold rS; rw [decide_eq_false (by omega)]; rfl
theorem rS_yes {n : Nat} {g : Int} {la s : List Int} {u : Nat} (h : ¬ g < ((bitl 4 u).length : Int)) : rS n g la s u = rNx la s u n := by unfold rS; rw [decide_eq_true (by omega)]; rfl
def wideV (b : Barn) (m : Int) : Bool := decide (8 < b.bins.length) || (decide (b.check = 0) && decide (m < (b.dsk.nst : Int)))
theorem c_rLongest (b : Barn) (ab : Option Addr) (cb : Nat) (hok : b.ok) (H : Heap) (R : Facts) [hB : MemRows ab 4 (brows b.bins) R] :
    Fn Try.prog 34 [b.v (b.sl ab cb)] H R (fun v H' R' => (∃ m, Kpt b.dsk b.state m ∧ v = .int .i64 m) ∧ H' = H ∧ R' = R) := by
 have hmn := hok.many
 have hdk := b.dsk_ok hok
 have hst := b.state_inS hok
 have hp16 := pow_le16 hmn.2
 have hn14 := (b.dsk.nst_le hdk).2
 refine fn_of Try.func34 rfl Try.ntmps34 rfl ?_
 refine sy_seq ?_
 refine sy_tx' [0, 1] rfl ?_
 refine bx rfl rfl rfl (fun b1 => ?_)
 refine sp rfl (PE.assign rfl) rfl ?_
 refine sy_seq ?_
 refine sy_tx' [0, 1, 2, 3] rfl ?_
 refine spL rfl rfl (lhA (btl b (b.sl ab cb)) ag33 rfl rfl rfl) rfl ?_
 refine cl rfl cal84 rfl rfl (c_rBegin b ab cb hok _ _) ?_
 rintro _ _ R1 ⟨ax, cx, rfl, rfl, hR1⟩
 obtain rfl := hR1.symm
 clear hR1
 refine bsl (out := [_]) rfl sl26 zl40 rfl rfl rfl rfl rfl rfl (fun b11 => ?_)
 refine sp rfl (PE.assign rfl) rfl ?_
 refine sy_seq ?_
 refine sy_seq ?_
 refine sy_tx' [0] rfl ?_
 refine Sy.heap (H' := (b11, cel 40 ((plrows [⟨ax, cx, bgL b⟩]).flatten ++ [])) :: (b1, cel 33 (btl b (b.sl ab cb))) :: H) (fun w h => by
   have e : (plrows [⟨ax, cx, bgL b⟩]).flatten ++ [] = [.slice ax b.bins.length cx] := by show [Value.slice ax (bgL b).length cx] = _; rw [bgL_len]
   rw [e]; exact h) ?_
 refine Sy.heap (fun w h => St.inn0 h) ?_
 refine Sy.heap (fun w h => St.innCons (a := ax) (c := cx) (l0 := bgL b) (l := []) h) ?_
 refine Sy.heap (fun w h => St.blkRows (plr_one [⟨ax, cx, bgL b⟩]) h) ?_
 refine sp rfl (PE.assign rfl) rfl ?_
 refine sy_block ?_
 refine sy_loop (ι := {y : Nat × List PL × Option Addr × Nat // y.1 ≤ b.dsk.nst + 1 ∧ Lv b.dsk b.state y.1 (lls y.2.1) ∧ lls y.2.1 ≠ [] ∧ y.2.1.length ≤ 14641}) (fun y => ⟨[(1, .pointer (some ⟨b1, 0, none⟩)), (3, .slice y.1.2.2.1 y.1.2.1.length y.1.2.2.2), (4, .int .i64 y.1.1)], (b1, cel 33 (btl b (b.sl ab cb))) :: H, RowsA y.1.2.2.1 1 (plrows y.1.2.1) :: Inn y.1.2.1 :: R⟩) (fun y => b.dsk.nst + 1 - y.1.1) ⟨(0, [⟨ax, cx, bgL b⟩], some ⟨b11, 0, none⟩, 1), Nat.zero_le _, Lv.start (bgL_len b), by simp [lls], by simp⟩ ?_ (fun y => ?_)
 exact sy_at (by repeat' first | exact Sub.nil | apply Sub.cons | rfl | (simp [lk]; omega)) (fun w h => h.facts (fun g hg => by simp only [List.mem_cons] at hg ⊢; rcases hg with hg | hg | hg <;> simp [hg]))
 obtain ⟨⟨day, nl, an, cn⟩, hday, hlv, hne, hnl⟩ := y
 dsimp only at hday hlv hne hnl ⊢
 refine sy_seq ?_
 refine sy_seq ?_
 refine sy_tx' [0, 1, 2, 3] rfl ?_
 refine sp rfl (PE.move rfl) rfl ?_
 refine spL rfl rfl (lhA (btl b (b.sl ab cb)) ag33 rfl rfl rfl) rfl ?_
 refine clV rfl cal83 rfl rfl (c_rMany b ab cb hok _ _) ?_
 refine sp rfl (PE.leq rfl rfl) rfl ?_
 refine sy_cond rfl (fun hc0 => ?_) (fun hc0 => ?_)
 try simp only [decide_eq_true_eq, decide_eq_false_iff_not, Bool.and_eq_true, Bool.or_eq_true, Bool.not_eq_true', Int.not_le, Int.not_lt] at hc0
 refine sy_skip ?_
 refine sy_seq ?_
 refine sy_block ?_
 refine sy_seq ?_
 refine sy_tx' [0] rfl ?_
 refine sp rfl (PE.assign rfl) rfl ?_
 refine sy_seq ?_
 refine sy_seq ?_
 refine sy_tx' [0] rfl ?_
 refine sp rfl (PE.assign rfl) rfl ?_
 refine sy_block ?_
 refine sy_loop (ι := (y : {y : Nat × List PL // y.1 ≤ nl.length ∧ Bf b.dsk.n b.dsk.gangs (laL b) (lls nl) y.1 0 (lls y.2)}) × OSl 40 1 (plrows y.1.2)) (fun y => ⟨[(1, .pointer (some ⟨b1, 0, none⟩)), (3, .slice an nl.length cn), (4, .int .i64 day), (5, y.2.fs), (6, .int .i64 y.1.1.1)], y.2.G ++ (b1, cel 33 (btl b (b.sl ab cb))) :: H, Inn y.1.1.2 :: RowsA an 1 (plrows nl) :: Inn nl :: R⟩) (fun y => nl.length - y.1.1.1) ⟨⟨(0, []), Nat.zero_le _, Bf.start⟩, OSl.nil _ _⟩ ?_ (fun y => ?_)
 exact sy_at (by repeat' first | exact Sub.nil | apply Sub.cons | rfl | (simp [lk]; omega)) (fun w h => St.inn0 h)
 obtain ⟨⟨⟨i, q⟩, hi, hbf⟩, o⟩ := y
 dsimp only at hi hbf o ⊢
 refine sy_seq ?_
 refine sy_seq ?_
 refine sy_tx' [0, 1, 2, 3] rfl ?_
 refine sp rfl (PE.move rfl) rfl ?_
 refine sp rfl (PE.move rfl) rfl ?_
 refine sp rfl (PE.lenSl isl26 rfl) rfl ?_
 refine sp rfl (PE.lss rfl rfl) rfl ?_
 refine sy_cond rfl (fun hc1 => ?_) (fun hc1 => ?_)
 try simp only [decide_eq_true_eq, decide_eq_false_iff_not, Bool.and_eq_true, Bool.or_eq_true, Bool.not_eq_true', Int.not_le, Int.not_lt] at hc1
 obtain ⟨x, hx⟩ : ∃ x, nl[i]? = some x := ⟨_, List.getElem?_eq_getElem (by omega)⟩
 have hxm := List.mem_of_getElem? hx
 have hxl : x.l.length = b.bins.length := hlv.len x.l (List.mem_map.2 ⟨x, hxm, rfl⟩)
 have hxs := hlv.inS hdk hst (List.mem_map.2 ⟨x, hxm, rfl⟩)
 have hxn : ∀ k < b.bins.length, 0 ≤ na x.l k ∧ na x.l k ≤ 1000000 := fun k hk => by have := (b.dsk.inS_sml hdk hxs).at_ k (by omega); rwa [pad_na] at this
 refine sy_addr (a := an) (sz := 1) (rows := plrows nl) (by intro h0; have := congrArg List.length h0; rw [plrows_len] at this; simp only [List.length_nil] at this; omega) (fun ba oa he => ?_)
 subst he
 refine Sy.heap (fun w h => St.inn (x := x) h hxm) ?_
 refine sy_skip ?_
 refine sy_seq ?_
 refine sy_block ?_
 refine sy_seq ?_
 refine sy_tx' [0] rfl ?_
 refine sp rfl (PE.assign rfl) rfl ?_
 refine sy_block ?_
 refine sy_loop (ι := (y : {y : Nat × List PL // y.1 ≤ 2 ^ b.bins.length ∧ Bf b.dsk.n b.dsk.gangs (laL b) (lls nl) i y.1 (lls y.2)}) × OSl 40 1 (plrows y.1.2)) (fun y => ⟨[(1, .pointer (some ⟨b1, 0, none⟩)), (3, .slice (some ⟨ba, oa, none⟩) nl.length cn), (4, .int .i64 day), (5, y.2.fs), (6, .int .i64 i), (7, .int .i64 y.1.1.1)], y.2.G ++ (b1, cel 33 (btl b (b.sl ab cb))) :: H, Inn y.1.1.2 :: RowsA x.a 1 (irows x.l) :: RowsA (some ⟨ba, oa, none⟩) 1 (plrows nl) :: Inn nl :: R⟩) (fun y => 2 ^ b.bins.length - y.1.1.1) ⟨⟨(0, q), Nat.zero_le _, hbf⟩, o⟩ ?_ (fun y => ?_)
 exact sy_at (by repeat' first | exact Sub.nil | apply Sub.cons | rfl | (simp [lk]; omega)) (fun w h => h.facts (fun g hg => by simp only [List.mem_cons] at hg ⊢; rcases hg with hg | hg | hg | hg | hg <;> simp [hg]))
 obtain ⟨⟨⟨u, q2⟩, hu, hbf2⟩, o2⟩ := y
 dsimp only at hu hbf2 o2 ⊢
 have hfew := hbf2.few hdk hst (laL_lasts b) hlv
 rw [lls_len] at hfew
 refine sy_seq ?_
 refine sy_seq ?_
 refine sy_tx' [0, 1, 2, 3] rfl ?_
 refine sp rfl (PE.move rfl) rfl ?_
 refine spL rfl rfl (lhA (btl b (b.sl ab cb)) ag33 rfl rfl rfl) rfl ?_
 refine clV rfl cal85 rfl rfl (c_rsets b ab cb hmn.2 _ _) ?_
 refine sp rfl (PE.lss rfl rfl) rfl ?_
 refine sy_cond rfl (fun hc2 => ?_) (fun hc2 => ?_)
 try simp only [decide_eq_true_eq, decide_eq_false_iff_not, Bool.and_eq_true, Bool.or_eq_true, Bool.not_eq_true', Int.not_le, Int.not_lt] at hc2
 have hu16 : u < 16 := by omega
 refine sy_skip ?_
 refine sy_seq ?_
 refine sy_block ?_
 refine sy_seq ?_
 refine sy_seq ?_
 refine sy_draw [0, 1, 0, 4, 15] (.tk 0 (.tk 2 (.ld 3 (.big 1 (.tk 4 .done))))) mixed (by kernel_rfl) ?_
 refine tk rfl (PE.move rfl) rfl ?_
 refine tk rfl (PE.fieldAddr fo33_1 rfl) rfl ?_
 refine ld rfl rfl (lh sc3 rfl rfl) rfl ?_
 refine clV rfl cal86 rfl rfl (c_rones u hu16 _ _) ?_
 refine bg (fun w hs => ⟨(lh sc3 rfl rfl) w hs, trivial⟩) ?_
 refine tk rfl (PE.gtr rfl rfl) rfl ?_
 refine sy_cond rfl (fun hc3 => ?_) (fun hc3 => ?_)
 try simp only [decide_eq_true_eq, decide_eq_false_iff_not, Bool.and_eq_true, Bool.or_eq_true, Bool.not_eq_true', Int.not_le, Int.not_lt] at hc3
 have hsk := hbf2.skip (lls_get hx) (by show u < 2 ^ b.bins.length; omega) (fun t ht => by rw [rS_no (show b.dsk.gangs < _ from hc3)] at ht; cases ht)
 refine sy_exit ?_
 refine sy_tx ?_
 refine sy_bx ?_
 refine sy_tx' [0, 1, 2] rfl ?_
 refine sp rfl (PE.move rfl) rfl ?_
 refine sp rfl (PE.add rfl rfl (by omega)) rfl ?_
 refine sp rfl (PE.assign rfl) rfl ?_
 first
   | exact sy_next ⟨⟨(u + 1, q2 ++ [⟨some ⟨bo, 0, none⟩, c, t⟩]), by dsimp only; omega, by rw [lls_snoc]; exact hadd⟩, o53.cast (by rw [plrows_app]; rfl)⟩ (by dsimp only; omega) (by repeat' first | exact Sub.nil | apply Sub.cons | rfl | (simp [lk]; omega)) (fun w h => (St.innSnoc (a := some ⟨bo, 0, none⟩) (c := c) (l0 := t) (l := q2) (h.del b52)).facts (fun g hg => by simp only [List.mem_cons] at hg ⊢; rcases hg with hg | hg | hg | hg | hg <;> simp [hg]))
   | exact sy_next ⟨⟨(u + 1, q2), by dsimp only; omega, hsk⟩, o2⟩ (by dsimp only; omega) (by repeat' first | exact Sub.nil | apply Sub.cons | rfl | (simp [lk]; omega)) (fun w h => h.facts (fun g hg => by simp only [List.mem_cons] at hg ⊢; rcases hg with hg | hg | hg | hg | hg <;> simp [hg]))
 try simp only [decide_eq_true_eq, decide_eq_false_iff_not, Bool.and_eq_true, Bool.or_eq_true, Bool.not_eq_true', Int.not_le, Int.not_lt] at hc3
 have hrs : rS b.dsk.n b.dsk.gangs (laL b) x.l u = rNx (laL b) x.l u b.bins.length := rS_yes (show ¬ b.gangs < _ by omega)
 refine sy_skip ?_
 refine sy_seq ?_
 refine sy_draw [0, 0, 0, 6, 14, 0, 63, 127] (.ld 0 (.tk 1 (.tk 2 (.tk 3 (.ld 4 (.tk 5 (.big 6 (.tk 7 .done)))))))) mixed (by kernel_rfl) ?_
 refine ld rfl rfl (lhA (btl b (b.sl ab cb)) ag33 rfl rfl rfl) rfl ?_
 refine tk rfl (PE.move rfl) rfl ?_
 refine tk rfl (PE.move rfl) rfl ?_
 refine tk rfl (PE.indexAddr el26 rfl rfl (by omega) (by omega)) rfl ?_
 refine ld rfl rfl (lf0 sc40 (pl_get hx) rfl) rfl ?_
 refine tk rfl (PE.move rfl) rfl ?_
 refine cl rfl cal87 rfl rfl (c_rNext b ab cb hok x.l x.a x.c hxl hxn u hu16 _ _) ?_
 rintro _ _ R1 ⟨rfl, (⟨hnx, rfl, hR1⟩ | ⟨t, bo, c, hnx, rfl, hR1⟩)⟩ <;> obtain rfl := hR1.symm <;> clear hR1
 refine bg (fun w hs => ⟨trivial, trivial, trivial⟩) ?_
 refine tk rfl (PE.assign rfl) rfl ?_
 refine sy_seq ?_
 refine sy_tx' [0, 1, 2, 3, 4, 5, 6, 7] rfl ?_
 have hsk := hbf2.skip (lls_get hx) (by show u < 2 ^ b.bins.length; omega) (fun t ht => by rw [hrs, hnx] at ht; cases ht)
 refine sp rfl (PE.move rfl) rfl ?_
 refine sp rfl (PE.neqNil isl40 rfl rfl) rfl ?_
 refine sp rfl (PE.move rfl) rfl ?_
 repeat refine spN rfl rfl rfl rfl rfl rfl rfl rfl ?_
 refine sp rfl (PE.pick rfl rfl rfl) rfl ?_
 refine sy_condF rfl ?_
 refine sy_skip ?_
 refine sy_tx' [0, 1, 2] rfl ?_
 refine sp rfl (PE.move rfl) rfl ?_
 refine sp rfl (PE.add rfl rfl (by omega)) rfl ?_
 refine sp rfl (PE.assign rfl) rfl ?_
 first
   | exact sy_next ⟨⟨(u + 1, q2 ++ [⟨some ⟨bo, 0, none⟩, c, t⟩]), by dsimp only; omega, by rw [lls_snoc]; exact hadd⟩, o53.cast (by rw [plrows_app]; rfl)⟩ (by dsimp only; omega) (by repeat' first | exact Sub.nil | apply Sub.cons | rfl | (simp [lk]; omega)) (fun w h => (St.innSnoc (a := some ⟨bo, 0, none⟩) (c := c) (l0 := t) (l := q2) (h.del b52)).facts (fun g hg => by simp only [List.mem_cons] at hg ⊢; rcases hg with hg | hg | hg | hg | hg <;> simp [hg]))
   | exact sy_next ⟨⟨(u + 1, q2), by dsimp only; omega, hsk⟩, o2⟩ (by dsimp only; omega) (by repeat' first | exact Sub.nil | apply Sub.cons | rfl | (simp [lk]; omega)) (fun w h => h.facts (fun g hg => by simp only [List.mem_cons] at hg ⊢; rcases hg with hg | hg | hg | hg | hg <;> simp [hg]))
 refine bg (fun w hs => ⟨trivial, trivial, trivial⟩) ?_
 refine tk rfl (PE.assign rfl) rfl ?_
 refine sy_seq ?_
 refine sy_tx' [0, 1, 2, 3, 4, 5, 6, 7] rfl ?_
 have htl : t.length = b.bins.length := rNx_len hnx
 have hall : ∀ y ∈ q2, y.l.length = t.length := fun y hy => by rw [htl]; exact hbf2.len y.l (List.mem_map.2 ⟨y, hy, rfl⟩)
 refine sp rfl (PE.move rfl) rfl ?_
 refine sp rfl (PE.neqNil isl40 rfl rfl) rfl ?_
 refine sp rfl (PE.move rfl) rfl ?_
 refine spG rfl rfl rfl rfl (PE.move rfl) rfl ?_
 refine spG rfl rfl rfl rfl (PE.move rfl) rfl ?_
 refine clVG rfl rfl rfl rfl cal88 rfl rfl (FnV.lendO o2 (fun v => [v, .slice (some ⟨bo, 0, none⟩) t.length c]) (fun a5 c5 B => by rw [plrows_len]; exact c_rplace q2 a5 c5 (by omega) t (some ⟨bo, 0, none⟩) c (by omega) hall _ _)) ?_
 refine spG rfl rfl rfl rfl (PE.lss rfl rfl) rfl ?_
 refine sp rfl (PE.pick rfl rfl rfl) rfl ?_
 refine sy_cond rfl (fun hc4 => ?_) (fun hc4 => ?_)
 try simp only [decide_eq_true_eq, decide_eq_false_iff_not, Bool.and_eq_true, Bool.or_eq_true, Bool.not_eq_true', Int.not_le, Int.not_lt] at hc4
 have hadd := hbf2.add (lls_get hx) (by show u < 2 ^ b.bins.length; omega) (hrs.trans hnx) (plc_neg.1 hc4)
 refine sy_tx' [0, 1, 2, 3, 4] rfl ?_
 refine sp rfl (PE.move rfl) rfl ?_
 refine sp rfl (PE.move rfl) rfl ?_
 refine bsl (out := [_]) rfl sl26 zl40 rfl rfl rfl rfl rfl rfl (fun b52 => ?_)
 refine apO (o2) rfl ap26 rfl rfl (rowsH (row := [.slice (some ⟨bo, 0, none⟩) t.length c]) rfl) rfl rfl ((by rw [plrows_len]; simp only [List.length_singleton]; omega)) rfl (fun o53 => ?_)
 refine sp rfl (PE.assign rfl) rfl ?_
 refine sy_tx' [0, 1, 2] rfl ?_
 refine sp rfl (PE.move rfl) rfl ?_
 refine sp rfl (PE.add rfl rfl (by omega)) rfl ?_
 refine sp rfl (PE.assign rfl) rfl ?_
 first
   | exact sy_next ⟨⟨(u + 1, q2 ++ [⟨some ⟨bo, 0, none⟩, c, t⟩]), by dsimp only; omega, by rw [lls_snoc]; exact hadd⟩, o53.cast (by rw [plrows_app]; rfl)⟩ (by dsimp only; omega) (by repeat' first | exact Sub.nil | apply Sub.cons | rfl | (simp [lk]; omega)) (fun w h => (St.innSnoc (a := some ⟨bo, 0, none⟩) (c := c) (l0 := t) (l := q2) (h.del b52)).facts (fun g hg => by simp only [List.mem_cons] at hg ⊢; rcases hg with hg | hg | hg | hg | hg <;> simp [hg]))
   | exact sy_next ⟨⟨(u + 1, q2), by dsimp only; omega, hsk⟩, o2⟩ (by dsimp only; omega) (by repeat' first | exact Sub.nil | apply Sub.cons | rfl | (simp [lk]; omega)) (fun w h => h.facts (fun g hg => by simp only [List.mem_cons] at hg ⊢; rcases hg with hg | hg | hg | hg | hg <;> simp [hg]))
 try simp only [decide_eq_true_eq, decide_eq_false_iff_not, Bool.and_eq_true, Bool.or_eq_true, Bool.not_eq_true', Int.not_le, Int.not_lt] at hc4
 have hsk := hbf2.skip (lls_get hx) (by show u < 2 ^ b.bins.length; omega) (fun t2 ht2 => by rw [hrs, hnx] at ht2; cases ht2; exact Classical.byContradiction fun h9 => absurd (plc_neg.2 h9) (by omega))
 refine sy_skip ?_
 refine sy_tx' [0, 1, 2] rfl ?_
 refine sp rfl (PE.move rfl) rfl ?_
 refine sp rfl (PE.add rfl rfl (by omega)) rfl ?_
 refine sp rfl (PE.assign rfl) rfl ?_
 first
   | exact sy_next ⟨⟨(u + 1, q2 ++ [⟨some ⟨bo, 0, none⟩, c, t⟩]), by dsimp only; omega, by rw [lls_snoc]; exact hadd⟩, o53.cast (by rw [plrows_app]; rfl)⟩ (by dsimp only; omega) (by repeat' first | exact Sub.nil | apply Sub.cons | rfl | (simp [lk]; omega)) (fun w h => (St.innSnoc (a := some ⟨bo, 0, none⟩) (c := c) (l0 := t) (l := q2) (h.del b52)).facts (fun g hg => by simp only [List.mem_cons] at hg ⊢; rcases hg with hg | hg | hg | hg | hg <;> simp [hg]))
   | exact sy_next ⟨⟨(u + 1, q2), by dsimp only; omega, hsk⟩, o2⟩ (by dsimp only; omega) (by repeat' first | exact Sub.nil | apply Sub.cons | rfl | (simp [lk]; omega)) (fun w h => h.facts (fun g hg => by simp only [List.mem_cons] at hg ⊢; rcases hg with hg | hg | hg | hg | hg <;> simp [hg]))
 try simp only [decide_eq_true_eq, decide_eq_false_iff_not, Bool.and_eq_true, Bool.or_eq_true, Bool.not_eq_true', Int.not_le, Int.not_lt] at hc2
 obtain rfl : u = 2 ^ b.bins.length := by omega
 refine sy_exit ?_
 repeat refine sy_tx ?_
 refine sy_bx ?_
 refine sy_tx' [0, 1, 2] rfl ?_
 refine sp rfl (PE.move rfl) rfl ?_
 refine sp rfl (PE.add rfl rfl (by omega)) rfl ?_
 refine sp rfl (PE.assign rfl) rfl ?_
 exact sy_next ⟨⟨(i + 1, q2), by dsimp only; omega, hbf2.next⟩, o2⟩ (by dsimp only; omega) (by repeat' first | exact Sub.nil | apply Sub.cons | rfl | (simp [lk]; omega)) (fun w h => h.facts (fun g hg => by simp only [List.mem_cons] at hg ⊢; rcases hg with hg | hg | hg | hg <;> simp [hg]))
 try simp only [decide_eq_true_eq, decide_eq_false_iff_not, Bool.and_eq_true, Bool.or_eq_true, Bool.not_eq_true', Int.not_le, Int.not_lt] at hc1
 obtain rfl : i = nl.length := by omega
 have hfew := hbf.few hdk hst (laL_lasts b) hlv
 rw [lls_len] at hfew
 have hlv2 := hlv.next hdk hst (laL_lasts b) (by rw [lls_len]; exact hbf)
 obtain ⟨a5, c5, he, hf⟩ := o.freeze
 rw [he, plrows_len]
 refine Sy.heap (fun w h => hf h) ?_
 clear he hf
 refine sy_exit ?_
 repeat refine sy_tx ?_
 refine sy_bx ?_
 refine sy_seq ?_
 refine sy_seq ?_
 refine sy_tx' [0, 1, 2] rfl ?_
 refine sp rfl (PE.move rfl) rfl ?_
 refine sp rfl (PE.lenSl isl26 rfl) rfl ?_
 refine sp rfl (PE.eql rfl rfl) rfl ?_
 refine sy_cond rfl (fun hc5 => ?_) (fun hc5 => ?_)
 try simp only [decide_eq_true_eq, decide_eq_false_iff_not, Bool.and_eq_true, Bool.or_eq_true, Bool.not_eq_true', Int.not_le, Int.not_lt] at hc5
 have hq0 : lls q = [] := List.length_eq_zero_iff.1 (by rw [lls_len]; omega)
 have hkp := hlv.ends hdk hst (by omega) hne (by rw [← hq0]; exact hlv2)
 refine sy_seq ?_
 refine sy_tx' [0, 1] rfl ?_
 refine sp rfl (PE.move rfl) rfl ?_
 refine sp rfl (PE.assign rfl) rfl ?_
 refine sy_ret ?_
 exact sy_return (vs := [_]) rfl (.cons (RV.tmp rfl) .nil) rfl ⟨⟨_, hkp, rfl⟩, rfl, rfl⟩ (fun w h => (h.del b1).facts (fun g hg => by simp [hg]))
 try simp only [decide_eq_true_eq, decide_eq_false_iff_not, Bool.and_eq_true, Bool.or_eq_true, Bool.not_eq_true', Int.not_le, Int.not_lt] at hc5
 refine sy_skip ?_
 refine sy_tx' [0, 1] rfl ?_
 refine sp rfl (PE.move rfl) rfl ?_
 refine sp rfl (PE.assign rfl) rfl ?_
 refine sy_tx' [0, 1, 2] rfl ?_
 refine sp rfl (PE.move rfl) rfl ?_
 refine sp rfl (PE.add rfl rfl (by omega)) rfl ?_
 refine sp rfl (PE.assign rfl) rfl ?_
 exact sy_next ⟨(day + 1, q, a5, c5), by dsimp only; omega, hlv2, fun h => by dsimp only at h; have := congrArg List.length h; rw [lls_len, List.length_nil] at this; omega, hfew⟩ (by dsimp only; omega) (by repeat' first | exact Sub.nil | apply Sub.cons | rfl | (simp [lk]; omega)) (fun w h => h.facts (fun g hg => by simp only [List.mem_cons] at hg ⊢; rcases hg with hg | hg | hg <;> simp [hg]))
 try simp only [decide_eq_true_eq, decide_eq_false_iff_not, Bool.and_eq_true, Bool.or_eq_true, Bool.not_eq_true', Int.not_le, Int.not_lt] at hc0
 have hkp := hlv.ever hdk hst (by omega) hne
 refine sy_exit ?_
 repeat refine sy_tx ?_
 refine sy_bx ?_
 refine sy_seq ?_
 refine sy_tx' [0] rfl ?_
 refine sp rfl (PE.assign rfl) rfl ?_
 refine sy_ret ?_
 exact sy_return (vs := [_]) rfl (.cons (RV.tmp rfl) .nil) rfl ⟨⟨_, hkp, rfl⟩, rfl, rfl⟩ (fun w h => (h.del b1).facts (fun g hg => by simp [hg]))
theorem c_wide (b : Barn) (ab : Option Addr) (cb : Nat) (m : Int) (hl : b.bins.length ≤ 4398046511104) (hr : b.rise.length = 6) (H : Heap) (R : Facts) [hB : MemRows ab 4 (brows b.bins) R] :
    FnV Try.prog 33 [b.v (b.sl ab cb), .int .i64 m] H R (.bool (wideV b m)) := by
 refine fn_of Try.func33 rfl Try.ntmps33 rfl ?_
 refine sy_seq ?_
 refine sy_tx' [0, 1] rfl ?_
 refine bx rfl rfl rfl (fun b2 => ?_)
 refine sp rfl (PE.assign rfl) rfl ?_
 refine sy_seq ?_
 refine sy_tx' [0, 1, 2, 3] rfl ?_
 refine spL rfl rfl (lhA (btl b (b.sl ab cb)) ag25 rfl rfl rfl) rfl ?_
 refine cl rfl cal20 rfl rfl (c_theirs b ab cb (by omega) _ _) ?_
 rintro _ _ R1 ⟨ax, cx, rfl, rfl, hR1⟩
 obtain rfl := hR1.symm
 clear hR1
 refine alc rfl zl33 rfl (fun b5 => ?_)
 refine sto rfl rfl rfl cn33 rfl rfl rfl rfl ?_
 refine sy_seq ?_
 refine sy_tx' [0, 1, 2, 3, 4, 5, 6, 7, 8, 9, 10, 11, 12, 13] rfl ?_
 refine spL rfl rfl (lhA (btl b (b.sl ab cb)) ag25 rfl rfl rfl) rfl ?_
 refine clV rfl cal16 rfl rfl (c_great b ab cb (by omega) _ _) ?_
 refine sp rfl (PE.move rfl) rfl ?_
 refine sy_case (t := 10) rfl (fun g10 => ?_) (fun g10 => ?_)
 repeat refine spN rfl rfl rfl rfl rfl rfl rfl rfl ?_
 repeat refine spU rfl rfl rfl rfl rfl rfl rfl ?_
 refine spN rfl rfl rfl rfl rfl rfl rfl rfl ?_
 refine sp rfl (PE.pick rfl rfl rfl) rfl ?_
 refine sp rfl (PE.assign rfl) rfl ?_
 refine sy_ret ?_
 exact sy_return (vs := [_]) rfl (.cons (RV.tmp rfl) .nil) rfl ⟨by unfold wideV; first | (rw [g10]; rfl) | (rw [g10, decide_eq_true g14]; rfl) | (rw [g10, decide_eq_false g14]; rfl), rfl, rfl⟩ (fun w h => ((h.del b5).del b2).facts (fun g hg => by simp [hg]))
 refine spLG rfl rfl rfl rfl rfl (lhA (btl b (b.sl ax cx)) ag33 rfl rfl rfl) rfl ?_
 refine clVG rfl rfl rfl rfl cal22 rfl rfl (c_rCheck b ax cx (by omega) hr _ _) ?_
 refine spG rfl rfl rfl rfl (PE.eql rfl rfl) rfl ?_
 refine spG rfl rfl rfl rfl (PE.move rfl) rfl ?_
 refine sy_case (t := 14) rfl (fun g14 => ?_) (fun g14 => ?_)
 try simp only [decide_eq_true_eq, decide_eq_false_iff_not, Bool.and_eq_true, Bool.or_eq_true, Bool.not_eq_true', Int.not_le, Int.not_lt] at g14
 refine spLG rfl rfl rfl rfl rfl (lhA (btl b (b.sl ax cx)) ag33 rfl rfl rfl) rfl ?_
 refine clVG rfl rfl rfl rfl cal83 rfl rfl (c_rMany b ax cx (Barn.ok_of hr g14) _ _) ?_
 refine spG rfl rfl rfl rfl (PE.move rfl) rfl ?_
 refine spG rfl rfl rfl rfl (PE.gtr rfl rfl) rfl ?_
 refine spG rfl rfl rfl rfl (PE.pick rfl rfl rfl) rfl ?_
 refine sp rfl (PE.pick rfl rfl rfl) rfl ?_
 refine sp rfl (PE.assign rfl) rfl ?_
 refine sy_ret ?_
 exact sy_return (vs := [_]) rfl (.cons (RV.tmp rfl) .nil) rfl ⟨by unfold wideV; first | (rw [g10]; rfl) | (rw [g10, decide_eq_true g14]; rfl) | (rw [g10, decide_eq_false g14]; rfl), rfl, rfl⟩ (fun w h => ((h.del b5).del b2).facts (fun g hg => by simp [hg]))
 try simp only [decide_eq_true_eq, decide_eq_false_iff_not, Bool.and_eq_true, Bool.or_eq_true, Bool.not_eq_true', Int.not_le, Int.not_lt] at g14
 repeat refine spN rfl rfl rfl rfl rfl rfl rfl rfl ?_
 refine spG rfl rfl rfl rfl (PE.pick rfl rfl rfl) rfl ?_
 refine sp rfl (PE.pick rfl rfl rfl) rfl ?_
 refine sp rfl (PE.assign rfl) rfl ?_
 refine sy_ret ?_
 exact sy_return (vs := [_]) rfl (.cons (RV.tmp rfl) .nil) rfl ⟨by unfold wideV; first | (rw [g10]; rfl) | (rw [g10, decide_eq_true g14]; rfl) | (rw [g10, decide_eq_false g14]; rfl), rfl, rfl⟩ (fun w h => ((h.del b5).del b2).facts (fun g hg => by simp [hg]))
end Go.Proofs.Ytelegnmfhjfbaaa
namespace Go.Proofs.Ytelegnmfhjfbaaa
set_option linter.unusedSimpArgs false
set_option linter.unusedVariables false
open Go
theorem cal33 : cal Try.prog 33 = true := by kernel_rfl
theorem cal34 : cal Try.prog 34 = true := by kernel_rfl
def SpI (b : Barn) (m : Nat) (s e : Int) : Prop := (e = 6 ∧ s = 0 ∧ ∀ g : Nat, m ≤ g → g ≤ b.bins.length → b.ends g) ∨
  (e = 0 ∧ ∃ g : Nat, s = g ∧ m ≤ g ∧ g ≤ b.bins.length ∧ Kpt (b.withG g).dsk b.state 1000000 ∧ ∀ j : Nat, m ≤ j → j < g → b.ends j)
theorem SpI.start (b : Barn) : SpI b (b.bins.length + 1) 0 6 := .inl ⟨rfl, rfl, fun g h1 h2 => by omega⟩
theorem SpI.yes {b : Barn} {k : Nat} (hk : k ≤ b.bins.length) (h : Kpt (b.withG k).dsk b.state 1000000) : SpI b k k 0 := .inr ⟨rfl, k, rfl, Nat.le_refl _, hk, h, fun j h1 h2 => by omega⟩
theorem SpI.no {b : Barn} {k : Nat} {s e : Int} (h : SpI b (k + 1) s e) (hn : b.ends k) : SpI b k s e := by
  rcases h with ⟨h1, h2, h3⟩ | ⟨h1, g, h2, h3, h4, h5, h6⟩
  · refine .inl ⟨h1, h2, fun g hg hg2 => ?_⟩
    rcases Nat.lt_or_ge k g with h | h
    · exact h3 g h hg2
    · obtain rfl : g = k := by omega
      exact hn
  · refine .inr ⟨h1, g, h2, by omega, h4, h5, fun j hj hj2 => ?_⟩
    rcases Nat.lt_or_ge k j with h | h
    · exact h6 j h hj2
    · obtain rfl : j = k := by omega
      exact hn
theorem ends_not {b : Barn} {g : Nat} (h : b.ends g) : ¬ Kpt (b.withG g).dsk b.state 1000000 := fun h2 => by
  obtain ⟨w, hw, h3⟩ := h
  exact hw (kpt_unique h3 h2)
theorem SpI.eq {b : Barn} {s e : Int} (h : SpI b 0 s e) (hc : b.check = 0) {v : Value} (hq : SpareQ b v) : v = .tuple #[.int .i64 s, .int .i64 e] := by
  rcases hq with ⟨h1, _⟩ | ⟨_, ⟨g, hg, hn, hk, rfl⟩ | ⟨hn, rfl⟩⟩
  · exact absurd hc h1
  · rcases h with ⟨rfl, rfl, h3⟩ | ⟨rfl, g2, rfl, _, h4, h5, h6⟩
    · exact absurd hk (ends_not (h3 g (Nat.zero_le _) hg))
    · rcases Nat.lt_trichotomy g g2 with h7 | h7 | h7
      · exact absurd hk (ends_not (h6 g (Nat.zero_le _) h7))
      · rw [h7]
      · exact absurd h5 (ends_not (hn g2 h7))
  · rcases h with ⟨rfl, rfl, h3⟩ | ⟨rfl, g2, rfl, _, h4, h5, h6⟩
    · rfl
    · exact absurd h5 (ends_not (hn g2 h4))
end Go.Proofs.Ytelegnmfhjfbaaa
namespace Go.Proofs.Ytelegnmfhjfbaaa
set_option linter.unusedSimpArgs false
set_option linter.unusedVariables false
open Go
structure FewC (d : Dsk) (s : HSt) (n c : Nat) : Prop where
  is : ∃ t, d.pth n s t c
  le : ∀ t c', d.pth n s t c' → c ≤ c'
structure Fsp (es : List (HSt × List Int)) (m : MW) : Prop where
  mem : ∀ t w, mget m t = some w → (t, w) ∈ es
  has : ∀ t w, (t, w) ∈ es → ∃ w', mget m t = some w' ∧ na w' 5 ≤ na w 5
theorem Fsp.nil : Fsp [] [] := ⟨fun t w h => (by cases h), fun t w h => (by cases h)⟩
theorem Fsp.add {es : List (HSt × List Int)} {m : MW} {e : HSt × List Int} (h : Fsp es m) (hz : ∀ f ∈ es, f.2 ≠ zw) : Fsp (es ++ [e]) (updW m e) := by
  obtain ⟨k, v⟩ := e
  have key : (updW m (k, v) = mput m k v ∧ ∀ w, mget m k = some w → na v 5 < na w 5) ∨ (updW m (k, v) = m ∧ ∃ w, mget m k = some w ∧ na w 5 ≤ na v 5) := by
    unfold updW
    dsimp only
    cases hk : mget m k with
    | none => exact .inl ⟨by rw [Option.getD_none, decide_eq_true rfl]; rfl, fun w h => by cases h⟩
    | some w0 =>
      have h0 : w0 ≠ zw := hz _ (h.mem _ _ hk)
      rw [Option.getD_some, decide_eq_false h0, Bool.false_or]
      by_cases h1 : na v 5 < na w0 5
      · rw [decide_eq_true h1]; exact .inl ⟨rfl, fun w hw => by cases hw; exact h1⟩
      · rw [decide_eq_false h1]; exact .inr ⟨rfl, w0, rfl, by omega⟩
  rcases key with ⟨e1, h1⟩ | ⟨e1, w0, h1, h2⟩
  · rw [e1]
    refine ⟨fun t w hw => ?_, fun t w hw => ?_⟩
    · rw [mget_mput] at hw
      by_cases hkt : k = t
      · rw [decide_eq_true hkt] at hw; cases hw; subst hkt; simp
      · rw [decide_eq_false hkt] at hw; exact List.mem_append_left _ (h.mem _ _ hw)
    · rw [mget_mput]
      by_cases hkt : k = t
      · subst hkt
        rw [decide_eq_true rfl]
        refine ⟨v, rfl, ?_⟩
        rcases List.mem_append.1 hw with h3 | h3
        · obtain ⟨w', h4, h5⟩ := h.has _ _ h3
          have := h1 _ h4
          omega
        · cases List.mem_singleton.1 h3; exact Int.le_refl _
      · rw [decide_eq_false hkt]
        rcases List.mem_append.1 hw with h3 | h3
        · exact h.has _ _ h3
        · cases List.mem_singleton.1 h3; exact absurd rfl hkt
  · rw [e1]
    refine ⟨fun t w hw => List.mem_append_left _ (h.mem _ _ hw), fun t w hw => ?_⟩
    rcases List.mem_append.1 hw with h3 | h3
    · exact h.has _ _ h3
    · cases List.mem_singleton.1 h3; exact ⟨w0, h1, h2⟩
def Bsp (m : MW) (D : List HSt) : Option (HSt × Int) → Prop
  | none => ∀ s ∈ D, mget m s = none
  | some p => p.1 ∈ D ∧ ∃ w, mget m p.1 = some w ∧ p.2 = na w 5 ∧ ∀ s ∈ D, ∀ w', mget m s = some w' → p.2 ≤ na w' 5
theorem Bsp.add {m : MW} {D : List HSt} {acc : Option (HSt × Int)} (h : Bsp m D acc) (s : HSt) : Bsp m (D ++ [s]) (bestS m acc s) := by
  unfold bestS
  cases hs : mget m s with
  | none =>
    dsimp only
    cases acc with
    | none => intro t ht; rcases List.mem_append.1 ht with h1 | h1; exact h t h1; rw [List.mem_singleton.1 h1]; exact hs
    | some p =>
      obtain ⟨h1, w, h2, h3, h4⟩ := h
      refine ⟨List.mem_append_left _ h1, w, h2, h3, fun t ht w' hw' => ?_⟩
      rcases List.mem_append.1 ht with h5 | h5
      · exact h4 t h5 w' hw'
      · rw [List.mem_singleton.1 h5, hs] at hw'; cases hw'
  | some w =>
    dsimp only
    cases acc with
    | none =>
      refine ⟨by simp, w, hs, rfl, fun t ht w' hw' => ?_⟩
      rcases List.mem_append.1 ht with h5 | h5
      · rw [h t h5] at hw'; cases hw'
      · rw [List.mem_singleton.1 h5, hs] at hw'; cases hw'; exact Int.le_refl _
    | some p =>
      obtain ⟨q, n⟩ := p
      obtain ⟨h1, w0, h2, h3, h4⟩ := h
      dsimp only at h1 h2 h3 h4 ⊢
      by_cases hlt : na w 5 < n
      · rw [decide_eq_true hlt, cond_true]
        refine ⟨by simp, w, hs, rfl, fun t ht w' hw' => ?_⟩
        dsimp only
        rcases List.mem_append.1 ht with h5 | h5
        · have := h4 t h5 w' hw'; omega
        · rw [List.mem_singleton.1 h5, hs] at hw'; cases hw'; exact Int.le_refl _
      · rw [decide_eq_false hlt, cond_false]
        refine ⟨List.mem_append_left _ h1, w0, h2, h3, fun t ht w' hw' => ?_⟩
        dsimp only
        rcases List.mem_append.1 ht with h5 | h5
        · exact h4 t h5 w' hw'
        · rw [List.mem_singleton.1 h5, hs] at hw'; cases hw'; omega
def Dsk.run (d : Dsk) : HSt → List (List Nat) → Option HSt
  | s, [] => some s
  | s, l :: p => match d.next s l with
    | none => none
    | some t => d.run t p
def turnsN (p : List (List Nat)) : Nat := (p.map List.length).sum
theorem turnsN_app (p q : List (List Nat)) : turnsN (p ++ q) = turnsN p + turnsN q := by unfold turnsN; rw [List.map_append, List.sum_append]
theorem Dsk.run_app (d : Dsk) : ∀ (p q : List (List Nat)) (s : HSt), d.run s (p ++ q) = match d.run s p with
    | none => none
    | some t => d.run t q
  | [], q, s => rfl
  | l :: p, q, s => by
    have e1 : ∀ r, d.run s (l :: r) = match d.next s l with
      | none => none
      | some t => d.run t r := fun r => rfl
    rw [List.cons_append, e1, e1]
    cases d.next s l with
    | none => rfl
    | some t => exact run_app d p q t
theorem Dsk.run_one (d : Dsk) (s : HSt) (l : List Nat) : d.run s [l] = d.next s l := by
  unfold Dsk.run
  cases d.next s l <;> rfl
theorem Dsk.pth_run {d : Dsk} : ∀ {n : Nat} {s t : HSt} {c : Nat}, d.pth n s t c → ∃ p, p.length = n ∧ (∀ l ∈ p, l ∈ d.trs false) ∧ d.run s p = some t ∧ turnsN p = c
  | 0, s, t, c, h => by obtain ⟨rfl, rfl⟩ := h; exact ⟨[], rfl, by simp, rfl, rfl⟩
  | n + 1, s, t, c, h => by
    obtain ⟨u, a, l, h1, h2, h3, rfl⟩ := h
    obtain ⟨p, i1, i2, i3, i4⟩ := pth_run h1
    refine ⟨p ++ [l], by simp [i1], fun k hk => ?_, by rw [d.run_app, i3]; dsimp only; rw [d.run_one]; exact h3, by rw [turnsN_app, i4]; rfl⟩
    rcases List.mem_append.1 hk with h4 | h4
    · exact i2 k h4
    · rw [List.mem_singleton.1 h4]; exact h2
def Barn.stw (b : Barn) (ws : List Int) : HSt := pad ((List.range b.bins.length).map fun k => b.days (b.bins.getD k hb0) (na ws k))
theorem Barn.stw_at {b : Barn} {ws : List Int} {k : Nat} (hk : k < b.bins.length) : na (b.stw ws) k = b.days (b.bins.getD k hb0) (na ws k) := by
  unfold Barn.stw
  rw [pad_na]
  unfold na
  rw [List.getD_eq_getElem?_getD, List.getElem?_map, List.getElem?_range hk]; rfl
theorem Barn.stw_out {b : Barn} {ws : List Int} {k : Nat} (hk : b.bins.length ≤ k) : na (b.stw ws) k = 0 := by
  unfold Barn.stw
  rw [pad_na]
  unfold na
  rw [List.getD_eq_getElem?_getD, List.getElem?_eq_none (by simpa using hk)]; rfl
theorem Barn.stw_len {b : Barn} (hb : b.ok) (ws : List Int) : (b.stw ws).length = 4 := pad_len' (by simpa using hb.many.2)
theorem Barn.state_at {b : Barn} (hb : b.ok) {k : Nat} (hk : k < b.bins.length) : na b.state k = b.days (b.bins.getD k hb0) (b.bins.getD k hb0).warm := by
  obtain ⟨x, hx⟩ : ∃ x, b.bins[k]? = some x := ⟨_, List.getElem?_eq_getElem hk⟩
  rw [bin_getD hx]
  exact na_at (b.map_get hb _ hx)
theorem Barn.lasts_at {b : Barn} (hb : b.ok) {k : Nat} (hk : k < b.bins.length) : na b.lasts k = b.days (b.bins.getD k hb0) b.cool := by
  obtain ⟨x, hx⟩ : ∃ x, b.bins[k]? = some x := ⟨_, List.getElem?_eq_getElem hk⟩
  rw [bin_getD hx]
  exact na_at (b.map_get hb _ hx)
theorem Barn.warms_at {b : Barn} {k : Nat} (hk : k < b.bins.length) : na b.warms k = (b.bins.getD k hb0).warm := by
  obtain ⟨x, hx⟩ : ∃ x, b.bins[k]? = some x := ⟨_, List.getElem?_eq_getElem hk⟩
  rw [bin_getD hx]
  unfold na Barn.warms
  rw [List.getD_eq_getElem?_getD, List.getElem?_map, hx]; rfl
theorem Barn.stw_warms {b : Barn} (hb : b.ok) : b.stw b.warms = b.state := ext4 (b.stw_len hb _) (b.state_sml hb).len fun k _ => by
  rcases Nat.lt_or_ge k b.bins.length with h | h
  · rw [Barn.stw_at h, Barn.state_at hb h, Barn.warms_at h]
  · rw [Barn.stw_out h]
    unfold Barn.state
    rw [pad_na]
    unfold na
    rw [List.getD_eq_getElem?_getD, List.getElem?_eq_none (by simpa using h)]; rfl
theorem daysB_anti {r m w v : Int} (hr : 0 ≤ r) (h : w ≤ v) : daysB r m v ≤ daysB r m w := by
  unfold daysB
  by_cases h0 : r = 0
  · rw [decide_eq_true h0]; exact Int.le_refl _
  · rw [decide_eq_false h0, cond_false, cond_false]
    by_cases h1 : m < v
    · rw [decide_eq_true h1, cond_true]
      by_cases h2 : m < w
      · rw [decide_eq_true h2]; exact Int.le_refl _
      · rw [decide_eq_false h2, cond_false]; exact Int.ediv_nonneg (by omega) hr
    · rw [decide_eq_false h1, cond_false, decide_eq_false (by omega), cond_false]
      exact Int.ediv_le_ediv (by omega) (by omega)
theorem daysB_min {r m w c : Int} (hr : 0 ≤ r) : max (daysB r m w) (daysB r m c) = daysB r m (min w c) := by
  rcases Int.le_total w c with h | h
  · have := daysB_anti (m := m) hr h
    rw [Int.min_eq_left h]; omega
  · have := daysB_anti (m := m) hr h
    rw [Int.min_eq_right h]; omega
theorem daysB_hot {r m w : Int} (hr : 0 < r) (hw : w ≤ m) (h : m < w + r) : daysB r m w = 0 := by
  unfold daysB
  rw [decide_eq_false (by omega), cond_false, decide_eq_false (by omega), cond_false]
  exact Int.ediv_eq_zero_of_lt (by omega) (by omega)
theorem daysB_day {r m w : Int} (hr : 0 < r) (h : w + r ≤ m) : daysB r m (w + r) = daysB r m w - 1 ∧ 1 ≤ daysB r m w := by
  have e : daysB r m w = daysB r m (w + r) + 1 := by
    unfold daysB
    rw [decide_eq_false (by omega), cond_false, cond_false, decide_eq_false (by omega), cond_false, decide_eq_false (by omega), cond_false]
    rw [show m - w = (m - (w + r)) + 1 * r by omega, Int.add_mul_ediv_right _ _ (by omega)]
  have : 0 ≤ daysB r m (w + r) := by
    unfold daysB
    rw [decide_eq_false (by omega), cond_false, decide_eq_false (by omega), cond_false]
    exact Int.ediv_nonneg (by omega) (by omega)
  omega
theorem has_il (l : List Nat) (k : Nat) : hasI (il l) (k : Int) = decide (k ∈ l) := by
  rw [Bool.eq_iff_iff, decide_eq_true_eq]
  unfold hasI il
  rw [List.any_eq_true]
  constructor
  · rintro ⟨y, hy, he⟩
    obtain ⟨j, hj, rfl⟩ := List.mem_map.1 hy
    have := of_decide_eq_true he
    obtain rfl : k = j := by omega
    exact hj
  · intro h; exact ⟨(k : Int), List.mem_map.2 ⟨k, h, rfl⟩, decide_eq_true rfl⟩
theorem Barn.bin_at {b : Barn} (hb : b.ok) {k : Nat} (hk : k < b.bins.length) : b.bins.getD k hb0 ∈ b.bins := by
  rw [List.getD_eq_getElem?_getD, List.getElem?_eq_getElem hk]; exact List.getElem_mem hk
theorem Barn.mid_of {b : Barn} (hb : b.ok) {ws : List Int} (l : List Nat) {k : Nat} (hk : k < b.bins.length) : b.dsk.mid (b.stw ws) l k = b.days (b.bins.getD k hb0) (bif hasI (il l) k then min (na ws k) b.cool else na ws k) := by
  have hr := b.worst_range hb (Barn.bin_at hb hk)
  unfold Dsk.mid
  rw [has_il, Barn.stw_at hk, show na b.dsk.lasts k = _ from Barn.lasts_at hb hk]
  by_cases h : k ∈ l
  · rw [if_pos h, decide_eq_true h, cond_true]; exact daysB_min (by omega)
  · rw [if_neg h, decide_eq_false h, cond_false]
theorem Barn.run_day {b : Barn} (hb : b.ok) {ws : List Int} (hw : Cool b ws) {l : List Nat} (hl : ∀ k ∈ l, k < b.bins.length) :
    ((∀ k < b.bins.length, b.hotAt ws (il l) k = false) → b.dsk.next (b.stw ws) l = some (b.stw (b.dayW ws (il l)))) ∧ (∀ k < b.bins.length, b.hotAt ws (il l) k = true → b.dsk.next (b.stw ws) l = none) := by
  have hn := hb.many
  have key : ∀ k < b.bins.length, ∃ r m v, (r = 0 ∨ 6 ≤ r) ∧ v ≤ m ∧ m ≤ 60 ∧ 0 ≤ v ∧ b.dsk.mid (b.stw ws) l k = daysB r m v ∧ (b.hotAt ws (il l) k = decide (m < v + r)) ∧ na (b.stw (b.dayW ws (il l))) k = daysB r m (v + r) := fun k hk => by
    have hm := Barn.bin_at hb hk
    have hr := b.worst_range hb hm
    obtain ⟨x, hx⟩ : ∃ x, b.bins[k]? = some x := ⟨_, List.getElem?_eq_getElem hk⟩
    have hc := hw.at_ k x hx
    have hcl := hb.cool
    have hmk := (hb.bins x (List.mem_of_getElem? hx)).1
    have e1 := Barn.mid_of hb (ws := ws) l hk
    rw [bin_getD hx] at e1 hr
    refine ⟨b.worst x, x.mark, bif hasI (il l) k then min (na ws k) b.cool else na ws k, by omega, ?_, by omega, ?_, e1, ?_, ?_⟩
    · cases hasI (il l) k <;> simp only [cond_true, cond_false] <;> omega
    · cases hasI (il l) k <;> simp only [cond_true, cond_false] <;> omega
    · unfold Barn.hotAt; rw [bin_getD hx, b.wdAt_of hx]; rfl
    · rw [Barn.stw_at hk, na_at (b.dayW_at hk), b.wdAt_of hx, bin_getD hx]; rfl
  constructor
  · intro hcold
    obtain ⟨t, ht⟩ := b.dsk.next_some hn.2 (b.stw_len hb ws) hl (fun k hk => by
      obtain ⟨r, m, v, h1, h2, h3, h4, h5, h6, h7⟩ := key k hk
      rw [h5]
      rcases h1 with rfl | h1
      · exact .inl rfl
      · have h8 := hcold k hk
        rw [h6, decide_eq_false_iff_not] at h8
        exact .inr (daysB_day (by omega) (by omega)).2)
    rw [ht]
    congr 1
    obtain ⟨t1, t2⟩ := b.dsk.next_at hn.2 (b.stw_len hb ws) hl ht
    refine ext4 t1 (b.stw_len hb _) fun k _ => ?_
    rw [(t2 k).2]
    rcases Nat.lt_or_ge k b.bins.length with hk | hk
    · obtain ⟨r, m, v, h1, h2, h3, h4, h5, h6, h7⟩ := key k hk
      rw [h7, h5]
      rcases h1 with rfl | h1
      · rw [if_neg (by intro h; exact h.2 rfl)]; rfl
      · have h8 := hcold k hk
        rw [h6, decide_eq_false_iff_not] at h8
        have h9 := daysB_day (r := r) (m := m) (w := v) (by omega) (by omega)
        have h10 : daysB r m v ≤ 60 := by
          unfold daysB
          rw [decide_eq_false (by omega), cond_false, decide_eq_false (by omega), cond_false]
          exact Int.le_trans (Int.ediv_le_self _ (by omega)) (by omega)
        rw [if_pos ⟨hk, by omega⟩, h9.1]
    · rw [if_neg (by intro h; have : k < b.bins.length := h.1; omega), Barn.stw_out hk]
      unfold Dsk.mid
      rw [if_neg (fun h => by have := hl k h; omega), Barn.stw_out hk]
  · intro k hk hhot
    cases hnx : b.dsk.next (b.stw ws) l with
    | none => rfl
    | some t =>
      exfalso
      have h8 := ((b.dsk.next_at hn.2 (b.stw_len hb ws) hl hnx).2 k).1 hk
      obtain ⟨r, m, v, h1, h2, h3, h4, h5, h6, h7⟩ := key k hk
      rw [h6, decide_eq_true_eq] at hhot
      have h9 := daysB_hot (r := r) (m := m) (w := v) (by omega) h2 hhot
      rw [h5, h9] at h8
      omega
theorem Barn.run_burns {b : Barn} (hb : b.ok) : ∀ (p : List (List Nat)) (ws : List Int) (d0 : Nat), Cool b ws → (∀ l ∈ p, ∀ k ∈ l, k < b.bins.length) →
    (∃ ws', b.burnsF ws (p.map il) d0 = (none, ws') ∧ b.dsk.run (b.stw ws) p = some (b.stw ws') ∧ Cool b ws') ∨ (∃ q ws', b.burnsF ws (p.map il) d0 = (some q, ws') ∧ b.dsk.run (b.stw ws) p = none)
  | [], ws, d0, hc, _ => .inl ⟨ws, rfl, rfl, hc⟩
  | l :: p, ws, d0, hc, hl => by
    obtain ⟨r1, r2⟩ := Barn.run_day hb hc (hl l (by simp))
    rw [List.map_cons, b.burns_cons]
    cases hf : (List.range b.bins.length).find? (b.hotAt ws (il l)) with
    | some k =>
      rw [List.find?_range_eq_some] at hf
      refine .inr ⟨_, _, rfl, ?_⟩
      unfold Dsk.run
      rw [r2 k (List.mem_range.1 hf.2.1) hf.1]
    | none =>
      have hn : ∀ k < b.bins.length, b.hotAt ws (il l) k = false := fun k hk => by
        have := List.find?_eq_none.1 hf k (List.mem_range.2 hk)
        simpa using this
      dsimp only
      unfold Dsk.run
      rw [r1 hn]
      exact run_burns hb p _ (d0 + 1) (hc.next hb hn) (fun m hm => hl m (by simp [hm]))
theorem Dsk.trs_four {d : Dsk} (hd : d.ok) {l : List Nat} (h : l ∈ d.trs false) : l.length ≤ 4 := trs_len4 hd h
theorem Dsk.pth_le {d : Dsk} (hd : d.ok) : ∀ {n : Nat} {s t : HSt} {c : Nat}, d.pth n s t c → c ≤ 4 * n
  | 0, s, t, c, h => by obtain ⟨_, rfl⟩ := h; omega
  | n + 1, s, t, c, h => by
    obtain ⟨u, a, l, h1, h2, _, rfl⟩ := h
    have := pth_le hd h1
    have := d.trs_four hd h2
    omega
def Sxc (n : Nat) (g : Int) (la : List Int) (now : List (List Int)) (cs : List Int) (i u : Nat) (t : List Int) (x : Int) : Prop := ∃ j s v a, now[j]? = some s ∧ cs[j]? = some a ∧ (j < i ∨ (j = i ∧ v < u)) ∧ v < 2 ^ n ∧ rS n g la s v = some t ∧ x = a + ((bitl 4 v).length : Int)
theorem Sxc.sx {n : Nat} {g : Int} {la : List Int} {now : List (List Int)} {cs : List Int} {i u : Nat} {t : List Int} {x : Int} (h : Sxc n g la now cs i u t x) : Sx n g la now i u t := by
  obtain ⟨j, s, v, a, h1, _, h3, h4, h5, _⟩ := h
  exact ⟨j, s, v, h1, h3, h4, h5⟩
theorem Sxc.step {n : Nat} {g : Int} {la s t : List Int} {now : List (List Int)} {cs : List Int} {i u : Nat} {a x : Int} (hs : now[i]? = some s) (ha : cs[i]? = some a) (hu : u < 2 ^ n) : Sxc n g la now cs i (u + 1) t x ↔ Sxc n g la now cs i u t x ∨ (rS n g la s u = some t ∧ x = a + ((bitl 4 u).length : Int)) := by
  constructor
  · rintro ⟨j, s', v, a', h1, h2, h3, h4, h5, h6⟩
    rcases h3 with h3 | ⟨rfl, h3⟩
    · exact .inl ⟨j, s', v, a', h1, h2, .inl h3, h4, h5, h6⟩
    · rcases Nat.lt_or_ge v u with h7 | h7
      · exact .inl ⟨j, s', v, a', h1, h2, .inr ⟨rfl, h7⟩, h4, h5, h6⟩
      · obtain rfl : v = u := by omega
        rw [hs] at h1; cases h1; rw [ha] at h2; cases h2; exact .inr ⟨h5, h6⟩
  · rintro (⟨j, s', v, a', h1, h2, h3, h4, h5, h6⟩ | ⟨h5, h6⟩)
    · exact ⟨j, s', v, a', h1, h2, by omega, h4, h5, h6⟩
    · exact ⟨i, s, u, a, hs, ha, by omega, hu, h5, h6⟩
theorem Sxc.next {n : Nat} {g : Int} {la t : List Int} {now : List (List Int)} {cs : List Int} {i : Nat} {x : Int} : Sxc n g la now cs (i + 1) 0 t x ↔ Sxc n g la now cs i (2 ^ n) t x := by
  constructor
  · rintro ⟨j, s', v, a, h1, h2, h3, h4, h5⟩
    exact ⟨j, s', v, a, h1, h2, by omega, h4, h5⟩
  · rintro ⟨j, s', v, a, h1, h2, h3, h4, h5⟩
    exact ⟨j, s', v, a, h1, h2, by omega, h4, h5⟩
structure Bc (n : Nat) (g : Int) (la : List Int) (now : List (List Int)) (cs : List Int) (i u : Nat) (L : List (List Int)) (S : List Int) : Prop where
  bf : Bf n g la now i u L
  len : S.length = L.length
  val : ∀ (j : Nat) (t : List Int) (x : Int), L[j]? = some t → S[j]? = some x → Sxc n g la now cs i u t x ∧ ∀ y, Sxc n g la now cs i u t y → x ≤ y
theorem Bc.start {n : Nat} {g : Int} {la : List Int} {now : List (List Int)} {cs : List Int} : Bc n g la now cs 0 0 [] [] := ⟨Bf.start, rfl, fun j t x h => by simp at h⟩
theorem Bc.next {n : Nat} {g : Int} {la : List Int} {now : List (List Int)} {cs : List Int} {i : Nat} {L : List (List Int)} {S : List Int} (h : Bc n g la now cs i (2 ^ n) L S) : Bc n g la now cs (i + 1) 0 L S :=
  ⟨h.bf.next, h.len, fun j t x h1 h2 => by
    obtain ⟨h3, h4⟩ := h.val j t x h1 h2
    exact ⟨Sxc.next.2 h3, fun y hy => h4 y (Sxc.next.1 hy)⟩⟩
theorem Bc.skip {n : Nat} {g : Int} {la s : List Int} {now : List (List Int)} {cs : List Int} {i u : Nat} {L : List (List Int)} {S : List Int} {a : Int} (h : Bc n g la now cs i u L S) (hs : now[i]? = some s) (ha : cs[i]? = some a) (hu : u < 2 ^ n) (hn : rS n g la s u = none) : Bc n g la now cs i (u + 1) L S :=
  ⟨h.bf.skip hs hu (fun t ht => by rw [hn] at ht; cases ht), h.len, fun j t x h1 h2 => by
    obtain ⟨h3, h4⟩ := h.val j t x h1 h2
    refine ⟨(Sxc.step hs ha hu).2 (.inl h3), fun y hy => ?_⟩
    rcases (Sxc.step hs ha hu).1 hy with h5 | ⟨h5, _⟩
    · exact h4 y h5
    · rw [hn] at h5; cases h5⟩
theorem Bc.add {n : Nat} {g : Int} {la s t : List Int} {now : List (List Int)} {cs : List Int} {i u : Nat} {L : List (List Int)} {S : List Int} {a : Int} (h : Bc n g la now cs i u L S) (hs : now[i]? = some s) (ha : cs[i]? = some a) (hu : u < 2 ^ n) (ht : rS n g la s u = some t) (hn : t ∉ L) :
    Bc n g la now cs i (u + 1) (L ++ [t]) (S ++ [a + ((bitl 4 u).length : Int)]) where
  bf := h.bf.add hs hu ht hn
  len := by rw [List.length_append, List.length_append, h.len]; rfl
  val j t' x h1 h2 := by
    have hl := h.len
    rcases Nat.lt_or_ge j L.length with hj | hj
    · rw [List.getElem?_append_left hj] at h1
      rw [List.getElem?_append_left (by omega)] at h2
      obtain ⟨h3, h4⟩ := h.val j t' x h1 h2
      refine ⟨(Sxc.step hs ha hu).2 (.inl h3), fun y hy => ?_⟩
      rcases (Sxc.step hs ha hu).1 hy with h5 | ⟨h5, _⟩
      · exact h4 y h5
      · rw [ht] at h5; cases h5; exact absurd (List.mem_of_getElem? h1) hn
    · have hj2 := (List.getElem?_eq_some_iff.1 h1).1
      rw [List.length_append, List.length_singleton] at hj2
      obtain rfl : j = L.length := by omega
      rw [List.getElem?_append_right (Nat.le_refl _), Nat.sub_self] at h1
      rw [← hl, List.getElem?_append_right (Nat.le_refl _), Nat.sub_self] at h2
      cases h1; cases h2
      refine ⟨(Sxc.step hs ha hu).2 (.inr ⟨ht, rfl⟩), fun y hy => ?_⟩
      rcases (Sxc.step hs ha hu).1 hy with h5 | ⟨_, h5⟩
      · exact absurd ((h.bf.mem _).2 h5.sx) hn
      · rw [h5]; exact Int.le_refl _
theorem Bc.low {n : Nat} {g : Int} {la s t : List Int} {now : List (List Int)} {cs : List Int} {i u k : Nat} {L : List (List Int)} {S : List Int} {a x : Int} (h : Bc n g la now cs i u L S) (hs : now[i]? = some s) (ha : cs[i]? = some a) (hu : u < 2 ^ n) (ht : rS n g la s u = some t) (hk : L[k]? = some t) (hx : S[k]? = some x) :
    Bc n g la now cs i (u + 1) L (S.set k (min x (a + ((bitl 4 u).length : Int)))) where
  bf := h.bf.skip hs hu (fun t2 ht2 => by rw [ht] at ht2; cases ht2; exact List.mem_of_getElem? hk)
  len := by rw [List.length_set, h.len]
  val j t' y h1 h2 := by
    have hl := h.len
    have hkl := (List.getElem?_eq_some_iff.1 hk).1
    by_cases hj : k = j
    · subst hj
      rw [hk] at h1; cases h1
      rw [List.getElem?_set_self (by omega)] at h2; cases h2
      obtain ⟨h3, h4⟩ := h.val k t x hk hx
      refine ⟨(Sxc.step hs ha hu).2 ?_, fun y hy => ?_⟩
      · rcases Int.le_total x (a + ((bitl 4 u).length : Int)) with h5 | h5
        · rw [Int.min_eq_left h5]; exact .inl h3
        · rw [Int.min_eq_right h5]; exact .inr ⟨ht, rfl⟩
      · rcases (Sxc.step hs ha hu).1 hy with h5 | ⟨_, h5⟩
        · have := h4 y h5; omega
        · omega
    · rw [List.getElem?_set_ne hj] at h2
      obtain ⟨h3, h4⟩ := h.val j t' y h1 h2
      refine ⟨(Sxc.step hs ha hu).2 (.inl h3), fun z hz => ?_⟩
      rcases (Sxc.step hs ha hu).1 hz with h5 | ⟨h5, _⟩
      · exact h4 z h5
      · rw [ht] at h5; cases h5
        exact absurd ((List.getElem?_inj hkl h.bf.nd).1 (hk.trans h1.symm)) hj
structure Lvc (d : Dsk) (s0 : HSt) (day : Nat) (L : List (List Int)) (C : List Int) : Prop where
  lv : Lv d s0 day L
  len : C.length = L.length
  val : ∀ (j : Nat) (t : List Int) (x : Int), L[j]? = some t → C[j]? = some x → ∃ c : Nat, x = c ∧ d.pth day s0 (pad t) c ∧ ∀ c', d.pth day s0 (pad t) c' → c ≤ c'
theorem Lvc.start {d : Dsk} {s : List Int} (hs : s.length = d.n) : Lvc d (pad s) 0 [s] [0] := ⟨Lv.start hs, rfl, fun j t x h1 h2 => by
  cases j with
  | succ j => simp at h1
  | zero => cases h1; cases h2; exact ⟨0, rfl, ⟨rfl, rfl⟩, fun c' _ => Nat.zero_le _⟩⟩
theorem Lvc.next {d : Dsk} (hd : d.ok) {s0 : HSt} (h0 : d.inS s0) {la : List Int} (hla : ∀ k < d.n, na la k = na d.lasts k) {day : Nat} {now L : List (List Int)} {cs S : List Int} (h : Lvc d s0 day now cs) (hb : Bc d.n d.gangs la now cs now.length 0 L S) : Lvc d s0 (day + 1) L S where
  lv := h.lv.next hd h0 hla hb.bf
  len := hb.len
  val j t x h1 h2 := by
    have hn := hd.n
    have htl := hb.bf.len t (List.mem_of_getElem? h1)
    obtain ⟨⟨i, s, v, a, g1, g2, _, g4, g5, rfl⟩, h4⟩ := hb.val j t x h1 h2
    obtain ⟨ca, rfl, hp, _⟩ := h.val i s a g1 g2
    have hsl := h.lv.len s (List.mem_of_getElem? g1)
    obtain ⟨k1, k2⟩ := (rS_iff hd hla hsl htl g4).1 g5
    have e4 := ones_eq hn.2 g4
    refine ⟨ca + (bitl d.n v).length, by rw [e4]; push_cast; rfl, ⟨_, ca, _, hp, k1, k2, rfl⟩, fun c' hc' => ?_⟩
    obtain ⟨u, a', l, p1, p2, p3, rfl⟩ := hc'
    have hu := d.pth_inS hd h0 p1
    have eu := inS_pad hd hu
    have hul : (u.take d.n).length = d.n := by rw [List.length_take, hu.len]; omega
    have hmem : u.take d.n ∈ now := (h.lv.mem _ hul).2 ⟨a', by rw [eu]; exact p1⟩
    obtain ⟨i2, hi2⟩ := List.getElem?_of_mem hmem
    have hi2l := (List.getElem?_eq_some_iff.1 hi2).1
    obtain ⟨y, hy⟩ : ∃ y, cs[i2]? = some y := ⟨_, List.getElem?_eq_getElem (by rw [h.len]; exact hi2l)⟩
    obtain ⟨cy, rfl, _, hmin⟩ := h.val i2 _ y hi2 hy
    rw [eu] at hmin
    have := hmin a' p1
    obtain ⟨w, hw, rfl, _⟩ := d.mem_trs.1 p2
    have e5 := ones_eq hn.2 hw
    have := h4 _ ⟨i2, _, w, _, hi2, hy, .inl hi2l, hw, (rS_iff hd hla hul htl hw).2 ⟨p2, by rw [eu]; exact p3⟩, rfl⟩
    omega
theorem Lvc.few {d : Dsk} (hd : d.ok) {s0 : HSt} (h0 : d.inS s0) {day : Nat} {L : List (List Int)} {C : List Int} (h : Lvc d s0 day L C) {j : Nat} {x : Int} (hx : C[j]? = some x) (hm : ∀ (i : Nat) (y : Int), C[i]? = some y → x ≤ y) : ∃ c : Nat, x = c ∧ FewC d s0 day c := by
  have hj := (List.getElem?_eq_some_iff.1 hx).1
  have hl := h.len
  obtain ⟨t, ht⟩ : ∃ t, L[j]? = some t := ⟨_, List.getElem?_eq_getElem (by omega)⟩
  obtain ⟨c, rfl, hp, _⟩ := h.val j t x ht hx
  refine ⟨c, rfl, ⟨_, hp⟩, fun u c' hu => ?_⟩
  have hi := d.pth_inS hd h0 hu
  have eu := inS_pad hd hi
  have hn := hd.n
  have hmem : u.take d.n ∈ L := (h.lv.mem _ (by rw [List.length_take, hi.len]; omega)).2 ⟨c', by rw [eu]; exact hu⟩
  obtain ⟨i2, hi2⟩ := List.getElem?_of_mem hmem
  have hi2l := (List.getElem?_eq_some_iff.1 hi2).1
  obtain ⟨y, hy⟩ : ∃ y, C[i2]? = some y := ⟨_, List.getElem?_eq_getElem (by omega)⟩
  obtain ⟨cy, rfl, _, hmin⟩ := h.val i2 _ y hi2 hy
  rw [eu] at hmin
  have := hmin c' hu
  have := hm i2 _ hy
  omega
theorem Lvc.none {d : Dsk} (hd : d.ok) {s0 : HSt} (h0 : d.inS s0) {day : Nat} {L : List (List Int)} {C : List Int} (h : Lvc d s0 day L C) (hc : C = []) : ¬ ∃ t c, d.pth day s0 t c := by
  rintro ⟨u, c', hu⟩
  have hi := d.pth_inS hd h0 hu
  have eu := inS_pad hd hi
  have hn := hd.n
  have hmem : u.take d.n ∈ L := (h.lv.mem _ (by rw [List.length_take, hi.len]; omega)).2 ⟨c', by rw [eu]; exact hu⟩
  have hl := h.len
  rw [hc] at hl
  rw [List.length_eq_zero_iff.1 hl.symm] at hmem
  cases hmem
theorem Lvc.bd {d : Dsk} (hd : d.ok) {s0 : HSt} {day : Nat} {L : List (List Int)} {C : List Int} (h : Lvc d s0 day L C) {j : Nat} {x : Int} (hx : C[j]? = some x) : 0 ≤ x ∧ x ≤ 4 * (day : Int) := by
  have hj := (List.getElem?_eq_some_iff.1 hx).1
  have hl := h.len
  obtain ⟨t, ht⟩ : ∃ t, L[j]? = some t := ⟨_, List.getElem?_eq_getElem (by omega)⟩
  obtain ⟨c, rfl, hp, _⟩ := h.val j t x ht hx
  have := d.pth_le hd hp
  omega
theorem Bc.bd {n : Nat} {g : Int} {la : List Int} {now : List (List Int)} {cs : List Int} {i u : Nat} {L : List (List Int)} {S : List Int} {B : Int} (h : Bc n g la now cs i u L S) (hc : ∀ (j : Nat) (x : Int), cs[j]? = some x → 0 ≤ x ∧ x ≤ B) {j : Nat} {x : Int} (hx : S[j]? = some x) : 0 ≤ x ∧ x ≤ B + 4 := by
  have hj := (List.getElem?_eq_some_iff.1 hx).1
  have hl := h.len
  obtain ⟨t, ht⟩ : ∃ t, L[j]? = some t := ⟨_, List.getElem?_eq_getElem (by omega)⟩
  obtain ⟨⟨i, s, v, a, _, g2, _, _, _, rfl⟩, _⟩ := h.val j t x ht hx
  have := hc _ _ g2
  have := ones_le v
  omega
def RTurn (b : Barn) (n : Nat) (m : Int) : Prop := (m = -1 ∧ ¬ ∃ t c, b.dsk.pth n b.state t c) ∨ ∃ c : Nat, m = c ∧ FewC b.dsk b.state n c
def MinI (cs : List Int) (i : Nat) (m : Int) : Prop := (i = 0 ∧ m = -1) ∨ (0 < i ∧ 0 ≤ m ∧ (∃ j : Nat, cs[j]? = some m) ∧ ∀ (j : Nat) (x : Int), j < i → cs[j]? = some x → m ≤ x)
theorem MinI.take {cs : List Int} {i : Nat} {m x : Int} (h : MinI cs i m) (hx : cs[i]? = some x) (h0 : 0 ≤ x) (hc : m < 0 ∨ x < m) : MinI cs (i + 1) x := by
  refine .inr ⟨by omega, h0, ⟨i, hx⟩, fun j y hj hy => ?_⟩
  rcases Nat.lt_or_ge j i with h1 | h1
  · rcases h with ⟨rfl, _⟩ | ⟨_, h2, _, h3⟩
    · omega
    · have := h3 j y h1 hy; omega
  · obtain rfl : j = i := by omega
    rw [hx] at hy; cases hy; exact Int.le_refl _
theorem MinI.keep {cs : List Int} {i : Nat} {m x : Int} (h : MinI cs i m) (hx : cs[i]? = some x) (h0 : ¬ m < 0) (hc : ¬ x < m) : MinI cs (i + 1) m := by
  rcases h with ⟨_, rfl⟩ | ⟨h1, h2, h3, h4⟩
  · omega
  · refine .inr ⟨by omega, h2, h3, fun j y hj hy => ?_⟩
    rcases Nat.lt_or_ge j i with h5 | h5
    · exact h4 j y h5 hy
    · obtain rfl : j = i := by omega
      rw [hx] at hy; cases hy; omega
theorem MinI.done {b : Barn} (hok : b.ok) {n : Nat} {L : List (List Int)} {cs : List Int} (h : Lvc b.dsk b.state n L cs) {m : Int} (hm : MinI cs cs.length m) : RTurn b n m := by
  have hdk := b.dsk_ok hok
  have hst := b.state_inS hok
  rcases hm with ⟨h1, rfl⟩ | ⟨_, _, ⟨j, hj⟩, h4⟩
  · exact .inl ⟨rfl, h.none hdk hst (List.length_eq_zero_iff.1 h1)⟩
  · exact .inr (h.few hdk hst hj fun i y hy => h4 i y (List.getElem?_eq_some_iff.1 hy).1 hy)
end Go.Proofs.Ytelegnmfhjfbaaa
namespace Go.Proofs.Ytelegnmfhjfbaaa
set_option linter.unusedSimpArgs false
set_option linter.unusedVariables false
open Go
structure Les (d d' : Dsk) : Prop where
  n : d.n = d'.n
  g : d.gangs ≤ d'.gangs
  lasts : ∀ k < d.n, na d.lasts k ≤ na d'.lasts k
theorem Les.next {d d' : Dsk} (h : Les d d') (hd : d.ok) (hd' : d'.ok) {s s' t : HSt} (hs : d.inS s) (hs' : d'.inS s') (hle : ∀ k < d.n, na s k ≤ na s' k) {l : List Nat} (hl : ∀ k ∈ l, k < d.n) (e : d.next s l = some t) : ∃ t', d'.next s' l = some t' ∧ ∀ k < d.n, na t k ≤ na t' k := by
  have hn := h.n
  obtain ⟨_, h2⟩ := d.next_at hd.n.2 hs.len hl e
  have hl' : ∀ k ∈ l, k < d'.n := fun k hk => by have := hl k hk; omega
  have hm : ∀ k < d.n, d.mid s l k ≤ d'.mid s' l k := fun k hk => by
    have h4 := hle k hk
    have h5 := h.lasts k hk
    unfold Dsk.mid
    by_cases h3 : k ∈ l
    · rw [if_pos h3, if_pos h3]; omega
    · rw [if_neg h3, if_neg h3]; exact h4
  obtain ⟨t', ht'⟩ := d'.next_some hd'.n.2 hs'.len hl' (fun k hk => by
    have hk0 : k < d.n := by omega
    have := hm k hk0; have := (h2 k).1 hk0; have := d.inS_mid hd hs l hk0; have := d'.inS_mid hd' hs' l hk; have := (hd.ever k hk0).2.1; have := (hd'.ever k hk).2.1; omega)
  refine ⟨t', ht', fun k hk => ?_⟩
  have hk' : k < d'.n := by omega
  obtain ⟨_, h3⟩ := d'.next_at hd'.n.2 hs'.len hl' ht'
  have a1 := (h2 k).2; have a2 := (h3 k).2
  have := hm k hk
  have b1 := d.inS_mid hd hs l hk; have b2 := d'.inS_mid hd' hs' l hk'
  have := (hd.ever k hk).2.1; have := (hd'.ever k hk').2.1
  rw [a1, a2]
  split <;> split <;> omega
theorem Les.trs {d d' : Dsk} (h : Les d d') {l : List Nat} (hl : l ∈ d.trs false) : l ∈ d'.trs false := by
  obtain ⟨u, hu, rfl, h1, _⟩ := d.mem_trs.1 hl
  have hn := h.n; have hg := h.g
  refine d'.mem_trs.2 ⟨u, by rw [← hn]; exact hu, by rw [← hn], ?_, fun h => by cases h⟩
  unfold Dsk.g at h1 ⊢
  omega
theorem Les.pth {d d' : Dsk} (h : Les d d') (hd : d.ok) (hd' : d'.ok) {s s' : HSt} (hs : d.inS s) (hs' : d'.inS s') (hle : ∀ k < d.n, na s k ≤ na s' k) : ∀ {n : Nat} {t : HSt} {c : Nat}, d.pth n s t c → ∃ t', d'.pth n s' t' c ∧ ∀ k < d.n, na t k ≤ na t' k
  | 0, t, c, hp => by obtain ⟨rfl, rfl⟩ := hp; exact ⟨s', ⟨rfl, rfl⟩, hle⟩
  | n + 1, t, c, hp => by
    obtain ⟨u, a, l, h1, h2, h3, rfl⟩ := hp
    obtain ⟨u', i1, i2⟩ := Les.pth h hd hd' hs hs' hle h1
    obtain ⟨t', j1, j2⟩ := h.next hd hd' (d.pth_inS hd hs h1) (d'.pth_inS hd' hs' i1) i2 (d.trs_lt h2) h3
    exact ⟨t', ⟨u', a, l, i1, h.trs h2, j1, rfl⟩, j2⟩
theorem Les.run {d d' : Dsk} (h : Les d d') (hd : d.ok) (hd' : d'.ok) : ∀ {p : List (List Nat)} {s s' t : HSt}, d.inS s → d'.inS s' → (∀ k < d.n, na s k ≤ na s' k) → (∀ l ∈ p, l ∈ d.trs false) → d.run s p = some t → ∃ t', d'.run s' p = some t' ∧ ∀ k < d.n, na t k ≤ na t' k
  | [], s, s', t, _, _, hle, _, hr => by cases hr; exact ⟨s', rfl, hle⟩
  | l :: p, s, s', t, hs, hs', hle, hp, hr => by
    unfold Dsk.run at hr
    split at hr
    · cases hr
    · rename_i u hu
      obtain ⟨u', j1, j2⟩ := h.next hd hd' hs hs' hle (d.trs_lt (hp l (by simp))) hu
      have hlt := d'.trs_lt (h.trs (hp l (by simp)))
      obtain ⟨t', i1, i2⟩ := Les.run h hd hd' (d.next_inS hd hs (d.trs_lt (hp l (by simp))) hu) (d'.next_inS hd' hs' hlt j1) j2 (fun m hm => hp m (by simp [hm])) hr
      refine ⟨t', ?_, i2⟩
      unfold Dsk.run
      rw [j1]; exact i1
theorem kpt_pth {d : Dsk} (hd : d.ok) {s : HSt} (hs : d.inS s) {v : Int} (h : Kpt d s v) (n : Nat) : (∃ t c, d.pth n s t c) ↔ v = 1000000 ∨ (n : Int) ≤ v := by
  rw [← d.alive_iff hd hs]
  rcases h with ⟨rfl, h1⟩ | ⟨j, hj, rfl, h1, h2⟩
  · exact ⟨fun _ => .inl rfl, fun _ => h1 n⟩
  · constructor
    · intro h3
      right
      rcases Nat.lt_or_ge j n with h4 | h4
      · exact absurd (d.alive_le (by omega) h3) h2
      · omega
    · rintro (h3 | h3)
      · omega
      · exact d.alive_le (by omega) h1
theorem kpt_nn {d : Dsk} {s : HSt} {v : Int} (h : Kpt d s v) : 0 ≤ v ∧ (v = 1000000 ∨ v ≤ 14641) := by
  rcases h with ⟨rfl, _⟩ | ⟨j, hj, rfl, _⟩ <;> omega
theorem kpt_le {d d' : Dsk} (hd : d.ok) (hd' : d'.ok) {s s' : HSt} (hs : d.inS s) (hs' : d'.inS s') (hp : ∀ n, (∃ t c, d.pth n s t c) → ∃ t c, d'.pth n s' t c) {v v' : Int} (h : Kpt d s v) (h' : Kpt d' s' v') : v ≤ v' ∧ (v = 1000000 → v' = 1000000) := by
  have n1 := kpt_nn h; have n2 := kpt_nn h'
  have key : ∀ n : Nat, (v = 1000000 ∨ (n : Int) ≤ v) → (v' = 1000000 ∨ (n : Int) ≤ v') := fun n hn => (kpt_pth hd' hs' h' n).1 (hp n ((kpt_pth hd hs h n).2 hn))
  rcases Int.lt_or_le v' 1000000 with h1 | h1
  · have h2 := key (v'.toNat + 1)
    have h3 := key v.toNat
    omega
  · omega
theorem Les.kpt {d d' : Dsk} (h : Les d d') (hd : d.ok) (hd' : d'.ok) {s s' : HSt} (hs : d.inS s) (hs' : d'.inS s') (hle : ∀ k < d.n, na s k ≤ na s' k) {v v' : Int} (hv : Kpt d s v) (hv' : Kpt d' s' v') : v ≤ v' ∧ (v = 1000000 → v' = 1000000) :=
  kpt_le hd hd' hs hs' (fun _ ⟨_, c, hp⟩ => by obtain ⟨t', i, _⟩ := h.pth hd hd' hs hs' hle hp; exact ⟨t', c, i⟩) hv hv'
theorem Les.few {d d' : Dsk} (h : Les d d') (hd : d.ok) (hd' : d'.ok) {s s' : HSt} (hs : d.inS s) (hs' : d'.inS s') (hle : ∀ k < d.n, na s k ≤ na s' k) {n c c' : Nat} (hc : FewC d s n c) (hc' : FewC d' s' n c') : c' ≤ c := by
  obtain ⟨t, ht⟩ := hc.is
  obtain ⟨t', i, _⟩ := h.pth hd hd' hs hs' hle ht
  exact hc'.le _ _ i
end Go.Proofs.Ytelegnmfhjfbaaa
namespace Go.Proofs.Ytelegnmfhjfbaaa
set_option linter.unusedSimpArgs false
set_option linter.unusedVariables false
open Go
theorem cn123 : cellN Try.prog 123 = some 1 := by kernel_rfl
theorem zl123 : zeroL Try.prog 123 = some ([.pointer none]) := by kernel_rfl
structure RndOk (b : Barn) (p q : List (List Nat)) : Prop where
  hp : ∀ l ∈ p, l ∈ b.dsk.trs true
  hq : ∀ l ∈ q, l ∈ b.dsk.trs true
  ne : q ≠ []
  len : p.length + q.length ≤ 14641
  run : ∃ u, b.dsk.run b.state p = some u ∧ b.dsk.run u q = some u
theorem Dsk.run_rep {d : Dsk} {u : HSt} {q : List (List Nat)} (h : d.run u q = some u) : ∀ n, d.run u (List.replicate n q).flatten = some u
  | 0 => rfl
  | n + 1 => by
    rw [List.replicate_succ, List.flatten_cons, d.run_app, h]
    exact run_rep h n
theorem RndOk.goes {b : Barn} (hb : b.ok) {p q : List (List Nat)} (h : RndOk b p q) : b.goes (p.map il) (q.map il) := fun n => by
  obtain ⟨u, h1, h2⟩ := h.run
  have e : p.map il ++ rep n (q.map il) = (p ++ (List.replicate n q).flatten).map il := by
    unfold rep
    rw [List.map_append, List.map_flatten, List.map_replicate]
  rw [e]
  have hr : b.dsk.run (b.stw b.warms) (p ++ (List.replicate n q).flatten) = some u := by
    rw [Barn.stw_warms hb, b.dsk.run_app, h1]
    exact Dsk.run_rep h2 n
  rcases Barn.run_burns hb (p ++ (List.replicate n q).flatten) b.warms 0 (Cool.start hb) (fun l hl k hk => by
    rcases List.mem_append.1 hl with hl | hl
    · exact b.dsk.trs_lt (h.hp l hl) k hk
    · obtain ⟨r, hr, hl⟩ := List.mem_flatten.1 hl
      rw [(List.mem_replicate.1 hr).2] at hl
      exact b.dsk.trs_lt (h.hq l hl) k hk) with ⟨ws, h3, _⟩ | ⟨x, ws, _, h4⟩
  · rw [h3]
  · rw [hr] at h4; cases h4
structure Met (d : Dsk) (s0 : HSt) (S : List HSt) (p : List (List Nat)) (s : HSt) : Prop where
  len : S.length = p.length
  nd : S.Nodup
  trs : ∀ l ∈ p, l ∈ d.trs true
  at_ : ∀ j t, S[j]? = some t → d.run s0 (p.take j) = some t ∧ d.inS t
  run : d.run s0 p = some s
  inS : d.inS s
  ever : ∀ m, s ∈ d.alive m
theorem Met.start {d : Dsk} {s : HSt} (h : d.inS s) (he : ∀ m, s ∈ d.alive m) : Met d s [] [] s := ⟨rfl, List.nodup_nil, by simp, by simp, rfl, h, he⟩
theorem Met.few {d : Dsk} (hd : d.ok) {s0 s : HSt} {S : List HSt} {p : List (List Nat)} (h : Met d s0 S p s) : S.length ≤ d.nst := by
  have := nodup_len h.nd (m := d.sts) fun t ht => by
    obtain ⟨j, hj⟩ := List.getElem?_of_mem ht
    exact (d.mem_sts hd t).2 (h.at_ j t hj).2
  rw [d.sts_len] at this
  exact this
theorem Met.next {d : Dsk} (hd : d.ok) {s0 s t : HSt} {S : List HSt} {p : List (List Nat)} (h : Met d s0 S p s) (hs : s ∉ S) {l : List Nat} (hl : l ∈ d.trs true) (hn : d.next s l = some t) (he : ∀ m, t ∈ d.alive m) : Met d s0 (S ++ [s]) (p ++ [l]) t where
  len := by rw [List.length_append, List.length_append, h.len]; rfl
  nd := List.nodup_append.2 ⟨h.nd, by simp, fun x hx y hy e => hs (by rw [← List.mem_singleton.1 hy, ← e]; exact hx)⟩
  trs m hm := by
    rcases List.mem_append.1 hm with hm | hm
    · exact h.trs m hm
    · rw [List.mem_singleton.1 hm]; exact hl
  at_ j u hu := by
    have hlen := h.len
    rcases Nat.lt_or_ge j S.length with hj | hj
    · rw [List.getElem?_append_left hj] at hu
      rw [List.take_append_of_le_length (by omega)]
      exact h.at_ j u hu
    · have hj2 := (List.getElem?_eq_some_iff.1 hu).1
      rw [List.length_append, List.length_singleton] at hj2
      obtain rfl : j = S.length := by omega
      rw [List.getElem?_append_right (Nat.le_refl _), Nat.sub_self] at hu
      cases hu
      rw [hlen, List.take_left]
      exact ⟨h.run, h.inS⟩
  run := by rw [d.run_app, h.run]; dsimp only; rw [d.run_one]; exact hn
  inS := d.next_inS hd h.inS (d.trs_lt hl) hn
  ever := he
theorem Met.done {b : Barn} (hok : b.ok) {s : HSt} {S : List HSt} {p : List (List Nat)} (h : Met b.dsk b.state S p s) {j : Nat} (hj : S[j]? = some s) : RndOk b (p.take j) (p.drop j) := by
  have hjl := (List.getElem?_eq_some_iff.1 hj).1
  have hlen := h.len
  have hf := h.few (b.dsk_ok hok)
  have hn := (b.dsk.nst_le (b.dsk_ok hok)).2
  refine ⟨fun l hl => h.trs l (List.mem_of_mem_take hl), fun l hl => h.trs l (List.mem_of_mem_drop hl), fun e => ?_, ?_, s, (h.at_ j s hj).1, ?_⟩
  · have := congrArg List.length e
    rw [List.length_drop, List.length_nil] at this; omega
  · rw [List.length_take, List.length_drop]; omega
  · have h1 := h.run
    rw [← List.take_append_drop j p, b.dsk.run_app, (h.at_ j s hj).1] at h1
    exact h1
def KpF (m : Nat) (kv : KV) (w : World) : Prop := w.heap[m]? = some (mapO true kv)
theorem St.kpf {m : Nat} {kv : KV} {H : Heap} {R : Facts} {w : World} (h : St ((m, mapO true kv) :: H) R w) : St H (KpF m kv :: R) w := St.freeze h
theorem Inn.sub {l k : List PL} (h : ∀ x ∈ k, x ∈ l) {w : World} (hi : Inn l w) : Inn k w := fun x hx => hi x (h x hx)
end Go.Proofs.Ytelegnmfhjfbaaa
namespace Go.Proofs.Ytelegnmfhjfbaaa
set_option linter.unusedSimpArgs false
set_option linter.unusedVariables false
open Go
structure RWant (b : Barn) (p q : List (List Int)) (w u : Int) (g : Bool) : Prop where
  u : u = goesErr b p q
  g : g = true ↔ goesErr b p q = 0 ∧ b.goes p q
  w : (b.check ≠ 0 ∧ w = b.check) ∨ (b.check = 0 ∧ w = 0 ∧ Kpt b.dsk b.state 1000000) ∨ (b.check = 0 ∧ w = 6 ∧ ∃ v, v ≠ 1000000 ∧ Kpt b.dsk b.state v)
theorem RWant.w1 {b : Barn} {p q : List (List Int)} {w u : Int} {g : Bool} (h : RWant b p q w u g) (hc : b.check ≠ 0) : w = b.check := by
  rcases h.w with ⟨_, h2⟩ | ⟨h1, _⟩ | ⟨h1, _⟩
  · exact h2
  · exact absurd h1 hc
  · exact absurd h1 hc
theorem RWant.w2 {b : Barn} {p q : List (List Int)} {w u : Int} {g : Bool} (h : RWant b p q w u g) (hc : b.check = 0) (hk : ∃ v, v ≠ 1000000 ∧ Kpt b.dsk b.state v) : w = 6 := by
  obtain ⟨v, hv, hk⟩ := hk
  rcases h.w with ⟨h1, _⟩ | ⟨_, _, h2⟩ | ⟨_, h2, _⟩
  · exact absurd hc h1
  · exact absurd (kpt_unique hk h2) hv
  · exact h2
theorem RWant.w3 {b : Barn} {p q : List (List Int)} {w u : Int} {g : Bool} (h : RWant b p q w u g) (hc : b.check = 0) (hk : Kpt b.dsk b.state 1000000) : w = 0 := by
  rcases h.w with ⟨h1, _⟩ | ⟨_, h2, _⟩ | ⟨_, _, v, hv, h3⟩
  · exact absurd hc h1
  · exact h2
  · exact absurd (kpt_unique h3 hk) hv
theorem RWant.val {b : Barn} {p q : List (List Int)} {w u : Int} {g : Bool} (h : RWant b p q w u g) {v : Value} (hv : GoesQ b p q v) : v = .tuple #[.bool g, .int .i64 u] := by
  rcases hv with ⟨h1, rfl⟩ | ⟨h1, is, h2, rfl⟩
  · have e : g = false := by
      cases hg : g with
      | false => rfl
      | true => exact absurd (h.g.1 hg).1 h1
    rw [e, h.u]
  · have e : is = g := by
      rw [Bool.eq_iff_iff, h2, h.g]
      exact ⟨fun h3 => ⟨h1, h3⟩, fun h3 => h3.2⟩
    rw [e, h.u, h1]
end Go.Proofs.Ytelegnmfhjfbaaa
namespace Go.Proofs.Ytelegnmfhjfbaaa
set_option linter.unusedSimpArgs false
set_option linter.unusedVariables false
open Go
def nn (l : List Int) (k : Nat) : Int := l.getD k 0
theorem nn_set {l : List Int} {i j : Nat} {v : Int} (h : i < l.length) : nn (l.set i v) j = bif i == j then v else nn l j := by
  unfold nn
  rw [List.getD_eq_getElem?_getD, List.getD_eq_getElem?_getD, List.getElem?_set]
  by_cases e : i = j
  · subst e; rw [if_pos rfl, if_pos h]; simp
  · rw [if_neg e, show (i == j) = false from by simpa using e]; rfl
theorem OSl.freezeC {e sz : Nat} {rows : List (List Value)} (o : OSl e sz rows) : ∃ a c, o.fs = .slice a rows.length c ∧ rows.length ≤ c ∧ ∀ {H : Heap} {R : Facts} {w : World}, St (o.G ++ H) R w → St H (RowsA a sz rows :: R) w := by
  obtain ⟨fs, G, hl, his⟩ := o
  rcases his with ⟨rfl, rfl, rfl⟩ | ⟨b, cap, junk, rfl, rfl, _, hc, _⟩
  · exact ⟨none, 0, rfl, Nat.le_refl _, fun {H R w} h => (St.also (H := H) (R := R) h (f := RowsA none sz []) (fun w' _ => fun i row hi => by simp at hi))⟩
  · exact ⟨_, cap, rfl, hc, fun {H R w} h => St.rows (rest := junk) h hl⟩
structure Ord (p : List Nat) (n : Nat) : Prop where
  len : p.length = n
  nd : p.Nodup
  lt : ∀ i ∈ p, i < n
theorem Ord.nil : Ord [] 0 := ⟨rfl, List.nodup_nil, by simp⟩
structure InsI (l xs : List Int) (i j : Nat) : Prop where
  perm : xs.Perm l
  le : j ≤ i
  at_ : ∀ p q, p < q → q ≤ i → q ≠ j → nn xs p ≤ nn xs q
structure SrtI (l xs : List Int) (i : Nat) : Prop where
  perm : xs.Perm l
  at_ : ∀ p q, p < q → q < i → nn xs p ≤ nn xs q
theorem SrtI.start (l : List Int) : SrtI l l 1 := ⟨.refl _, fun p q h1 h2 => by omega⟩
theorem InsI.done {l xs : List Int} {i j : Nat} (h : InsI l xs i j) (hj : j = 0 ∨ nn xs (j - 1) ≤ nn xs j) : SrtI l xs (i + 1) := ⟨h.perm, fun p q h1 h2 => by
  by_cases hq : q = j
  · subst hq
    have h3 : nn xs (q - 1) ≤ nn xs q := hj.resolve_left (by omega)
    by_cases hp : p = q - 1
    · subst hp; exact h3
    · have := h.at_ p (q - 1) (by omega) (by omega) (by omega); omega
  · exact h.at_ p q h1 (by omega) hq⟩
theorem nn_at {xs : List Int} {k : Nat} (h : k < xs.length) : nn xs k = xs[k] := by unfold nn; rw [List.getD_eq_getElem?_getD, List.getElem?_eq_getElem h]; rfl
theorem InsI.swap {l xs : List Int} {i j : Nat} (h : InsI l xs i j) (hj : 0 < j) (hi : i < xs.length) (hlt : nn xs j < nn xs (j - 1)) : InsI l ((xs.set j (nn xs (j - 1))).set (j - 1) (nn xs j)) i (j - 1) := by
  have hle := h.le
  have hv : ∀ q, nn ((xs.set j (nn xs (j - 1))).set (j - 1) (nn xs j)) q = if q = j - 1 then nn xs j else if q = j then nn xs (j - 1) else nn xs q := fun q => by
    rw [nn_set (by rw [List.length_set]; omega), nn_set (by omega)]
    by_cases h1 : q = j - 1
    · subst h1; simp
    · have e1 : (j - 1 == q) = false := by simp; omega
      rw [e1, if_neg h1]
      by_cases h2 : q = j
      · subst h2; simp
      · have e2 : (j == q) = false := by simp; omega
        rw [e2, if_neg h2]; rfl
  refine ⟨?_, by omega, fun p q h1 h2 h3 => ?_⟩
  · have e := @List.set_set_perm Int xs j (j - 1) (by omega) (by omega)
    rw [nn_at (k := j - 1) (by omega), nn_at (k := j) (by omega)]
    exact e.trans h.perm
  · rw [hv p, hv q]
    have A := h.at_ p q h1 h2
    have B := h.at_ p (j - 1)
    have C := h.at_ j q
    have E := h.at_ (j - 1) q
    rw [if_neg h3]
    by_cases hq : q = j
    · rw [if_pos hq]
      split
      · omega
      · rw [if_neg (by omega)]; exact B (by omega) (by omega) (by omega)
    · rw [if_neg hq]
      split
      · exact C (by omega) h2 hq
      · split
        · exact E (by omega) h2 hq
        · exact A hq
structure RiseI (n c : Nat) (rs : List Int) : Prop where
  len : rs.length = 6
  le : n ≤ c ∧ c ≤ 6 ∧ n ≤ 2
  zero : ∀ j, j < 6 → j < n ∨ c ≤ j → na rs j = 0
  rise : ∀ j, n ≤ j → j < c → 6 ≤ na rs j ∧ na rs j ≤ 20
  up : ∀ j, n ≤ j → j + 1 < c → na rs j ≤ na rs (j + 1)
theorem RiseI.start {n : Nat} (h : n ≤ 2) : RiseI n n [0, 0, 0, 0, 0, 0] := ⟨rfl, ⟨by omega, by omega, h⟩, fun j hj _ => by
  match j, hj with
  | 0, _ | 1, _ | 2, _ | 3, _ | 4, _ | 5, _ => rfl, fun j h1 h2 => by omega, fun j h1 h2 => by omega⟩
theorem RiseI.more {n c : Nat} {rs : List Int} {v : Int} (h : RiseI n c rs) (hc : c < 6) (hv : 6 ≤ v ∧ v ≤ 20) (hu : n < c → na rs (c - 1) ≤ v) : RiseI n (c + 1) (rs.set c v) := by
  have hle := h.le
  have hat : ∀ j, na (rs.set c v) j = if c = j then v else na rs j := fun j => na_set (by rw [h.len]; omega)
  refine ⟨by rw [List.length_set]; exact h.len, ⟨by omega, by omega, hle.2.2⟩, fun j hj h1 => ?_, fun j h1 h2 => ?_, fun j h1 h2 => ?_⟩
  · rw [hat, if_neg (by omega)]; exact h.zero j hj (by omega)
  · rw [hat]
    split
    · exact hv
    · exact h.rise j h1 (by omega)
  · rw [hat, hat, if_neg (show ¬ c = j by omega)]
    split
    · rename_i e
      have := hu (by omega)
      rw [show c - 1 = j by omega] at this
      exact this
    · exact h.up j h1 (by omega)
end Go.Proofs.Ytelegnmfhjfbaaa
namespace Go.Proofs.Ytelegnmfhjfbaaa
set_option linter.unusedSimpArgs false
set_option linter.unusedVariables false
open Go
structure DayI (sp : List Nat) (k : Nat) (l : List Int) : Prop where
  nd : l.Nodup
  mem : ∀ y ∈ l, ∃ i j : Nat, i < k ∧ sp[i]? = some j ∧ y = (j : Int)
theorem DayI.skip {sp : List Nat} {k : Nat} {l : List Int} (h : DayI sp k l) : DayI sp (k + 1) l := ⟨h.nd, fun y hy => by obtain ⟨i, j, h1, h2⟩ := h.mem y hy; exact ⟨i, j, by omega, h2⟩⟩
theorem DayI.more {sp : List Nat} {k j : Nat} {l : List Int} (h : DayI sp k l) (hn : sp.Nodup) (hj : sp[k]? = some j) : DayI sp (k + 1) (l ++ [(j : Int)]) := by
  refine ⟨List.nodup_append.2 ⟨h.nd, by simp, fun x hx y hy e => ?_⟩, fun y hy => ?_⟩
  · rw [List.mem_singleton] at hy
    obtain ⟨i, j', h1, h2, h3⟩ := h.mem x hx
    have e2 : j' = j := by omega
    subst e2
    have hi := (List.getElem?_eq_some_iff.1 h2).1
    have := (List.getElem?_inj hi hn).1 (h2.trans hj.symm)
    omega
  · rcases List.mem_append.1 hy with hy | hy
    · obtain ⟨i, j', h1, h2⟩ := h.mem y hy; exact ⟨i, j', by omega, h2⟩
    · rw [List.mem_singleton.1 hy]; exact ⟨k, j, by omega, hj, rfl⟩
structure Cls (b : Barn) (cl : List Int) : Prop where
  len : cl.length = b.bins.length
  at_ : ∀ k x, b.bins[k]? = some x → x.lo ≤ na cl k ∧ na cl k ≤ x.hi
theorem Cls.rise {b : Barn} (hok : b.ok) {cl : List Int} (h : Cls b cl) : ∀ k < b.bins.length, na b.rise (na cl k).toNat ≤ b.worst (b.bins.getD k hb0) := fun k hk => by
  obtain ⟨x, hx⟩ : ∃ x, b.bins[k]? = some x := ⟨_, List.getElem?_eq_getElem hk⟩
  rw [bin_getD hx]
  have h1 := h.at_ k x hx
  have h2 := hok.bins x (List.mem_of_getElem? hx)
  exact srt_le hok.srt (by omega) (by rw [hok.len]; omega)
theorem btl_cls {b : Barn} {sl : Value} {c : Int} (h : 0 ≤ c ∧ c ≤ 5) : (btl b sl)[0 + 2 + c.toNat * 1]? = some (.int .i64 (na b.rise c.toNat)) := by
  obtain ⟨n, rfl⟩ : ∃ n : Nat, c = n := ⟨c.toNat, by omega⟩
  rw [Int.toNat_natCast]
  have hn : n < 6 := by omega
  match n, hn with
  | 0, _ | 1, _ | 2, _ | 3, _ | 4, _ | 5, _ => rfl
end Go.Proofs.Ytelegnmfhjfbaaa
namespace Go.Proofs.Ytelegnmfhjfbaaa
set_option linter.unusedSimpArgs false
set_option linter.unusedVariables false
open Go
structure NoW (b b' : Barn) : Prop where
  ok : b'.ok
  check : b'.check = 0
  les : Les b.dsk b'.dsk
  st : ∀ k < b.dsk.n, na b.state k ≤ na b'.state k
theorem NoW.kpt {b b' : Barn} (h : NoW b b') (hok : b.ok) {v v' : Int} (hv : Kpt b.dsk b.state v) (hv' : Kpt b'.dsk b'.state v') : v ≤ v' :=
  (h.les.kpt (b.dsk_ok hok) (b'.dsk_ok h.ok) (b.state_inS hok) (b'.state_inS h.ok) h.st hv hv').1
end Go.Proofs.Ytelegnmfhjfbaaa
namespace Go.Proofs.Ytelegnmfhjfbaaa
set_option linter.unusedSimpArgs false
set_option linter.unusedVariables false
open Go
structure Prm (d d' : Dsk) (f g : Nat → Nat) : Prop where
  n : d.n = d'.n
  gg : d.gangs = d'.gangs
  st : ∀ i < d.n, f i < d.n ∧ g (f i) = i
  ts : ∀ i < d.n, g i < d.n ∧ f (g i) = i
  lasts : ∀ i < d.n, na d'.lasts (f i) = na d.lasts i
theorem Prm.symm {d d' : Dsk} {f g : Nat → Nat} (h : Prm d d' f g) : Prm d' d g f where
  n := h.n.symm
  gg := h.gg.symm
  st i hi := by have hn := h.n; have := h.ts i (by omega); exact ⟨by omega, this.2⟩
  ts i hi := by have hn := h.n; have := h.st i (by omega); exact ⟨by omega, this.2⟩
  lasts i hi := by
    have hn := h.n
    obtain ⟨h1, h2⟩ := h.ts i (by omega)
    have := h.lasts (g i) h1
    rw [h2] at this
    exact this.symm
def Prs (n : Nat) (f : Nat → Nat) (s s' : HSt) : Prop := ∀ i < n, na s' (f i) = na s i
def prl (n : Nat) (f : Nat → Nat) (l : List Nat) : List Nat := bitl n (setN (l.map f))
theorem Prm.mem {d d' : Dsk} {f g : Nat → Nat} (h : Prm d d' f g) {l : List Nat} (hl : ∀ k ∈ l, k < d.n) {i : Nat} (hi : i < d.n) : f i ∈ prl d.n f l ↔ i ∈ l := by
  unfold prl
  rw [mem_bitl, setN_mem, decide_eq_true_eq, List.mem_map]
  constructor
  · rintro ⟨_, j, hj, e⟩
    have h1 := (h.st j (hl j hj)).2
    have h2 := (h.st i hi).2
    rw [e, h2] at h1
    rw [h1]; exact hj
  · intro hm; exact ⟨(h.st i hi).1, i, hm, rfl⟩
theorem bitl_nodup (n u : Nat) : (bitl n u).Nodup := by unfold bitl; exact List.nodup_range.filter _
theorem Prm.len {d d' : Dsk} {f g : Nat → Nat} (h : Prm d d' f g) {l : List Nat} (hl : ∀ k ∈ l, k < d.n) (hn : l.Nodup) : (prl d.n f l).length = l.length := by
  have h1 : (prl d.n f l).length ≤ (l.map f).length := nodup_len (bitl_nodup _ _) fun x hx => by
    unfold prl at hx
    rw [mem_bitl, setN_mem, decide_eq_true_eq] at hx
    exact hx.2
  have h2 : (l.map f).length ≤ (prl d.n f l).length := nodup_len (nodup_map (fun x hx y hy e => by
    have e1 := (h.st x (hl x hx)).2
    have e2 := (h.st y (hl y hy)).2
    rw [e, e2] at e1; exact e1.symm) hn) fun x hx => by
      obtain ⟨j, hj, rfl⟩ := List.mem_map.1 hx
      exact (h.mem hl (hl j hj)).2 hj
  rw [List.length_map] at h1 h2
  omega
theorem Prm.trs {d d' : Dsk} {f g : Nat → Nat} (h : Prm d d' f g) {l : List Nat} (hl : l ∈ d.trs false) : prl d.n f l ∈ d'.trs false ∧ (prl d.n f l).length = l.length := by
  have hlt := d.trs_lt hl
  obtain ⟨u, hu, rfl, h1, _⟩ := d.mem_trs.1 hl
  have e := h.len hlt (bitl_nodup _ _)
  have hn := h.n; have hg := h.gg
  refine ⟨d'.mem_trs.2 ⟨setN ((bitl d.n u).map f), ?_, by rw [← hn]; rfl, ?_, fun h => by cases h⟩, e⟩
  · rw [← hn]
    exact setN_lt fun k hk => by
      obtain ⟨j, hj, rfl⟩ := List.mem_map.1 hk
      exact (h.st j (hlt j hj)).1
  · rw [e]
    unfold Dsk.g at h1 ⊢
    omega
theorem Prm.mid {d d' : Dsk} {f g : Nat → Nat} (h : Prm d d' f g) {s s' : HSt} (hs : Prs d.n f s s') {l : List Nat} (hl : ∀ k ∈ l, k < d.n) {i : Nat} (hi : i < d.n) : d'.mid s' (prl d.n f l) (f i) = d.mid s l i := by
  unfold Dsk.mid
  rw [hs i hi, h.lasts i hi]
  by_cases hm : i ∈ l
  · rw [if_pos hm, if_pos ((h.mem hl hi).2 hm)]
  · rw [if_neg hm, if_neg (fun h2 => hm ((h.mem hl hi).1 h2))]
theorem Prm.next {d d' : Dsk} {f g : Nat → Nat} (h : Prm d d' f g) (hd : d.ok) {s s' t : HSt} (hsl : s.length = 4) (hsl' : s'.length = 4) (hs : Prs d.n f s s') {l : List Nat} (hl : ∀ k ∈ l, k < d.n) (e : d.next s l = some t) :
    ∃ t', d'.next s' (prl d.n f l) = some t' ∧ Prs d.n f t t' ∧ t.length = 4 ∧ t'.length = 4 := by
  have hn := h.n; have hn4 := hd.n
  obtain ⟨h1, h2⟩ := d.next_at hd.n.2 hsl hl e
  have hl' : ∀ k ∈ prl d.n f l, k < d'.n := fun k hk => by rw [← hn]; exact bitl_lt hk
  obtain ⟨t', ht'⟩ := d'.next_some (by omega) hsl' hl' (fun k hk => by
    have hk0 : k < d.n := by omega
    obtain ⟨g1, g2⟩ := h.ts k hk0
    have := h.mid hs hl g1
    rw [g2] at this
    rw [this]
    exact (h2 (g k)).1 g1)
  obtain ⟨h3, h4⟩ := d'.next_at (by omega) hsl' hl' ht'
  refine ⟨t', ht', fun i hi => ?_, h1, h3⟩
  obtain ⟨f1, _⟩ := h.st i hi
  rw [(h4 (f i)).2, (h2 i).2, h.mid hs hl hi]
  by_cases hc : d.mid s l i ≠ 1000000
  · rw [if_pos ⟨by omega, hc⟩, if_pos ⟨hi, hc⟩]
  · rw [if_neg (fun h => hc h.2), if_neg (fun h => hc h.2)]
theorem Prm.pth {d d' : Dsk} {f g : Nat → Nat} (h : Prm d d' f g) (hd : d.ok) {s s' : HSt} (hsl : s.length = 4) (hsl' : s'.length = 4) (hs : Prs d.n f s s') : ∀ {m : Nat} {t : HSt} {c : Nat}, d.pth m s t c → ∃ t', d'.pth m s' t' c ∧ Prs d.n f t t' ∧ t.length = 4 ∧ t'.length = 4
  | 0, t, c, hp => by obtain ⟨rfl, rfl⟩ := hp; exact ⟨s', ⟨rfl, rfl⟩, hs, hsl, hsl'⟩
  | m + 1, t, c, hp => by
    obtain ⟨u, a, l, h1, h2, h3, rfl⟩ := hp
    obtain ⟨u', i1, i2, i3, i4⟩ := Prm.pth h hd hsl hsl' hs h1
    obtain ⟨t', j1, j2, j3, j4⟩ := h.next hd i3 i4 i2 (d.trs_lt h2) h3
    obtain ⟨k1, k2⟩ := h.trs h2
    exact ⟨t', ⟨u', a, _, i1, k1, j1, by rw [k2]⟩, j2, j3, j4⟩
theorem Prs.symm {d d' : Dsk} {f g : Nat → Nat} (h : Prm d d' f g) {s s' : HSt} (hs : Prs d.n f s s') : Prs d'.n g s' s := fun i hi => by
  have hn := h.n
  obtain ⟨h1, h2⟩ := h.ts i (by omega)
  have := hs (g i) h1
  rw [h2] at this
  exact this.symm
theorem Prm.kpt {d d' : Dsk} {f g : Nat → Nat} (h : Prm d d' f g) (hd : d.ok) (hd' : d'.ok) {s s' : HSt} (hs : d.inS s) (hs' : d'.inS s') (hp : Prs d.n f s s') {v v' : Int} (hv : Kpt d s v) (hv' : Kpt d' s' v') : v = v' := by
  have a := (kpt_le hd hd' hs hs' (fun n ⟨t, c, q⟩ => by obtain ⟨t', i, _⟩ := h.pth hd hs.len hs'.len hp q; exact ⟨t', c, i⟩) hv hv').1
  have b := (kpt_le hd' hd hs' hs (fun n ⟨t, c, q⟩ => by obtain ⟨t', i, _⟩ := h.symm.pth hd' hs'.len hs.len (hp.symm h) q; exact ⟨t', c, i⟩) hv' hv).1
  omega
theorem Prm.few {d d' : Dsk} {f g : Nat → Nat} (h : Prm d d' f g) (hd : d.ok) (hd' : d'.ok) {s s' : HSt} (hsl : s.length = 4) (hsl' : s'.length = 4) (hp : Prs d.n f s s') (n : Nat) :
    ((∃ t c, d.pth n s t c) ↔ ∃ t c, d'.pth n s' t c) ∧ ∀ c c', FewC d s n c → FewC d' s' n c' → c = c' := by
  refine ⟨⟨fun ⟨t, c, q⟩ => ?_, fun ⟨t, c, q⟩ => ?_⟩, fun c c' h1 h2 => ?_⟩
  · obtain ⟨t', i, _⟩ := h.pth hd hsl hsl' hp q; exact ⟨t', c, i⟩
  · obtain ⟨t', i, _⟩ := h.symm.pth hd' hsl' hsl (hp.symm h) q; exact ⟨t', c, i⟩
  · obtain ⟨t, ht⟩ := h1.is
    obtain ⟨t', i, _⟩ := h.pth hd hsl hsl' hp ht
    have := h2.le _ _ i
    obtain ⟨u, hu⟩ := h2.is
    obtain ⟨u', j, _⟩ := h.symm.pth hd' hsl' hsl (hp.symm h) hu
    have := h1.le _ _ j
    omega
noncomputable def invP (p : List Nat) (i : Nat) : Nat := Classical.epsilon (fun j : Nat => p[j]? = some i)
theorem Ord.get {p : List Nat} {n i : Nat} (h : Ord p n) (hi : i < n) : ∃ j, p[i]? = some j ∧ j < n := by
  have hl := h.len
  refine ⟨_, List.getElem?_eq_getElem (by omega), h.lt _ (List.getElem_mem (by omega))⟩
theorem Ord.onto {p : List Nat} {n i : Nat} (h : Ord p n) (hi : i < n) : ∃ j : Nat, p[j]? = some i := by
  apply Classical.byContradiction
  intro hno
  have hm : i ∉ p := fun hm => hno (List.getElem?_of_mem hm)
  have h1 := nodup_len (l := i :: p) (m := List.range n) (List.nodup_cons.2 ⟨hm, h.nd⟩) (fun x hx => by
    rcases List.mem_cons.1 hx with rfl | hx
    · exact List.mem_range.2 hi
    · exact List.mem_range.2 (h.lt x hx))
  have hl := h.len
  rw [List.length_cons, List.length_range] at h1
  omega
theorem Ord.inv {p : List Nat} {n i : Nat} (h : Ord p n) (hi : i < n) : p[invP p i]? = some i := Classical.epsilon_spec (h.onto hi)
structure Put (b : Barn) (p : List Nat) (L : List HBin) : Prop where
  ord : Ord p b.bins.length
  len : L.length = b.bins.length
  at_ : ∀ (j q : Nat), p[j]? = some q → L[q]? = b.bins[j]?
theorem Put.ok {b : Barn} {p : List Nat} {L : List HBin} (h : Put b p L) (hb : b.ok) : (b.withB L).ok := by
  have key : ∀ x ∈ L, x ∈ b.bins := fun x hx => by
    obtain ⟨q, hq⟩ := List.getElem?_of_mem hx
    have hql := (List.getElem?_eq_some_iff.1 hq).1
    have hl := h.len
    obtain ⟨j, hj⟩ := h.ord.onto (i := q) (by omega)
    rw [h.at_ j q hj] at hq
    exact List.mem_of_getElem? hq
  exact ⟨hb.len, by show 1 ≤ L.length ∧ L.length ≤ 4; rw [h.len]; exact hb.many, hb.cool, hb.gangs, hb.rise, fun x hx => hb.bins x (key x hx), hb.srt, fun x hx => hb.ord x (key x hx)⟩
structure SamB (b b' : Barn) : Prop where
  ok : b'.ok
  check : b'.check = 0
  n : b'.bins.length = b.bins.length
  kpt : ∀ v, Kpt b.dsk b.state v ↔ Kpt b'.dsk b'.state v
  kptG : ∀ g : Nat, g ≤ 4 → ∀ v, Kpt (b.withG g).dsk b.state v ↔ Kpt (b'.withG g).dsk b'.state v
  few : ∀ n : Nat, n ≤ 20 → planE b' n = planE b n ∧ turnsV b' n = turnsV b n
theorem SamB.spare {b b' : Barn} (h : SamB b b') (hb : b.ok) (hck : b.check = 0) {v v' : Value} (hv : SpareQ b v) (hv' : SpareQ b' v') : v' = v := by
  have hmn := hb.many
  have hn := h.n
  have he : ∀ g : Nat, g ≤ 4 → (b.ends g ↔ b'.ends g) := fun g hg => exists_congr fun w => and_congr_right fun _ => h.kptG g hg w
  have no : ∀ g : Nat, b.ends g → Kpt (b.withG g).dsk b.state 1000000 → False := fun g ⟨w, h1, h2⟩ h3 => h1 (kpt_unique h2 h3)
  rcases hv with ⟨h0, _⟩ | ⟨_, ⟨g, g1, g2, g3, rfl⟩ | ⟨g1, rfl⟩⟩
  · exact absurd hck h0
  · rcases hv' with ⟨h0, _⟩ | ⟨_, ⟨k, k1, k2, k3, rfl⟩ | ⟨k1, rfl⟩⟩
    · exact absurd h.check h0
    · rw [← h.kptG k (by omega)] at k3
      rcases Nat.lt_trichotomy g k with e | rfl | e
      · exact (no g ((he g (by omega)).2 (k2 g e)) g3).elim
      · rfl
      · exact (no k (g2 k e) k3).elim
    · exact (no g ((he g (by omega)).2 (k1 g (by omega))) g3).elim
  · rcases hv' with ⟨h0, _⟩ | ⟨_, ⟨k, k1, k2, k3, rfl⟩ | ⟨k1, rfl⟩⟩
    · exact absurd h.check h0
    · rw [← h.kptG k (by omega)] at k3
      exact (no k (g1 k (by omega)) k3).elim
    · rfl
structure PutI (b : Barn) (p : List Nat) (i : Nat) (L : List HBin) : Prop where
  ord : Ord p b.bins.length
  len : L.length = b.bins.length
  at_ : ∀ j, j < i → ∀ q, p[j]? = some q → L[q]? = b.bins[j]?
theorem PutI.more {b : Barn} {p : List Nat} {i q : Nat} {L : List HBin} {x : HBin} (h : PutI b p i L) (hq : p[i]? = some q) (hx : b.bins[i]? = some x) : PutI b p (i + 1) (L.set q x) := by
  have hql := h.ord.lt q (List.mem_of_getElem? hq)
  have hl := h.len
  refine ⟨h.ord, by rw [List.length_set]; exact h.len, fun j hj r hr => ?_⟩
  rw [List.getElem?_set]
  by_cases e : q = r
  · subst e
    have h1 := (List.getElem?_eq_some_iff.1 hr).1
    obtain rfl := (List.getElem?_inj h1 h.ord.nd).1 (hr.trans hq.symm)
    rw [if_pos rfl, if_pos (by omega), hx]
  · rw [if_neg e]
    refine h.at_ j ?_ r hr
    rcases Nat.lt_or_ge j i with h1 | h1
    · exact h1
    · obtain rfl : j = i := by omega
      rw [hq] at hr; cases hr
      exact absurd rfl e
theorem PutI.done {b : Barn} {p : List Nat} {L : List HBin} (h : PutI b p b.bins.length L) : Put b p L := ⟨h.ord, h.len, fun j q hq => h.at_ j (by have := (List.getElem?_eq_some_iff.1 hq).1; have := h.ord.len; omega) q hq⟩
end Go.Proofs.Ytelegnmfhjfbaaa
namespace Go.Proofs.Ytelegnmfhjfbaaa
set_option linter.unusedSimpArgs false
set_option linter.unusedVariables false
open Go
theorem Barn.most_ever {b : Barn} (hb : b.ok) {k : Nat} {x : HBin} (hx : b.bins[k]? = some x) : (na b.dsk.most k = 1000000 ↔ b.worst x = 0) ∧ na b.dsk.lasts k = b.days x b.cool := by
  have hm := List.mem_of_getElem? hx
  have hk := (List.getElem?_eq_some_iff.1 hx).1
  have h2 : na b.dsk.most k = max (b.days x x.warm) (b.days x b.cool) := na_at (b.map_get hb _ hx)
  have h3 : na b.dsk.lasts k = b.days x b.cool := na_at (b.map_get hb _ hx)
  refine ⟨?_, h3⟩
  rw [h2]
  have h8 := (hb.bins x hm).1
  have h7 := (hb.bins x hm).2.1
  have h9 := b.worst_range hb hm
  have hc := hb.cool
  have z : ∀ w, 0 ≤ w → b.worst x ≠ 0 → b.days x w < 11 := fun w hw h0 => by
    unfold Barn.days daysB
    rw [decide_eq_false h0, cond_false]
    by_cases h3 : x.mark < w
    · rw [decide_eq_true h3, cond_true]; omega
    · rw [decide_eq_false h3, cond_false]
      exact Int.ediv_lt_of_lt_mul (by omega) (by omega)
  constructor
  · intro h
    apply Classical.byContradiction
    intro h0
    have := z _ h7.1 h0
    have := z _ hc.1 h0
    omega
  · intro h
    have e : ∀ w, b.days x w = 1000000 := fun w => by unfold Barn.days daysB; rw [h]; rfl
    rw [e, e]; rfl
structure Cnt (b : Barn) (i : Nat) (ok : Bool) (c : Int) : Prop where
  all : ok = true ↔ ∀ (k : Nat) (x : HBin), k < i → b.bins[k]? = some x → b.worst x = 0 ∨ 1 ≤ b.days x b.cool
  nn : 0 ≤ c ∧ c ≤ i
  none : c = 0 ↔ ∀ (k : Nat) (x : HBin), k < i → b.bins[k]? = some x → b.worst x = 0
theorem Cnt.start (b : Barn) : Cnt b 0 true 0 := ⟨⟨fun _ k x h => absurd h (Nat.not_lt_zero _), fun _ => rfl⟩, by omega, ⟨fun _ k x h => absurd h (Nat.not_lt_zero _), fun _ => rfl⟩⟩
end Go.Proofs.Ytelegnmfhjfbaaa
