/- Walks of the functions of the program, and the laws that join them: what the last theorem of this claim needs, in order. -/
import Derived.Test.YtndhkpnaeocnhaaGreatDe4
namespace Go.Proofs.YtndhkpnaeocnhaaGreat
set_option linter.unusedSimpArgs false
set_option linter.unusedVariables false
open Go
theorem ag140 : aggN Tryz.prog 140 = some 5 := by kernel_rfl
theorem ag79 : aggN Tryz.prog 79 = some 3 := by kernel_rfl
theorem ag83 : aggN Tryz.prog 83 = some 5 := by kernel_rfl
theorem ag89 : aggN Tryz.prog 89 = some 3 := by kernel_rfl
theorem ap77 : apT Tryz.prog 77 = some (83, 5, 40) := by kernel_rfl
theorem ap87 : apT Tryz.prog 87 = some (140, 5, 40) := by kernel_rfl
theorem cal118 : cal Tryz.prog 118 = true := by kernel_rfl
theorem cal119 : cal Tryz.prog 119 = true := by kernel_rfl
theorem cal41 : cal Tryz.prog 41 = true := by kernel_rfl
theorem cal43 : cal Tryz.prog 43 = true := by kernel_rfl
theorem cal91 : cal Tryz.prog 91 = true := by kernel_rfl
theorem cal92 : cal Tryz.prog 92 = true := by kernel_rfl
theorem cal93 : cal Tryz.prog 93 = true := by kernel_rfl
theorem cal94 : cal Tryz.prog 94 = true := by kernel_rfl
theorem cal95 : cal Tryz.prog 95 = true := by kernel_rfl
theorem cn140 : cellN Tryz.prog 140 = some 5 := by kernel_rfl
theorem cn77 : cellN Tryz.prog 77 = some 1 := by kernel_rfl
theorem cn79 : cellN Tryz.prog 79 = some 3 := by kernel_rfl
theorem cn83 : cellN Tryz.prog 83 = some 5 := by kernel_rfl
theorem cn87 : cellN Tryz.prog 87 = some 1 := by kernel_rfl
theorem cn89 : cellN Tryz.prog 89 = some 3 := by kernel_rfl
theorem el77 : elN Tryz.prog 77 = some 5 := by kernel_rfl
theorem el87 : elN Tryz.prog 87 = some 5 := by kernel_rfl
theorem eqf36 : eqB Tryz.prog 10000 36 = some (true, 5) := by kernel_rfl
theorem eqf83 : eqB Tryz.prog 10000 83 = some (true, 5) := by kernel_rfl
theorem eqg36 : Tryz.prog.eqGuardType Tryz.prog.depth 36 = false := by kernel_rfl
theorem eqg83 : Tryz.prog.eqGuardType Tryz.prog.depth 83 = false := by kernel_rfl
theorem fo140_0 : fOff Tryz.prog 140 0 = some 0 := by kernel_rfl
theorem fo140_1 : fOff Tryz.prog 140 1 = some 1 := by kernel_rfl
theorem fo140_2 : fOff Tryz.prog 140 2 = some 2 := by kernel_rfl
theorem fo140_3 : fOff Tryz.prog 140 3 = some 3 := by kernel_rfl
theorem fo140_4 : fOff Tryz.prog 140 4 = some 4 := by kernel_rfl
theorem fo79_0 : fOff Tryz.prog 79 0 = some 0 := by kernel_rfl
theorem fo79_1 : fOff Tryz.prog 79 1 = some 1 := by kernel_rfl
theorem fo79_2 : fOff Tryz.prog 79 2 = some 2 := by kernel_rfl
theorem fo83_0 : fOff Tryz.prog 83 0 = some 0 := by kernel_rfl
theorem fo83_1 : fOff Tryz.prog 83 1 = some 1 := by kernel_rfl
theorem fo89_0 : fOff Tryz.prog 89 0 = some 0 := by kernel_rfl
theorem fo89_1 : fOff Tryz.prog 89 1 = some 1 := by kernel_rfl
theorem fo89_2 : fOff Tryz.prog 89 2 = some 2 := by kernel_rfl
theorem isl77 : isSl Tryz.prog 77 = true := by kernel_rfl
theorem isl87 : isSl Tryz.prog 87 = true := by kernel_rfl
theorem pl79 : placeL Tryz.prog 79 = some [(0, 1), (1, 1), (2, 1)] := by kernel_rfl
theorem pl89 : placeL Tryz.prog 89 = some [(0, 1), (1, 1), (2, 1)] := by kernel_rfl
theorem sc77 : scal Tryz.prog 77 = true := by kernel_rfl
theorem sc87 : scal Tryz.prog 87 = true := by kernel_rfl
theorem sl77 : slE Tryz.prog 77 = some (83, 5) := by kernel_rfl
theorem sl87 : slE Tryz.prog 87 = some (140, 5) := by kernel_rfl
theorem zl140 : zeroL Tryz.prog 140 = some ([.int .i64 0, .int .i64 0, .int .i64 0, .int .i64 0, .int .i64 0]) := by kernel_rfl
theorem zl79 : zeroL Tryz.prog 79 = some ([.int .i64 0, .int .i64 0, .slice none 0 0]) := by kernel_rfl
theorem zl83 : zeroL Tryz.prog 83 = some ([.int .i64 0, .int .i64 0, .int .i64 0, .int .i64 0, .int .i64 0]) := by kernel_rfl
theorem zl89 : zeroL Tryz.prog 89 = some ([.int .i64 0, .int .i64 0, .slice none 0 0]) := by kernel_rfl
theorem hr_drop {l : List Hnd} {junk : List Value} {i : Nat} {x : Hnd} (hx : l[i]? = some x) : ((hrows l).flatten ++ junk).drop (0 + ((i : Nat) : Int).toNat * 5) = hrow x ++ ((hrows (l.drop (i + 1))).flatten ++ junk) := by
  have hi := (List.getElem?_eq_some_iff.1 hx).1
  obtain ⟨A, y, B, rfl, rfl⟩ := cut_at hi
  obtain rfl : y = x := by simpa using hx
  have e1 : (hrows A).flatten.length = A.length * 5 := by rw [hr_flat]; omega
  rw [Int.toNat_natCast, Nat.zero_add]
  have e2 : (hrows (A ++ y :: B)).flatten ++ junk = (hrows A).flatten ++ (hrow y ++ ((hrows B).flatten ++ junk)) := by simp [hrows]
  have e3 : (A ++ y :: B).drop (A.length + 1) = B := by rw [List.drop_append]; simp
  rw [e2, e3, ← e1, List.drop_left]
theorem fine_eq (x : Grd) : x.fine = (inb x.price 0 100 && (inb x.corn 0 40 && (inb x.chaff 0 40 && (inb x.stones 0 40 && inb x.damp 0 40)))) := by simp [Grd.fine, Grd.ns]
theorem all_bad {α : Type} {l : List α} {p : α → Bool} {i : Nat} {x : α} (hx : l[i]? = some x) (h : p x = false) : l.all p = false := by
  rw [List.all_eq_false]; exact ⟨x, List.mem_of_getElem? hx, by simp [h]⟩
theorem all_more {α : Type} {l : List α} {p : α → Bool} {i : Nat} {x : α} (hx : l[i]? = some x) (hn : (l.take i).all p = true) (h : p x = true) : (l.take (i + 1)).all p = true := by
  rw [List.take_add_one, hx, Option.toList_some, List.all_append, hn]; simp [h]
theorem chk_many {g : Gat} (h : 4 < g.grs.length) : g.check = 2 := by unfold Gat.check; rw [decide_eq_true h]; rfl
theorem chk_rng {g : Gat} (h : ¬ 4 < g.grs.length) (h1 : inb g.err 0 50 = false ∨ inb g.miss 0 20 = false) : g.check = 3 := by
  unfold Gat.check; rw [decide_eq_false h]
  rcases h1 with h1 | h1 <;> rw [h1] <;> simp
theorem chk_grd {g : Gat} (h : ¬ 4 < g.grs.length) (h1 : inb g.err 0 50 = true) (h2 : inb g.miss 0 20 = true) (h3 : g.grs.all Grd.fine = false) : g.check = 3 := by
  unfold Gat.check; rw [decide_eq_false h, h1, h2, h3]; rfl
theorem chk_ord {g : Gat} (h : ¬ 4 < g.grs.length) (h1 : inb g.err 0 50 = true) (h2 : inb g.miss 0 20 = true) (h3 : g.grs.all Grd.fine = true) : g.check = bif (List.range g.grs.length).any (grBad g.grs) then 4 else 0 := by
  unfold Gat.check; rw [decide_eq_false h, h1, h2, h3]; rfl
theorem cck_many {c : Crt} (h : 6 < c.hs.length) : c.check = 2 := by unfold Crt.check; rw [decide_eq_true h]; rfl
theorem cck_rng {c : Crt} (h : ¬ 6 < c.hs.length) (h1 : inb c.full 0 10000 = false ∨ inb c.empty 0 10000 = false) : c.check = 3 := by
  unfold Crt.check; rw [decide_eq_false h]
  rcases h1 with h1 | h1 <;> rw [h1] <;> simp
theorem cck_hnd {c : Crt} (h : ¬ 6 < c.hs.length) (h1 : inb c.full 0 10000 = true) (h2 : inb c.empty 0 10000 = true) (h3 : c.hs.all Hnd.fine = false) : c.check = 3 := by
  unfold Crt.check; rw [decide_eq_false h, h1, h2, h3]; rfl
theorem cck_tot {c : Crt} (h : ¬ 6 < c.hs.length) (h1 : inb c.full 0 10000 = true) (h2 : inb c.empty 0 10000 = true) (h3 : c.hs.all Hnd.fine = true) : c.check = bif !(c.hs.all fun h => inb h.tot 10 200) then 8 else 0 := by
  unfold Crt.check; rw [decide_eq_false h, h1, h2, h3]; rfl
theorem gs_all {h : Hnd} (hk : ∀ k < 4, inb (nn h.gs k) 0 200 = true) : (h.gs.all fun n => inb n 0 200) = true := by
  have h0 := hk 0 (by omega); have h1 := hk 1 (by omega); have h2 := hk 2 (by omega); have h3 := hk 3 (by omega)
  simp only [nn, Hnd.gs, List.getD_cons_zero, List.getD_cons_succ] at h0 h1 h2 h3
  simp only [Hnd.gs, List.all_cons, List.all_nil, h0, h1, h2, h3]; rfl
theorem gs_bad {h : Hnd} {k : Nat} (hk : k < 4) (hb : inb (nn h.gs k) 0 200 = false) : (h.gs.all fun n => inb n 0 200) = false := by
  rw [List.all_eq_false]
  refine ⟨nn h.gs k, ?_, by rw [hb]; simp⟩
  rcases lt4 hk with rfl | rfl | rfl | rfl <;> simp [nn, Hnd.gs]
theorem hfine_bd {h : Hnd} (hf : h.fine = true) : ∀ k < 4, 0 ≤ nn h.gs k ∧ nn h.gs k ≤ 200 := fun k hk => by
  unfold Hnd.fine at hf
  rw [Bool.and_eq_true] at hf
  have := hf.2
  cases hb : inb (nn h.gs k) 0 200 with
  | true => simpa [inb] using hb
  | false => rw [gs_bad hk hb] at this; cases this
def totN (h : Hnd) : Nat → Int
  | 0 => 0
  | k + 1 => totN h k + nn h.gs k
theorem totN_4 (h : Hnd) : totN h 4 = h.tot := by simp [totN, Hnd.tot, sum4]
theorem totN_bd {h : Hnd} {B : Int} (hb : ∀ k < 4, -B ≤ nn h.gs k ∧ nn h.gs k ≤ B) (hB : 0 ≤ B) : ∀ k, k ≤ 4 → -(4 * B) ≤ totN h k ∧ totN h k ≤ 4 * B := by
  obtain ⟨a, b, c, d⟩ := all4 hb
  intro k hk
  have : k = 0 ∨ k = 1 ∨ k = 2 ∨ k = 3 ∨ k = 4 := by omega
  rcases this with rfl | rfl | rfl | rfl | rfl <;> simp only [totN] <;> omega
theorem c_eq_grd (xs ys : List Grd) (a a2 : Option Addr) (c c2 : Nat) (hl : xs.length ≤ 9223372036854775807) (hl2 : ys.length ≤ 9223372036854775807) (H : Heap) (R : Facts) [hR : MemRows a 5 (grows xs) R] [hR2 : MemRows a2 5 (grows ys) R] :
    FnV Tryz.prog 118 [.slice a xs.length c, .slice a2 ys.length c2] H R (.bool (decide (xs = ys))) := by
 refine fn_of Tryz.func118 rfl Tryz.ntmps118 rfl ?_
 refine sy_seq ?_
 refine sy_tx' [0] rfl ?_
 refine sp rfl (PE.assign rfl) rfl ?_
 refine sy_seq ?_
 refine sy_seq ?_
 refine sy_tx' [0, 1, 2, 3, 4] rfl ?_
 refine sp rfl (PE.move rfl) rfl ?_
 refine sp rfl (PE.lenSl isl23 rfl) rfl ?_
 refine sp rfl (PE.move rfl) rfl ?_
 refine sp rfl (PE.lenSl isl23 rfl) rfl ?_
 refine sp rfl (PE.neq rfl rfl) rfl ?_
 refine sy_cond rfl (fun hc0 => ?_) (fun hc0 => ?_)
 have hne : xs ≠ ys := fun e => by subst e; simp at hc0
 refine sy_seq ?_
 refine sy_tx' [0] rfl ?_
 refine sp rfl (PE.assign rfl) rfl ?_
 refine sy_ret ?_
 exact sy_return (vs := [_]) rfl (.cons (RV.tmp rfl) .nil) rfl ⟨by first | (simp only [retV]; rw [decide_eq_true heq]; done) | (simp only [retV]; rw [decide_eq_false hne]), rfl, rfl⟩ (fun _ h => h)
 have hle : xs.length = ys.length := by simp only [decide_eq_true_eq, decide_eq_false_iff_not, Bool.and_eq_true, Bool.or_eq_true, Bool.not_eq_true', Int.not_le, Int.not_lt] at hc0; omega
 refine sy_skip ?_
 refine sy_seq ?_
 refine sy_seq ?_
 refine sy_tx' [0, 1, 2] rfl ?_
 refine sp rfl (PE.move rfl) rfl ?_
 refine sp rfl (PE.lenSl isl23 rfl) rfl ?_
 refine sp rfl (PE.move rfl) rfl ?_
 refine sy_block ?_
 refine sy_loop (ι := {k : Nat // k ≤ xs.length ∧ xs.take k = ys.take k}) (fun k => ⟨[(0, .slice a xs.length c), (1, .slice a2 ys.length c2), (12, .int .i64 xs.length), (13, .int .i64 k.1)], H, R⟩) (fun k => xs.length - k.1) ⟨0, by simp⟩ ?_ (fun k => ?_)
 exact sy_at (by repeat' first | exact Sub.nil | apply Sub.cons | rfl | (simp [lk]; omega)) (fun _ h => h)
 obtain ⟨k, hk, hn⟩ := k
 dsimp only
 refine sy_seq ?_
 refine sy_tx' [0] rfl ?_
 refine sp rfl (PE.lss rfl rfl) rfl ?_
 refine sy_seq ?_
 refine sy_cond rfl (fun hc1 => ?_) (fun hc1 => ?_)
 simp only [decide_eq_true_eq, decide_eq_false_iff_not, Bool.and_eq_true, Bool.or_eq_true, Bool.not_eq_true', Int.not_le, Int.not_lt] at hc1
 obtain ⟨x, hx⟩ : ∃ x, xs[k]? = some x := ⟨_, List.getElem?_eq_getElem (by omega)⟩
 obtain ⟨z, hz⟩ : ∃ z, ys[k]? = some z := ⟨_, List.getElem?_eq_getElem (by omega)⟩
 refine sy_addr (a := a) (sz := 5) (rows := grows xs) (by intro h0; simp [grows] at h0; simp [h0] at hx) (fun b off he => ?_)
 subst he
 refine sy_addr (a := a2) (sz := 5) (rows := grows ys) (by intro h0; simp [grows] at h0; simp [h0] at hz) (fun b2 off2 he => ?_)
 subst he
 refine sy_skip ?_
 refine sy_seq ?_
 refine sy_block ?_
 refine sy_seq ?_
 refine sy_tx' [0, 1] rfl ?_
 refine sp rfl (PE.move rfl) rfl ?_
 refine sp rfl (PE.assign rfl) rfl ?_
 refine sy_seq ?_
 refine sy_draw [0, 0, 3, 7, 0, 0, 48, 112, 255] (.tk 0 (.tk 1 (.tk 2 (.ld 3 (.tk 4 (.tk 5 (.tk 6 (.ld 7 (.tk 8 .done))))))))) mixed (by kernel_rfl) ?_
 refine tk rfl (PE.move rfl) rfl ?_
 refine tk rfl (PE.move rfl) rfl ?_
 refine tk rfl (PE.indexAddr el23 rfl rfl (by omega) (by omega)) rfl ?_
 refine ld rfl rfl (lfA ag36 (row := grow x) (by simp [grows, hx]) rfl) rfl ?_
 refine tk rfl (PE.move rfl) rfl ?_
 refine tk rfl (PE.move rfl) rfl ?_
 refine tk rfl (PE.indexAddr el23 rfl rfl (by omega) (by omega)) rfl ?_
 refine ld rfl rfl (lfA ag36 (row := grow z) (by simp [grows, hz]) rfl) rfl ?_
 refine tk rfl (PE.neqAgg [x.corn, x.chaff, x.stones, x.damp, x.price] [z.corn, z.chaff, z.stones, z.damp, z.price] (eqB_ok 10000 36 true 5 eqf36) eqg36 rfl rfl rfl rfl) rfl ?_
 refine sy_cond rfl (fun hc2 => ?_) (fun hc2 => ?_)
 have hne : xs ≠ ys := fun e => by subst e; rw [hx] at hz; cases hz; simp at hc2
 refine sy_seq ?_
 refine sy_tx' [0] rfl ?_
 refine sp rfl (PE.assign rfl) rfl ?_
 refine sy_ret ?_
 exact sy_return (vs := [_]) rfl (.cons (RV.tmp rfl) .nil) rfl ⟨by first | (simp only [retV]; rw [decide_eq_true heq]; done) | (simp only [retV]; rw [decide_eq_false hne]), rfl, rfl⟩ (fun _ h => h)
 have hxz : x = z := by cases x; cases z; simpa using hc2
 refine sy_skip ?_
 refine sy_tx' [0, 1] rfl ?_
 refine sp rfl (PE.add rfl rfl (by omega)) rfl ?_
 refine sp rfl (PE.move rfl) rfl ?_
 exact sy_next ⟨k + 1, by omega, by rw [List.take_add_one, List.take_add_one, hn, hx, hz, hxz]⟩ (by dsimp only; omega) (by repeat' first | exact Sub.nil | apply Sub.cons | rfl | (simp [lk]; omega)) (fun _ h => h)
 simp only [decide_eq_true_eq, decide_eq_false_iff_not, Bool.and_eq_true, Bool.or_eq_true, Bool.not_eq_true', Int.not_le, Int.not_lt] at hc1
 obtain rfl : k = xs.length := by omega
 have heq : xs = ys := by
   rw [List.take_length] at hn
   exact hn.trans (by rw [hle]; exact List.take_length)
 refine sy_exit ?_
 repeat refine sy_tx ?_
 refine sy_bx ?_
 refine sy_seq ?_
 refine sy_tx' [0] rfl ?_
 refine sp rfl (PE.assign rfl) rfl ?_
 refine sy_ret ?_
 exact sy_return (vs := [_]) rfl (.cons (RV.tmp rfl) .nil) rfl ⟨by first | (simp only [retV]; rw [decide_eq_true heq]; done) | (simp only [retV]; rw [decide_eq_false hne]), rfl, rfl⟩ (fun _ h => h)
theorem c_eq_rhd (xs ys : List Hnd) (a a2 : Option Addr) (c c2 : Nat) (hl : xs.length ≤ 9223372036854775807) (hl2 : ys.length ≤ 9223372036854775807) (H : Heap) (R : Facts) [hR : MemRows a 5 (hrows xs) R] [hR2 : MemRows a2 5 (hrows ys) R] :
    FnV Tryz.prog 93 [.slice a xs.length c, .slice a2 ys.length c2] H R (.bool (decide (xs = ys))) := by
 refine fn_of Tryz.func93 rfl Tryz.ntmps93 rfl ?_
 refine sy_seq ?_
 refine sy_tx' [0] rfl ?_
 refine sp rfl (PE.assign rfl) rfl ?_
 refine sy_seq ?_
 refine sy_seq ?_
 refine sy_tx' [0, 1, 2, 3, 4] rfl ?_
 refine sp rfl (PE.move rfl) rfl ?_
 refine sp rfl (PE.lenSl isl77 rfl) rfl ?_
 refine sp rfl (PE.move rfl) rfl ?_
 refine sp rfl (PE.lenSl isl77 rfl) rfl ?_
 refine sp rfl (PE.neq rfl rfl) rfl ?_
 refine sy_cond rfl (fun hc0 => ?_) (fun hc0 => ?_)
 have hne : xs ≠ ys := fun e => by subst e; simp at hc0
 refine sy_seq ?_
 refine sy_tx' [0] rfl ?_
 refine sp rfl (PE.assign rfl) rfl ?_
 refine sy_ret ?_
 exact sy_return (vs := [_]) rfl (.cons (RV.tmp rfl) .nil) rfl ⟨by first | (simp only [retV]; rw [decide_eq_true heq]; done) | (simp only [retV]; rw [decide_eq_false hne]), rfl, rfl⟩ (fun _ h => h)
 have hle : xs.length = ys.length := by simp only [decide_eq_true_eq, decide_eq_false_iff_not, Bool.and_eq_true, Bool.or_eq_true, Bool.not_eq_true', Int.not_le, Int.not_lt] at hc0; omega
 refine sy_skip ?_
 refine sy_seq ?_
 refine sy_seq ?_
 refine sy_tx' [0, 1, 2] rfl ?_
 refine sp rfl (PE.move rfl) rfl ?_
 refine sp rfl (PE.lenSl isl77 rfl) rfl ?_
 refine sp rfl (PE.move rfl) rfl ?_
 refine sy_block ?_
 refine sy_loop (ι := {k : Nat // k ≤ xs.length ∧ xs.take k = ys.take k}) (fun k => ⟨[(0, .slice a xs.length c), (1, .slice a2 ys.length c2), (12, .int .i64 xs.length), (13, .int .i64 k.1)], H, R⟩) (fun k => xs.length - k.1) ⟨0, by simp⟩ ?_ (fun k => ?_)
 exact sy_at (by repeat' first | exact Sub.nil | apply Sub.cons | rfl | (simp [lk]; omega)) (fun _ h => h)
 obtain ⟨k, hk, hn⟩ := k
 dsimp only
 refine sy_seq ?_
 refine sy_tx' [0] rfl ?_
 refine sp rfl (PE.lss rfl rfl) rfl ?_
 refine sy_seq ?_
 refine sy_cond rfl (fun hc1 => ?_) (fun hc1 => ?_)
 simp only [decide_eq_true_eq, decide_eq_false_iff_not, Bool.and_eq_true, Bool.or_eq_true, Bool.not_eq_true', Int.not_le, Int.not_lt] at hc1
 obtain ⟨x, hx⟩ : ∃ x, xs[k]? = some x := ⟨_, List.getElem?_eq_getElem (by omega)⟩
 obtain ⟨z, hz⟩ : ∃ z, ys[k]? = some z := ⟨_, List.getElem?_eq_getElem (by omega)⟩
 refine sy_addr (a := a) (sz := 5) (rows := hrows xs) (by intro h0; simp [hrows] at h0; simp [h0] at hx) (fun b off he => ?_)
 subst he
 refine sy_addr (a := a2) (sz := 5) (rows := hrows ys) (by intro h0; simp [hrows] at h0; simp [h0] at hz) (fun b2 off2 he => ?_)
 subst he
 refine sy_skip ?_
 refine sy_seq ?_
 refine sy_block ?_
 refine sy_seq ?_
 refine sy_tx' [0, 1] rfl ?_
 refine sp rfl (PE.move rfl) rfl ?_
 refine sp rfl (PE.assign rfl) rfl ?_
 refine sy_seq ?_
 refine sy_draw [0, 0, 3, 7, 0, 0, 48, 112, 255] (.tk 0 (.tk 1 (.tk 2 (.ld 3 (.tk 4 (.tk 5 (.tk 6 (.ld 7 (.tk 8 .done))))))))) mixed (by kernel_rfl) ?_
 refine tk rfl (PE.move rfl) rfl ?_
 refine tk rfl (PE.move rfl) rfl ?_
 refine tk rfl (PE.indexAddr el77 rfl rfl (by omega) (by omega)) rfl ?_
 refine ld rfl rfl (lfA ag83 (row := hrow x) (by simp [hrows, hx]) rfl) rfl ?_
 refine tk rfl (PE.move rfl) rfl ?_
 refine tk rfl (PE.move rfl) rfl ?_
 refine tk rfl (PE.indexAddr el77 rfl rfl (by omega) (by omega)) rfl ?_
 refine ld rfl rfl (lfA ag83 (row := hrow z) (by simp [hrows, hz]) rfl) rfl ?_
 refine tk rfl (PE.neqAgg [x.spot, x.a, x.b, x.c, x.d] [z.spot, z.a, z.b, z.c, z.d] (eqB_ok 10000 83 true 5 eqf83) eqg83 rfl rfl rfl rfl) rfl ?_
 refine sy_cond rfl (fun hc2 => ?_) (fun hc2 => ?_)
 have hne : xs ≠ ys := fun e => by subst e; rw [hx] at hz; cases hz; simp at hc2
 refine sy_seq ?_
 refine sy_tx' [0] rfl ?_
 refine sp rfl (PE.assign rfl) rfl ?_
 refine sy_ret ?_
 exact sy_return (vs := [_]) rfl (.cons (RV.tmp rfl) .nil) rfl ⟨by first | (simp only [retV]; rw [decide_eq_true heq]; done) | (simp only [retV]; rw [decide_eq_false hne]), rfl, rfl⟩ (fun _ h => h)
 have hxz : x = z := by cases x; cases z; simpa using hc2
 refine sy_skip ?_
 refine sy_tx' [0, 1] rfl ?_
 refine sp rfl (PE.add rfl rfl (by omega)) rfl ?_
 refine sp rfl (PE.move rfl) rfl ?_
 exact sy_next ⟨k + 1, by omega, by rw [List.take_add_one, List.take_add_one, hn, hx, hz, hxz]⟩ (by dsimp only; omega) (by repeat' first | exact Sub.nil | apply Sub.cons | rfl | (simp [lk]; omega)) (fun _ h => h)
 simp only [decide_eq_true_eq, decide_eq_false_iff_not, Bool.and_eq_true, Bool.or_eq_true, Bool.not_eq_true', Int.not_le, Int.not_lt] at hc1
 obtain rfl : k = xs.length := by omega
 have heq : xs = ys := by
   rw [List.take_length] at hn
   exact hn.trans (by rw [hle]; exact List.take_length)
 refine sy_exit ?_
 repeat refine sy_tx ?_
 refine sy_bx ?_
 refine sy_seq ?_
 refine sy_tx' [0] rfl ?_
 refine sp rfl (PE.assign rfl) rfl ?_
 refine sy_ret ?_
 exact sy_return (vs := [_]) rfl (.cons (RV.tmp rfl) .nil) rfl ⟨by first | (simp only [retV]; rw [decide_eq_true heq]; done) | (simp only [retV]; rw [decide_eq_false hne]), rfl, rfl⟩ (fun _ h => h)
theorem c_Eq_grd (xs ys : List Grd) (a a2 : Option Addr) (c c2 : Nat) (hl : xs.length ≤ 9223372036854775807) (hl2 : ys.length ≤ 9223372036854775807) (H : Heap) (R : Facts) [hR : MemRows a 5 (grows xs) R] [hR2 : MemRows a2 5 (grows ys) R] :
    FnV Tryz.prog 94 [.slice a xs.length c, .slice a2 ys.length c2] H R (.bool (decide (xs = ys))) := by
 refine fn_of Tryz.func94 rfl Tryz.ntmps94 rfl ?_
 refine sy_seq ?_
 refine sy_tx' [0] rfl ?_
 refine sp rfl (PE.assign rfl) rfl ?_
 refine sy_seq ?_
 refine sy_tx' [0, 1, 2, 3] rfl ?_
 refine sp rfl (PE.move rfl) rfl ?_
 refine sp rfl (PE.move rfl) rfl ?_
 refine clV rfl cal118 rfl rfl (c_eq_grd xs ys a a2 c c2 hl hl2 _ _) ?_
 refine sp rfl (PE.assign rfl) rfl ?_
 refine sy_ret ?_
 exact sy_return (vs := [_]) rfl (.cons (RV.tmp rfl) .nil) rfl ⟨rfl, rfl, rfl⟩ drp
theorem c_Eq_hnd (xs ys : List Hnd) (a a2 : Option Addr) (c c2 : Nat) (hl : xs.length ≤ 9223372036854775807) (hl2 : ys.length ≤ 9223372036854775807) (H : Heap) (R : Facts) [hR : MemRows a 5 (hrows xs) R] [hR2 : MemRows a2 5 (hrows ys) R] :
    FnV Tryz.prog 95 [.slice a xs.length c, .slice a2 ys.length c2] H R (.bool (decide (xs = ys))) := by
 refine fn_of Tryz.func95 rfl Tryz.ntmps95 rfl ?_
 refine sy_seq ?_
 refine sy_tx' [0] rfl ?_
 refine sp rfl (PE.assign rfl) rfl ?_
 refine sy_seq ?_
 refine sy_tx' [0, 1, 2, 3] rfl ?_
 refine sp rfl (PE.move rfl) rfl ?_
 refine sp rfl (PE.move rfl) rfl ?_
 refine clV rfl cal119 rfl rfl (c_eq_hnd xs ys a a2 c c2 hl hl2 _ _) ?_
 refine sp rfl (PE.assign rfl) rfl ?_
 refine sy_ret ?_
 exact sy_return (vs := [_]) rfl (.cons (RV.tmp rfl) .nil) rfl ⟨rfl, rfl, rfl⟩ drp
theorem c_Eq_rhd (xs ys : List Hnd) (a a2 : Option Addr) (c c2 : Nat) (hl : xs.length ≤ 9223372036854775807) (hl2 : ys.length ≤ 9223372036854775807) (H : Heap) (R : Facts) [hR : MemRows a 5 (hrows xs) R] [hR2 : MemRows a2 5 (hrows ys) R] :
    FnV Tryz.prog 44 [.slice a xs.length c, .slice a2 ys.length c2] H R (.bool (decide (xs = ys))) := by
 refine fn_of Tryz.func44 rfl Tryz.ntmps44 rfl ?_
 refine sy_seq ?_
 refine sy_tx' [0] rfl ?_
 refine sp rfl (PE.assign rfl) rfl ?_
 refine sy_seq ?_
 refine sy_tx' [0, 1, 2, 3] rfl ?_
 refine sp rfl (PE.move rfl) rfl ?_
 refine sp rfl (PE.move rfl) rfl ?_
 refine clV rfl cal93 rfl rfl (c_eq_rhd xs ys a a2 c c2 hl hl2 _ _) ?_
 refine sp rfl (PE.assign rfl) rfl ?_
 refine sy_ret ?_
 exact sy_return (vs := [_]) rfl (.cons (RV.tmp rfl) .nil) rfl ⟨rfl, rfl, rfl⟩ drp
theorem c_same (g : Gat) (a a2 : Option Addr) (cy c2 : Nat) (hl : g.grs.length ≤ 1000) (H : Heap) (R : Facts) [hG : MemRows a 5 (grows g.grs) R] [hG2 : MemRows a2 5 (grows g.grs) R] :
    FnV Tryz.prog 45 [g.v (g.sl a cy), g.v (g.sl a2 c2)] H R (.bool true) := by
 refine fn_of Tryz.func45 rfl Tryz.ntmps45 rfl ?_
 refine sy_seq ?_
 refine sy_tx' [0, 1, 2] rfl ?_
 refine bx rfl rfl rfl (fun b2 => ?_)
 refine bx rfl rfl rfl (fun b3 => ?_)
 refine sp rfl (PE.assign rfl) rfl ?_
 refine sy_seq ?_
 refine sy_tx' [0, 1, 2, 3, 4, 5, 6, 7, 8, 9, 10, 11, 12, 13, 14, 15, 16, 17, 18, 19] rfl ?_
 refine sp rfl (PE.fieldAddr fo25_0 rfl) rfl ?_
 refine spL rfl rfl (lh sc3 rfl rfl) rfl ?_
 refine sp rfl (PE.fieldAddr fo25_0 rfl) rfl ?_
 refine spL rfl rfl (lh sc3 rfl rfl) rfl ?_
 refine sp rfl (PE.eql rfl rfl) rfl ?_
 refine sp rfl (PE.move rfl) rfl ?_
 refine sy_case (t := 10) rfl (fun g10 => ?_) (fun g10 => ?_)
 refine spG rfl rfl rfl rfl (PE.fieldAddr fo25_1 rfl) rfl ?_
 refine spLG rfl rfl rfl rfl rfl (lh sc3 rfl rfl) rfl ?_
 refine spG rfl rfl rfl rfl (PE.fieldAddr fo25_1 rfl) rfl ?_
 refine spLG rfl rfl rfl rfl rfl (lh sc3 rfl rfl) rfl ?_
 refine spG rfl rfl rfl rfl (PE.eql rfl rfl) rfl ?_
 refine sp rfl (PE.pick rfl rfl rfl) rfl ?_
 refine sp rfl (PE.move rfl) rfl ?_
 refine sy_case (t := 17) rfl (fun g17 => ?_) (fun g17 => ?_)
 refine spG rfl rfl rfl rfl (PE.fieldAddr fo25_2 rfl) rfl ?_
 refine spLG rfl rfl rfl rfl rfl (lh sc23 rfl rfl) rfl ?_
 refine spG rfl rfl rfl rfl (PE.fieldAddr fo25_2 rfl) rfl ?_
 refine spLG rfl rfl rfl rfl rfl (lh sc23 rfl rfl) rfl ?_
 refine clG rfl rfl rfl rfl cal94 rfl rfl (c_Eq_grd g.grs g.grs a a2 cy c2 (by omega) (by omega) _ _) ?_
 rintro _ _ _ ⟨rfl, rfl, rfl⟩
 rw [decide_eq_true (rfl : g.grs = g.grs)]
 refine sp rfl (PE.pick rfl rfl rfl) rfl ?_
 refine sp rfl (PE.assign rfl) rfl ?_
 refine sy_ret ?_
 exact sy_return (vs := [_]) rfl (.cons (RV.tmp rfl) .nil) rfl ⟨rfl, rfl, rfl⟩ drp
 exact absurd g17 (by simp)
 exact absurd g10 (by simp)
theorem c_alike (c : Crt) (a a2 : Option Addr) (cy c2 : Nat) (hl : c.hs.length ≤ 1000) (H : Heap) (R : Facts) [hG : MemRows a 5 (hrows c.hs) R] [hG2 : MemRows a2 5 (hrows c.hs) R] :
    FnV Tryz.prog 46 [c.v (c.sl a cy), c.v (c.sl a2 c2)] H R (.bool true) := by
 refine fn_of Tryz.func46 rfl Tryz.ntmps46 rfl ?_
 refine sy_seq ?_
 refine sy_tx' [0, 1, 2] rfl ?_
 refine bx rfl rfl rfl (fun b2 => ?_)
 refine bx rfl rfl rfl (fun b3 => ?_)
 refine sp rfl (PE.assign rfl) rfl ?_
 refine sy_seq ?_
 refine sy_tx' [0, 1, 2, 3, 4, 5, 6, 7, 8, 9, 10, 11, 12, 13, 14, 15, 16, 17, 18, 19] rfl ?_
 refine sp rfl (PE.fieldAddr fo28_0 rfl) rfl ?_
 refine spL rfl rfl (lh sc3 rfl rfl) rfl ?_
 refine sp rfl (PE.fieldAddr fo28_0 rfl) rfl ?_
 refine spL rfl rfl (lh sc3 rfl rfl) rfl ?_
 refine sp rfl (PE.eql rfl rfl) rfl ?_
 refine sp rfl (PE.move rfl) rfl ?_
 refine sy_case (t := 10) rfl (fun g10 => ?_) (fun g10 => ?_)
 refine spG rfl rfl rfl rfl (PE.fieldAddr fo28_1 rfl) rfl ?_
 refine spLG rfl rfl rfl rfl rfl (lh sc3 rfl rfl) rfl ?_
 refine spG rfl rfl rfl rfl (PE.fieldAddr fo28_1 rfl) rfl ?_
 refine spLG rfl rfl rfl rfl rfl (lh sc3 rfl rfl) rfl ?_
 refine spG rfl rfl rfl rfl (PE.eql rfl rfl) rfl ?_
 refine sp rfl (PE.pick rfl rfl rfl) rfl ?_
 refine sp rfl (PE.move rfl) rfl ?_
 refine sy_case (t := 17) rfl (fun g17 => ?_) (fun g17 => ?_)
 refine spG rfl rfl rfl rfl (PE.fieldAddr fo28_2 rfl) rfl ?_
 refine spLG rfl rfl rfl rfl rfl (lh sc26 rfl rfl) rfl ?_
 refine spG rfl rfl rfl rfl (PE.fieldAddr fo28_2 rfl) rfl ?_
 refine spLG rfl rfl rfl rfl rfl (lh sc26 rfl rfl) rfl ?_
 refine clG rfl rfl rfl rfl cal95 rfl rfl (c_Eq_hnd c.hs c.hs a a2 cy c2 (by omega) (by omega) _ _) ?_
 rintro _ _ _ ⟨rfl, rfl, rfl⟩
 rw [decide_eq_true (rfl : c.hs = c.hs)]
 refine sp rfl (PE.pick rfl rfl rfl) rfl ?_
 refine sp rfl (PE.assign rfl) rfl ?_
 refine sy_ret ?_
 exact sy_return (vs := [_]) rfl (.cons (RV.tmp rfl) .nil) rfl ⟨rfl, rfl, rfl⟩ drp
 exact absurd g17 (by simp)
 exact absurd g10 (by simp)
theorem c_grt (g : Gat) (ag : Option Addr) (cg : Nat) (hlg : g.grs.length ≤ 9223372036854775807) (c : Crt) (ah : Option Addr) (ch : Nat) (hlh : c.hs.length ≤ 9223372036854775807) (H : Heap) (R : Facts) :
    FnV Tryz.prog 35 [g.v (g.sl ag cg), c.v (c.sl ah ch)] H R (.bool (decide (7 < g.grs.length) || decide (9 < c.hs.length))) := by
 refine fn_of Tryz.func35 rfl Tryz.ntmps35 rfl ?_
 refine sy_seq ?_
 refine sy_tx' [0, 1, 2] rfl ?_
 refine bx rfl rfl rfl (fun b2 => ?_)
 refine bx rfl rfl rfl (fun b3 => ?_)
 refine sp rfl (PE.assign rfl) rfl ?_
 refine sy_seq ?_
 refine sy_tx' [0, 1, 2, 3, 4, 5, 6, 7, 8, 9, 10] rfl ?_
 refine sp rfl (PE.fieldAddr fo25_2 rfl) rfl ?_
 refine spL rfl rfl (lh sc23 rfl rfl) rfl ?_
 refine sp rfl (PE.lenSl isl23 rfl) rfl ?_
 refine sp rfl (PE.gtr rfl rfl) rfl ?_
 refine sp rfl (PE.move rfl) rfl ?_
 refine sy_case (t := 9) rfl (fun g9 => ?_) (fun g9 => ?_)
 try simp only [decide_eq_true_eq, decide_eq_false_iff_not, Bool.and_eq_true, Bool.or_eq_true, Bool.not_eq_true', Int.not_le, Int.not_lt] at g9
 have hq : (decide (7 < g.grs.length) || decide (9 < c.hs.length)) = true := by simp; omega
 repeat refine spN rfl rfl rfl rfl rfl rfl rfl rfl ?_
 refine sp rfl (PE.pick rfl rfl rfl) rfl ?_
 refine sp rfl (PE.assign rfl) rfl ?_
 refine sy_ret ?_
 exact sy_return (vs := [_]) rfl (.cons (RV.tmp rfl) .nil) rfl ⟨by rw [hq]; rfl, rfl, rfl⟩ drp
 try simp only [decide_eq_true_eq, decide_eq_false_iff_not, Bool.and_eq_true, Bool.or_eq_true, Bool.not_eq_true', Int.not_le, Int.not_lt] at g9
 have hq : (decide (7 < g.grs.length) || decide (9 < c.hs.length)) = decide ((9 : Int) < (c.hs.length : Nat)) := by rw [decide_eq_false (by omega), Bool.false_or]; exact decide_eq_decide.2 (by omega)
 refine spG rfl rfl rfl rfl (PE.fieldAddr fo28_2 rfl) rfl ?_
 refine spLG rfl rfl rfl rfl rfl (lh sc26 rfl rfl) rfl ?_
 refine spG rfl rfl rfl rfl (PE.lenSl isl26 rfl) rfl ?_
 refine spG rfl rfl rfl rfl (PE.gtr rfl rfl) rfl ?_
 refine sp rfl (PE.pick rfl rfl rfl) rfl ?_
 refine sp rfl (PE.assign rfl) rfl ?_
 refine sy_ret ?_
 exact sy_return (vs := [_]) rfl (.cons (RV.tmp rfl) .nil) rfl ⟨by rw [hq]; rfl, rfl, rfl⟩ drp
theorem c_theirs (g : Gat) (a : Option Addr) (cy : Nat) (hl : g.grs.length ≤ 1000) (H : Heap) (R : Facts) [hG : MemRows a 5 (grows g.grs) R] :
    Fn Tryz.prog 42 [g.v (g.sl a cy)] H R (fun v H' R' => ∃ a9 c9, v = g.v (g.sl a9 c9) ∧ H' = H ∧ R' = RowsA a9 5 (grows g.grs) :: R) := by
 refine fn_of Tryz.func42 rfl Tryz.ntmps42 rfl ?_
 refine sy_seq ?_
 refine sy_tx' [0, 1] rfl ?_
 refine bx rfl rfl rfl (fun b1 => ?_)
 refine alc rfl zl89 rfl (fun b2 => ?_)
 refine sy_seq ?_
 refine sy_tx' [0, 1, 2, 3, 4, 5, 6] rfl ?_
 refine sp rfl (PE.fieldAddr fo25_0 rfl) rfl ?_
 refine spL rfl rfl (lh sc3 rfl rfl) rfl ?_
 refine sp rfl (PE.fieldAddr fo25_1 rfl) rfl ?_
 refine spL rfl rfl (lh sc3 rfl rfl) rfl ?_
 refine sp rfl (PE.build (out := gtl ⟨g.err, g.miss, []⟩ (.slice none 0 0)) pl89 zl89 rfl rfl) rfl ?_
 refine alc rfl zl89 rfl (fun b3 => ?_)
 refine sto rfl rfl rfl cn89 rfl rfl rfl rfl ?_
 refine sy_seq ?_
 refine sy_seq ?_
 refine sy_tx' [0, 1, 2, 3] rfl ?_
 refine sp rfl (PE.fieldAddr fo25_2 rfl) rfl ?_
 refine spL rfl rfl (lh sc23 rfl rfl) rfl ?_
 refine sp rfl (PE.lenSl isl23 rfl) rfl ?_
 refine sp rfl (PE.move rfl) rfl ?_
 refine sy_block ?_
 refine sy_loop (ι := (k : {k : Nat // k ≤ g.grs.length}) × OSl 140 5 (grows (g.grs.take k.1))) (fun x => ⟨[(1, .pointer (some ⟨b1, 0, none⟩)), (2, .pointer (some ⟨b2, 0, none⟩)), (3, .pointer (some ⟨b3, 0, none⟩)), (12, (g.sl a cy)), (13, .int .i64 g.grs.length), (14, .int .i64 x.1.1)], x.2.G ++ (b3, cel 89 (gtl ⟨g.err, g.miss, g.grs.take x.1.1⟩ x.2.fs)) :: (b2, cel 89 [.int .i64 0, .int .i64 0, .slice none 0 0]) :: (b1, cel 25 (gtl g (g.sl a cy))) :: H, R⟩) (fun x => g.grs.length - x.1.1) ⟨⟨0, by omega⟩, OSl.nil _ _⟩ ?_ (fun x => ?_)
 exact sy_at (by repeat' first | exact Sub.nil | apply Sub.cons | rfl | (simp [lk]; omega)) (fun _ h => h)
 obtain ⟨⟨i, hi⟩, o⟩ := x
 dsimp only at hi o ⊢
 refine sy_seq ?_
 refine sy_tx' [0] rfl ?_
 refine sp rfl (PE.lss rfl rfl) rfl ?_
 refine sy_seq ?_
 refine sy_cond rfl (fun hc0 => ?_) (fun hc0 => ?_)
 try simp only [decide_eq_true_eq, decide_eq_false_iff_not, Bool.and_eq_true, Bool.or_eq_true, Bool.not_eq_true', Int.not_le, Int.not_lt] at hc0
 obtain ⟨x, hx⟩ : ∃ x, g.grs[i]? = some x := ⟨_, List.getElem?_eq_getElem (by omega)⟩
 refine sy_addr (a := a) (sz := 5) (rows := grows g.grs) (by intro h0; simp [grows] at h0; simp [h0] at hx) (fun ba oa he => ?_)
 subst he
 refine sy_skip ?_
 refine sy_seq ?_
 refine sy_block ?_
 refine sy_seq ?_
 refine sy_tx' [0, 1, 2, 3] rfl ?_
 refine sp rfl (PE.indexAddr el23 rfl rfl (by omega) (by omega)) rfl ?_
 refine spL rfl rfl (lfA ag36 (row := grow x) (gr_get (by simpa using hx)) rfl) rfl ?_
 refine alc rfl zl36 rfl (fun b5 => ?_)
 refine sto rfl rfl rfl cn36 rfl rfl rfl rfl ?_
 refine sy_tx' [0, 1, 2, 3, 4, 5, 6] rfl ?_
 refine sp rfl (PE.fieldAddr fo89_2 rfl) rfl ?_
 refine spL rfl rfl (lh sc87 rfl rfl) rfl ?_
 refine spL rfl rfl (lhA (grow x) ag36 rfl (rest := []) (by rw [List.append_nil]; rfl) rfl) rfl ?_
 refine bsl (out := [_, _, _, _, _]) rfl sl87 zl140 rfl rfl rfl rfl rfl rfl (fun b21 => ?_)
 refine apO (o) rfl ap87 rfl rfl (rowsH (row := grow x) rfl) rfl rfl ((by simp only [grows, List.length_map, List.length_singleton, List.length_take]; omega)) rfl (fun o22 => ?_)
 refine sp rfl (PE.fieldAddr fo89_2 rfl) rfl ?_
 refine stoE (l' := gtl ⟨g.err, g.miss, g.grs.take (i + 1)⟩ o22.fs) rfl rfl rfl cn87 rfl (by rw [o22.cells.1]; first | done | rfl) (by rw [o22.cells.1]; simp [o22.cells.2]) (by rw [o22.cells.1]; first | done | rfl) (by rw [o22.cells.1]; first | done | exact Nat.le_refl _) ?_
 refine sy_tx' [0, 1] rfl ?_
 refine sp rfl (PE.add rfl rfl (by omega)) rfl ?_
 refine sp rfl (PE.move rfl) rfl ?_
 exact sy_next ⟨⟨i + 1, by omega⟩, o22.cast (by rw [List.take_add_one, hx]; simp [grows])⟩ (by dsimp only; omega) (by repeat' first | exact Sub.nil | apply Sub.cons | rfl | (simp [lk]; omega)) (fun w h => (h.del b21).del b5)
 try simp only [decide_eq_true_eq, decide_eq_false_iff_not, Bool.and_eq_true, Bool.or_eq_true, Bool.not_eq_true', Int.not_le, Int.not_lt] at hc0
 obtain rfl : i = g.grs.length := by omega
 rw [show ⟨g.err, g.miss, g.grs.take g.grs.length⟩ = g from by rw [List.take_length]]
 obtain ⟨a9, c9, he, hf⟩ := o.freeze
 rw [he]
 refine Sy.heap (H' := _) (fun w h => hf h) ?_
 rw [show (grows (g.grs.take g.grs.length)) = grows g.grs from by rw [List.take_length], show (grows g.grs).length = g.grs.length from List.length_map _]
 refine sy_exit ?_
 repeat refine sy_tx ?_
 refine sy_bx ?_
 refine sy_seq ?_
 refine sy_tx' [0, 1] rfl ?_
 refine spL rfl rfl (lhA (gtl g (g.sl a9 c9)) ag89 rfl rfl rfl) rfl ?_
 refine sto rfl rfl rfl cn89 rfl rfl rfl rfl ?_
 refine sy_ret ?_
 exact sy_return (vs := [_]) rfl (.cons (RV.cell rfl (lhA [_, _, _] ag89 rfl rfl rfl)) .nil) rfl ⟨a9, c9, rfl, rfl, rfl⟩ (fun w h => ((h.del b3).del b2).del b1)
theorem c_come (c : Crt) (a : Option Addr) (cy : Nat) (hl : c.hs.length ≤ 1000) (H : Heap) (R : Facts) [hG : MemRows a 5 (hrows c.hs) R] :
    Fn Tryz.prog 39 [c.v (c.sl a cy)] H R (fun v H' R' => ∃ a9 c9, v = c.v (c.sl a9 c9) ∧ H' = H ∧ R' = RowsA a9 5 (hrows c.hs) :: R) := by
 refine fn_of Tryz.func39 rfl Tryz.ntmps39 rfl ?_
 refine sy_seq ?_
 refine sy_tx' [0, 1] rfl ?_
 refine bx rfl rfl rfl (fun b1 => ?_)
 refine alc rfl zl79 rfl (fun b2 => ?_)
 refine sy_seq ?_
 refine sy_tx' [0, 1, 2, 3, 4, 5, 6] rfl ?_
 refine sp rfl (PE.fieldAddr fo28_0 rfl) rfl ?_
 refine spL rfl rfl (lh sc3 rfl rfl) rfl ?_
 refine sp rfl (PE.fieldAddr fo28_1 rfl) rfl ?_
 refine spL rfl rfl (lh sc3 rfl rfl) rfl ?_
 refine sp rfl (PE.build (out := ctl ⟨c.full, c.empty, []⟩ (.slice none 0 0)) pl79 zl79 rfl rfl) rfl ?_
 refine alc rfl zl79 rfl (fun b3 => ?_)
 refine sto rfl rfl rfl cn79 rfl rfl rfl rfl ?_
 refine sy_seq ?_
 refine sy_seq ?_
 refine sy_tx' [0, 1, 2, 3] rfl ?_
 refine sp rfl (PE.fieldAddr fo28_2 rfl) rfl ?_
 refine spL rfl rfl (lh sc26 rfl rfl) rfl ?_
 refine sp rfl (PE.lenSl isl26 rfl) rfl ?_
 refine sp rfl (PE.move rfl) rfl ?_
 refine sy_block ?_
 refine sy_loop (ι := (k : {k : Nat // k ≤ c.hs.length}) × OSl 83 5 (hrows (c.hs.take k.1))) (fun x => ⟨[(1, .pointer (some ⟨b1, 0, none⟩)), (2, .pointer (some ⟨b2, 0, none⟩)), (3, .pointer (some ⟨b3, 0, none⟩)), (12, (c.sl a cy)), (13, .int .i64 c.hs.length), (14, .int .i64 x.1.1)], x.2.G ++ (b3, cel 79 (ctl ⟨c.full, c.empty, c.hs.take x.1.1⟩ x.2.fs)) :: (b2, cel 79 [.int .i64 0, .int .i64 0, .slice none 0 0]) :: (b1, cel 28 (ctl c (c.sl a cy))) :: H, R⟩) (fun x => c.hs.length - x.1.1) ⟨⟨0, by omega⟩, OSl.nil _ _⟩ ?_ (fun x => ?_)
 exact sy_at (by repeat' first | exact Sub.nil | apply Sub.cons | rfl | (simp [lk]; omega)) (fun _ h => h)
 obtain ⟨⟨i, hi⟩, o⟩ := x
 dsimp only at hi o ⊢
 refine sy_seq ?_
 refine sy_tx' [0] rfl ?_
 refine sp rfl (PE.lss rfl rfl) rfl ?_
 refine sy_seq ?_
 refine sy_cond rfl (fun hc0 => ?_) (fun hc0 => ?_)
 try simp only [decide_eq_true_eq, decide_eq_false_iff_not, Bool.and_eq_true, Bool.or_eq_true, Bool.not_eq_true', Int.not_le, Int.not_lt] at hc0
 obtain ⟨x, hx⟩ : ∃ x, c.hs[i]? = some x := ⟨_, List.getElem?_eq_getElem (by omega)⟩
 refine sy_addr (a := a) (sz := 5) (rows := hrows c.hs) (by intro h0; simp [hrows] at h0; simp [h0] at hx) (fun ba oa he => ?_)
 subst he
 refine sy_skip ?_
 refine sy_seq ?_
 refine sy_block ?_
 refine sy_seq ?_
 refine sy_tx' [0, 1, 2, 3] rfl ?_
 refine sp rfl (PE.indexAddr el26 rfl rfl (by omega) (by omega)) rfl ?_
 refine spL rfl rfl (lfA ag33 (row := hrow x) (hr_get (by simpa using hx)) rfl) rfl ?_
 refine alc rfl zl33 rfl (fun b5 => ?_)
 refine sto rfl rfl rfl cn33 rfl rfl rfl rfl ?_
 refine sy_tx' [0, 1, 2, 3, 4, 5, 6] rfl ?_
 refine sp rfl (PE.fieldAddr fo79_2 rfl) rfl ?_
 refine spL rfl rfl (lh sc77 rfl rfl) rfl ?_
 refine spL rfl rfl (lhA (hrow x) ag33 rfl (rest := []) (by rw [List.append_nil]; rfl) rfl) rfl ?_
 refine bsl (out := [_, _, _, _, _]) rfl sl77 zl83 rfl rfl rfl rfl rfl rfl (fun b21 => ?_)
 refine apO (o) rfl ap77 rfl rfl (rowsH (row := hrow x) rfl) rfl rfl ((by simp only [hrows, List.length_map, List.length_singleton, List.length_take]; omega)) rfl (fun o22 => ?_)
 refine sp rfl (PE.fieldAddr fo79_2 rfl) rfl ?_
 refine stoE (l' := ctl ⟨c.full, c.empty, c.hs.take (i + 1)⟩ o22.fs) rfl rfl rfl cn77 rfl (by rw [o22.cells.1]; first | done | rfl) (by rw [o22.cells.1]; simp [o22.cells.2]) (by rw [o22.cells.1]; first | done | rfl) (by rw [o22.cells.1]; first | done | exact Nat.le_refl _) ?_
 refine sy_tx' [0, 1] rfl ?_
 refine sp rfl (PE.add rfl rfl (by omega)) rfl ?_
 refine sp rfl (PE.move rfl) rfl ?_
 exact sy_next ⟨⟨i + 1, by omega⟩, o22.cast (by rw [List.take_add_one, hx]; simp [hrows])⟩ (by dsimp only; omega) (by repeat' first | exact Sub.nil | apply Sub.cons | rfl | (simp [lk]; omega)) (fun w h => (h.del b21).del b5)
 try simp only [decide_eq_true_eq, decide_eq_false_iff_not, Bool.and_eq_true, Bool.or_eq_true, Bool.not_eq_true', Int.not_le, Int.not_lt] at hc0
 obtain rfl : i = c.hs.length := by omega
 rw [show ⟨c.full, c.empty, c.hs.take c.hs.length⟩ = c from by rw [List.take_length]]
 obtain ⟨a9, c9, he, hf⟩ := o.freeze
 rw [he]
 refine Sy.heap (H' := _) (fun w h => hf h) ?_
 rw [show (hrows (c.hs.take c.hs.length)) = hrows c.hs from by rw [List.take_length], show (hrows c.hs).length = c.hs.length from List.length_map _]
 refine sy_exit ?_
 repeat refine sy_tx ?_
 refine sy_bx ?_
 refine sy_seq ?_
 refine sy_tx' [0, 1] rfl ?_
 refine spL rfl rfl (lhA (ctl c (c.sl a9 c9)) ag79 rfl rfl rfl) rfl ?_
 refine sto rfl rfl rfl cn79 rfl rfl rfl rfl ?_
 refine sy_ret ?_
 exact sy_return (vs := [_]) rfl (.cons (RV.cell rfl (lhA [_, _, _] ag79 rfl rfl rfl)) .nil) rfl ⟨a9, c9, rfl, rfl, rfl⟩ (fun w h => ((h.del b3).del b2).del b1)
theorem c_comeH (c : Crt) (bo : Nat) (junk : List Value) (cy : Nat) (hl : c.hs.length ≤ 1000) (H : Heap) (R : Facts) [hM : Mem1 bo (cel 33 ((hrows c.hs).flatten ++ junk)) H] :
    Fn Tryz.prog 39 [c.v (.slice (some ⟨bo, 0, none⟩) c.hs.length cy)] H R (fun v H' R' => ∃ a9 c9, v = c.v (c.sl a9 c9) ∧ H' = H ∧ R' = RowsA a9 5 (hrows c.hs) :: R) := by
 refine fn_of Tryz.func39 rfl Tryz.ntmps39 rfl ?_
 refine sy_seq ?_
 refine sy_tx' [0, 1] rfl ?_
 refine bx rfl rfl rfl (fun b1 => ?_)
 refine alc rfl zl79 rfl (fun b2 => ?_)
 refine sy_seq ?_
 refine sy_tx' [0, 1, 2, 3, 4, 5, 6] rfl ?_
 refine sp rfl (PE.fieldAddr fo28_0 rfl) rfl ?_
 refine spL rfl rfl (lh sc3 rfl rfl) rfl ?_
 refine sp rfl (PE.fieldAddr fo28_1 rfl) rfl ?_
 refine spL rfl rfl (lh sc3 rfl rfl) rfl ?_
 refine sp rfl (PE.build (out := ctl ⟨c.full, c.empty, []⟩ (.slice none 0 0)) pl79 zl79 rfl rfl) rfl ?_
 refine alc rfl zl79 rfl (fun b3 => ?_)
 refine sto rfl rfl rfl cn79 rfl rfl rfl rfl ?_
 refine sy_seq ?_
 refine sy_seq ?_
 refine sy_tx' [0, 1, 2, 3] rfl ?_
 refine sp rfl (PE.fieldAddr fo28_2 rfl) rfl ?_
 refine spL rfl rfl (lh sc26 rfl rfl) rfl ?_
 refine sp rfl (PE.lenSl isl26 rfl) rfl ?_
 refine sp rfl (PE.move rfl) rfl ?_
 refine sy_block ?_
 refine sy_loop (ι := (k : {k : Nat // k ≤ c.hs.length}) × OSl 83 5 (hrows (c.hs.take k.1))) (fun x => ⟨[(1, .pointer (some ⟨b1, 0, none⟩)), (2, .pointer (some ⟨b2, 0, none⟩)), (3, .pointer (some ⟨b3, 0, none⟩)), (12, (.slice (some ⟨bo, 0, none⟩) c.hs.length cy)), (13, .int .i64 c.hs.length), (14, .int .i64 x.1.1)], x.2.G ++ (b3, cel 79 (ctl ⟨c.full, c.empty, c.hs.take x.1.1⟩ x.2.fs)) :: (b2, cel 79 [.int .i64 0, .int .i64 0, .slice none 0 0]) :: (b1, cel 28 (ctl c (.slice (some ⟨bo, 0, none⟩) c.hs.length cy))) :: H, R⟩) (fun x => c.hs.length - x.1.1) ⟨⟨0, by omega⟩, OSl.nil _ _⟩ ?_ (fun x => ?_)
 exact sy_at (by repeat' first | exact Sub.nil | apply Sub.cons | rfl | (simp [lk]; omega)) (fun _ h => h)
 obtain ⟨⟨i, hi⟩, o⟩ := x
 dsimp only at hi o ⊢
 refine sy_seq ?_
 refine sy_tx' [0] rfl ?_
 refine sp rfl (PE.lss rfl rfl) rfl ?_
 refine sy_seq ?_
 refine sy_cond rfl (fun hc0 => ?_) (fun hc0 => ?_)
 try simp only [decide_eq_true_eq, decide_eq_false_iff_not, Bool.and_eq_true, Bool.or_eq_true, Bool.not_eq_true', Int.not_le, Int.not_lt] at hc0
 obtain ⟨x, hx⟩ : ∃ x, c.hs[i]? = some x := ⟨_, List.getElem?_eq_getElem (by omega)⟩
 refine sy_skip ?_
 refine sy_seq ?_
 refine sy_block ?_
 refine sy_seq ?_
 refine sy_tx' [0, 1, 2, 3] rfl ?_
 refine sp rfl (PE.indexAddr el26 rfl rfl (by omega) (by omega)) rfl ?_
 refine spL rfl rfl (lhA (hrow x) ag33 rfl (hr_drop hx) rfl) rfl ?_
 refine alc rfl zl33 rfl (fun b5 => ?_)
 refine sto rfl rfl rfl cn33 rfl rfl rfl rfl ?_
 refine sy_tx' [0, 1, 2, 3, 4, 5, 6] rfl ?_
 refine sp rfl (PE.fieldAddr fo79_2 rfl) rfl ?_
 refine spL rfl rfl (lh sc77 rfl rfl) rfl ?_
 refine spL rfl rfl (lhA (hrow x) ag33 rfl (rest := []) (by rw [List.append_nil]; rfl) rfl) rfl ?_
 refine bsl (out := [_, _, _, _, _]) rfl sl77 zl83 rfl rfl rfl rfl rfl rfl (fun b21 => ?_)
 refine apO (o) rfl ap77 rfl rfl (rowsH (row := hrow x) rfl) rfl rfl ((by simp only [hrows, List.length_map, List.length_singleton, List.length_take]; omega)) rfl (fun o22 => ?_)
 refine sp rfl (PE.fieldAddr fo79_2 rfl) rfl ?_
 refine stoE (l' := ctl ⟨c.full, c.empty, c.hs.take (i + 1)⟩ o22.fs) rfl rfl rfl cn77 rfl (by rw [o22.cells.1]; first | done | rfl) (by rw [o22.cells.1]; simp [o22.cells.2]) (by rw [o22.cells.1]; first | done | rfl) (by rw [o22.cells.1]; first | done | exact Nat.le_refl _) ?_
 refine sy_tx' [0, 1] rfl ?_
 refine sp rfl (PE.add rfl rfl (by omega)) rfl ?_
 refine sp rfl (PE.move rfl) rfl ?_
 exact sy_next ⟨⟨i + 1, by omega⟩, o22.cast (by rw [List.take_add_one, hx]; simp [hrows])⟩ (by dsimp only; omega) (by repeat' first | exact Sub.nil | apply Sub.cons | rfl | (simp [lk]; omega)) (fun w h => (h.del b21).del b5)
 try simp only [decide_eq_true_eq, decide_eq_false_iff_not, Bool.and_eq_true, Bool.or_eq_true, Bool.not_eq_true', Int.not_le, Int.not_lt] at hc0
 obtain rfl : i = c.hs.length := by omega
 rw [show ⟨c.full, c.empty, c.hs.take c.hs.length⟩ = c from by rw [List.take_length]]
 obtain ⟨a9, c9, he, hf⟩ := o.freeze
 rw [he]
 refine Sy.heap (H' := _) (fun w h => hf h) ?_
 rw [show (hrows (c.hs.take c.hs.length)) = hrows c.hs from by rw [List.take_length], show (hrows c.hs).length = c.hs.length from List.length_map _]
 refine sy_exit ?_
 repeat refine sy_tx ?_
 refine sy_bx ?_
 refine sy_seq ?_
 refine sy_tx' [0, 1] rfl ?_
 refine spL rfl rfl (lhA (ctl c (c.sl a9 c9)) ag79 rfl rfl rfl) rfl ?_
 refine sto rfl rfl rfl cn79 rfl rfl rfl rfl ?_
 refine sy_ret ?_
 exact sy_return (vs := [_]) rfl (.cons (RV.cell rfl (lhA [_, _, _] ag79 rfl rfl rfl)) .nil) rfl ⟨a9, c9, rfl, rfl, rfl⟩ (fun w h => ((h.del b3).del b2).del b1)
theorem c_off (n lo hi : Int) (H : Heap) (R : Facts) :
    FnV Tryz.prog 91 [.int .i64 n, .int .i64 lo, .int .i64 hi] H R (.bool (!(inb n lo hi))) := by
 refine fn_of Tryz.func91 rfl Tryz.ntmps91 rfl ?_
 refine sy_seq ?_
 refine sy_tx' [0] rfl ?_
 refine sp rfl (PE.assign rfl) rfl ?_
 refine sy_seq ?_
 refine sy_tx' [0, 1, 2, 3, 4, 5, 6, 7, 8] rfl ?_
 refine sp rfl (PE.move rfl) rfl ?_
 refine sp rfl (PE.move rfl) rfl ?_
 refine sp rfl (PE.lss rfl rfl) rfl ?_
 refine sp rfl (PE.move rfl) rfl ?_
 refine sy_case (t := 10) rfl (fun g10 => ?_) (fun g10 => ?_)
 try simp only [decide_eq_true_eq, decide_eq_false_iff_not, Bool.and_eq_true, Bool.or_eq_true, Bool.not_eq_true', Int.not_le, Int.not_lt] at g10
 have e : (!(inb n lo hi)) = true := by simp [inb]; omega
 repeat refine spN rfl rfl rfl rfl rfl rfl rfl rfl ?_
 refine sp rfl (PE.pick rfl rfl rfl) rfl ?_
 refine sp rfl (PE.assign rfl) rfl ?_
 refine sy_ret ?_
 exact sy_return (vs := [_]) rfl (.cons (RV.tmp rfl) .nil) rfl ⟨by rw [e]; rfl, rfl, rfl⟩ drp
 try simp only [decide_eq_true_eq, decide_eq_false_iff_not, Bool.and_eq_true, Bool.or_eq_true, Bool.not_eq_true', Int.not_le, Int.not_lt] at g10
 have e : (!(inb n lo hi)) = decide (hi < n) := by rw [show inb n lo hi = decide (n ≤ hi) by simp [inb]; omega, ← decide_not]; exact decide_eq_decide.2 (by omega)
 refine spG rfl rfl rfl rfl (PE.move rfl) rfl ?_
 refine spG rfl rfl rfl rfl (PE.move rfl) rfl ?_
 refine spG rfl rfl rfl rfl (PE.gtr rfl rfl) rfl ?_
 refine sp rfl (PE.pick rfl rfl rfl) rfl ?_
 refine sp rfl (PE.assign rfl) rfl ?_
 refine sy_ret ?_
 exact sy_return (vs := [_]) rfl (.cons (RV.tmp rfl) .nil) rfl ⟨by rw [e]; rfl, rfl, rfl⟩ drp
theorem c_rCheck (g : Gat) (ag : Option Addr) (cg : Nat) (hlg : g.grs.length ≤ 9223372036854775807) (H : Heap) (R : Facts) [hG : MemRows ag 5 (grows g.grs) R] :
    FnV Tryz.prog 41 [g.v (g.sl ag cg)] H R (.int .i64 g.check) := by
 refine fn_of Tryz.func41 rfl Tryz.ntmps41 rfl ?_
 refine sy_seq ?_
 refine sy_tx' [0, 1] rfl ?_
 refine bx rfl rfl rfl (fun b1 => ?_)
 refine sp rfl (PE.assign rfl) rfl ?_
 refine sy_seq ?_
 refine sy_seq ?_
 refine sy_tx' [0, 1, 2, 3] rfl ?_
 refine sp rfl (PE.fieldAddr fo89_2 rfl) rfl ?_
 refine spL rfl rfl (lh sc87 rfl rfl) rfl ?_
 refine sp rfl (PE.lenSl isl87 rfl) rfl ?_
 refine sp rfl (PE.gtr rfl rfl) rfl ?_
 refine sy_cond rfl (fun hc0 => ?_) (fun hc0 => ?_)
 try simp only [decide_eq_true_eq, decide_eq_false_iff_not, Bool.and_eq_true, Bool.or_eq_true, Bool.not_eq_true', Int.not_le, Int.not_lt] at hc0
 have hres := chk_many (g := g) (by omega)
 refine sy_seq ?_
 refine sy_tx' [0] rfl ?_
 refine sp rfl (PE.assign rfl) rfl ?_
 refine sy_ret ?_
 exact sy_return (vs := [_]) rfl (.cons (RV.tmp rfl) .nil) rfl ⟨by rw [hres]; rfl, rfl, rfl⟩ drp
 try simp only [decide_eq_true_eq, decide_eq_false_iff_not, Bool.and_eq_true, Bool.or_eq_true, Bool.not_eq_true', Int.not_le, Int.not_lt] at hc0
 have h4 : ¬ 4 < g.grs.length := by omega
 refine sy_skip ?_
 refine sy_seq ?_
 refine sy_seq ?_
 refine sy_tx' [0, 1, 2, 3, 4, 5, 6, 7] rfl ?_
 refine sp rfl (PE.fieldAddr fo89_0 rfl) rfl ?_
 refine spL rfl rfl (lh sc3 rfl rfl) rfl ?_
 refine clV rfl cal91 rfl rfl (c_off _ _ _ _ _) ?_
 refine sp rfl (PE.move rfl) rfl ?_
 refine sy_case (t := 13) rfl (fun g13 => ?_) (fun g13 => ?_)
 have hb : inb g.err 0 50 = false := by rw [← Bool.not_eq_true']; exact g13
 have hres := chk_rng h4 (.inl hb)
 repeat refine spN rfl rfl rfl rfl rfl rfl rfl rfl ?_
 refine sp rfl (PE.pick rfl rfl rfl) rfl ?_
 refine sy_condT rfl ?_
 refine sy_seq ?_
 refine sy_tx' [0] rfl ?_
 refine sp rfl (PE.assign rfl) rfl ?_
 refine sy_ret ?_
 exact sy_return (vs := [_]) rfl (.cons (RV.tmp rfl) .nil) rfl ⟨by rw [hres]; rfl, rfl, rfl⟩ drp
 have he : inb g.err 0 50 = true := by rw [← Bool.not_eq_false']; exact g13
 refine spG rfl rfl rfl rfl (PE.fieldAddr fo89_1 rfl) rfl ?_
 refine spLG rfl rfl rfl rfl rfl (lh sc3 rfl rfl) rfl ?_
 refine clVG rfl rfl rfl rfl cal91 rfl rfl (c_off _ _ _ _ _) ?_
 refine sp rfl (PE.pick rfl rfl rfl) rfl ?_
 refine sy_cond rfl (fun hc1 => ?_) (fun hc1 => ?_)
 have hb : inb g.miss 0 20 = false := by rw [← Bool.not_eq_true']; exact hc1
 have hres := chk_rng h4 (.inr hb)
 refine sy_seq ?_
 refine sy_tx' [0] rfl ?_
 refine sp rfl (PE.assign rfl) rfl ?_
 refine sy_ret ?_
 exact sy_return (vs := [_]) rfl (.cons (RV.tmp rfl) .nil) rfl ⟨by rw [hres]; rfl, rfl, rfl⟩ drp
 have hm : inb g.miss 0 20 = true := by rw [← Bool.not_eq_false']; exact hc1
 refine sy_skip ?_
 refine sy_seq ?_
 refine sy_seq ?_
 refine sy_tx' [0] rfl ?_
 refine sp rfl (PE.assign rfl) rfl ?_
 refine sy_block ?_
 refine sy_loop (ι := {i : Nat // i ≤ g.grs.length ∧ (g.grs.take i).all Grd.fine = true}) (fun i => ⟨[(1, .pointer (some ⟨b1, 0, none⟩)), (3, .int .i64 i.1)], (b1, cel 89 (gtl g (g.sl ag cg))) :: H, R⟩) (fun i => g.grs.length - i.1) ⟨0, by simp⟩ ?_ (fun i => ?_)
 exact sy_at (by repeat' first | exact Sub.nil | apply Sub.cons | rfl | (simp [lk]; omega)) (fun _ h => h)
 obtain ⟨i, hi, hn⟩ := i
 dsimp only at hi hn ⊢
 refine sy_seq ?_
 refine sy_seq ?_
 refine sy_tx' [0, 1, 2, 3, 4] rfl ?_
 refine sp rfl (PE.move rfl) rfl ?_
 refine sp rfl (PE.fieldAddr fo89_2 rfl) rfl ?_
 refine spL rfl rfl (lh sc87 rfl rfl) rfl ?_
 refine sp rfl (PE.lenSl isl87 rfl) rfl ?_
 refine sp rfl (PE.lss rfl rfl) rfl ?_
 refine sy_cond rfl (fun hc2 => ?_) (fun hc2 => ?_)
 try simp only [decide_eq_true_eq, decide_eq_false_iff_not, Bool.and_eq_true, Bool.or_eq_true, Bool.not_eq_true', Int.not_le, Int.not_lt] at hc2
 obtain ⟨x, hx⟩ : ∃ x, g.grs[i]? = some x := ⟨_, List.getElem?_eq_getElem (by omega)⟩
 refine sy_addr (a := ag) (sz := 5) (rows := grows g.grs) (by intro h0; simp [grows] at h0; simp [h0] at hx) (fun ba oa hea => ?_)
 subst hea
 refine sy_skip ?_
 refine sy_seq ?_
 refine sy_block ?_
 refine sy_seq ?_
 refine sy_tx' [0, 1, 2, 3, 4, 5, 6] rfl ?_
 refine sp rfl (PE.fieldAddr fo89_2 rfl) rfl ?_
 refine spL rfl rfl (lh sc87 rfl rfl) rfl ?_
 refine sp rfl (PE.move rfl) rfl ?_
 refine sp rfl (PE.indexAddr el87 rfl rfl (by omega) (by omega)) rfl ?_
 refine spL rfl rfl (lfA ag140 (row := grow x) (gr_get (by simpa using hx)) rfl) rfl ?_
 refine alc rfl zl140 rfl (fun b4 => ?_)
 refine sto rfl rfl rfl cn140 rfl rfl rfl rfl ?_
 refine sy_seq ?_
 refine sy_tx' [0, 1, 2, 3, 4, 5, 6, 7, 8, 9, 10, 11, 12, 13, 14, 15, 16, 17, 18, 19, 20, 21, 22] rfl ?_
 refine sp rfl (PE.fieldAddr fo140_0 rfl) rfl ?_
 refine spL rfl rfl (lh sc3 rfl rfl) rfl ?_
 refine clV rfl cal91 rfl rfl (c_off _ _ _ _ _) ?_
 refine sp rfl (PE.move rfl) rfl ?_
 refine sy_case (t := 33) rfl (fun g33 => ?_) (fun g33 => ?_)
 have hb : inb x.corn 0 40 = false := by rw [← Bool.not_eq_true']; exact g33
 have hres : g.check = 3 := chk_grd h4 he hm (all_bad hx (by rw [fine_eq, hb]; simp only [Bool.false_and, Bool.and_false]))
 repeat refine spN rfl rfl rfl rfl rfl rfl rfl rfl ?_
 refine sp rfl (PE.pick rfl rfl rfl) rfl ?_
 refine sp rfl (PE.move rfl) rfl ?_
 repeat refine spN rfl rfl rfl rfl rfl rfl rfl rfl ?_
 refine sp rfl (PE.pick rfl rfl rfl) rfl ?_
 refine sp rfl (PE.move rfl) rfl ?_
 repeat refine spN rfl rfl rfl rfl rfl rfl rfl rfl ?_
 refine sp rfl (PE.pick rfl rfl rfl) rfl ?_
 refine sp rfl (PE.move rfl) rfl ?_
 repeat refine spN rfl rfl rfl rfl rfl rfl rfl rfl ?_
 refine sp rfl (PE.pick rfl rfl rfl) rfl ?_
 refine sy_condT rfl ?_
 refine sy_seq ?_
 refine sy_tx' [0] rfl ?_
 refine sp rfl (PE.assign rfl) rfl ?_
 refine sy_ret ?_
 exact sy_return (vs := [_]) rfl (.cons (RV.tmp rfl) .nil) rfl ⟨by rw [hres]; rfl, rfl, rfl⟩ drp
 have q1 : inb x.corn 0 40 = true := by rw [← Bool.not_eq_false']; exact g33
 refine spG rfl rfl rfl rfl (PE.fieldAddr fo140_1 rfl) rfl ?_
 refine spLG rfl rfl rfl rfl rfl (lh sc3 rfl rfl) rfl ?_
 refine clVG rfl rfl rfl rfl cal91 rfl rfl (c_off _ _ _ _ _) ?_
 refine sp rfl (PE.pick rfl rfl rfl) rfl ?_
 refine sp rfl (PE.move rfl) rfl ?_
 refine sy_case (t := 38) rfl (fun g38 => ?_) (fun g38 => ?_)
 have hb : inb x.chaff 0 40 = false := by rw [← Bool.not_eq_true']; exact g38
 have hres : g.check = 3 := chk_grd h4 he hm (all_bad hx (by rw [fine_eq, hb]; simp only [Bool.false_and, Bool.and_false]))
 repeat refine spN rfl rfl rfl rfl rfl rfl rfl rfl ?_
 refine sp rfl (PE.pick rfl rfl rfl) rfl ?_
 refine sp rfl (PE.move rfl) rfl ?_
 repeat refine spN rfl rfl rfl rfl rfl rfl rfl rfl ?_
 refine sp rfl (PE.pick rfl rfl rfl) rfl ?_
 refine sp rfl (PE.move rfl) rfl ?_
 repeat refine spN rfl rfl rfl rfl rfl rfl rfl rfl ?_
 refine sp rfl (PE.pick rfl rfl rfl) rfl ?_
 refine sy_condT rfl ?_
 refine sy_seq ?_
 refine sy_tx' [0] rfl ?_
 refine sp rfl (PE.assign rfl) rfl ?_
 refine sy_ret ?_
 exact sy_return (vs := [_]) rfl (.cons (RV.tmp rfl) .nil) rfl ⟨by rw [hres]; rfl, rfl, rfl⟩ drp
 have q2 : inb x.chaff 0 40 = true := by rw [← Bool.not_eq_false']; exact g38
 refine spG rfl rfl rfl rfl (PE.fieldAddr fo140_2 rfl) rfl ?_
 refine spLG rfl rfl rfl rfl rfl (lh sc3 rfl rfl) rfl ?_
 refine clVG rfl rfl rfl rfl cal91 rfl rfl (c_off _ _ _ _ _) ?_
 refine sp rfl (PE.pick rfl rfl rfl) rfl ?_
 refine sp rfl (PE.move rfl) rfl ?_
 refine sy_case (t := 43) rfl (fun g43 => ?_) (fun g43 => ?_)
 have hb : inb x.stones 0 40 = false := by rw [← Bool.not_eq_true']; exact g43
 have hres : g.check = 3 := chk_grd h4 he hm (all_bad hx (by rw [fine_eq, hb]; simp only [Bool.false_and, Bool.and_false]))
 repeat refine spN rfl rfl rfl rfl rfl rfl rfl rfl ?_
 refine sp rfl (PE.pick rfl rfl rfl) rfl ?_
 refine sp rfl (PE.move rfl) rfl ?_
 repeat refine spN rfl rfl rfl rfl rfl rfl rfl rfl ?_
 refine sp rfl (PE.pick rfl rfl rfl) rfl ?_
 refine sy_condT rfl ?_
 refine sy_seq ?_
 refine sy_tx' [0] rfl ?_
 refine sp rfl (PE.assign rfl) rfl ?_
 refine sy_ret ?_
 exact sy_return (vs := [_]) rfl (.cons (RV.tmp rfl) .nil) rfl ⟨by rw [hres]; rfl, rfl, rfl⟩ drp
 have q3 : inb x.stones 0 40 = true := by rw [← Bool.not_eq_false']; exact g43
 refine spG rfl rfl rfl rfl (PE.fieldAddr fo140_3 rfl) rfl ?_
 refine spLG rfl rfl rfl rfl rfl (lh sc3 rfl rfl) rfl ?_
 refine clVG rfl rfl rfl rfl cal91 rfl rfl (c_off _ _ _ _ _) ?_
 refine sp rfl (PE.pick rfl rfl rfl) rfl ?_
 refine sp rfl (PE.move rfl) rfl ?_
 refine sy_case (t := 48) rfl (fun g48 => ?_) (fun g48 => ?_)
 have hb : inb x.damp 0 40 = false := by rw [← Bool.not_eq_true']; exact g48
 have hres : g.check = 3 := chk_grd h4 he hm (all_bad hx (by rw [fine_eq, hb]; simp only [Bool.false_and, Bool.and_false]))
 repeat refine spN rfl rfl rfl rfl rfl rfl rfl rfl ?_
 refine sp rfl (PE.pick rfl rfl rfl) rfl ?_
 refine sy_condT rfl ?_
 refine sy_seq ?_
 refine sy_tx' [0] rfl ?_
 refine sp rfl (PE.assign rfl) rfl ?_
 refine sy_ret ?_
 exact sy_return (vs := [_]) rfl (.cons (RV.tmp rfl) .nil) rfl ⟨by rw [hres]; rfl, rfl, rfl⟩ drp
 have q4 : inb x.damp 0 40 = true := by rw [← Bool.not_eq_false']; exact g48
 refine spG rfl rfl rfl rfl (PE.fieldAddr fo140_4 rfl) rfl ?_
 refine spLG rfl rfl rfl rfl rfl (lh sc3 rfl rfl) rfl ?_
 refine clVG rfl rfl rfl rfl cal91 rfl rfl (c_off _ _ _ _ _) ?_
 refine sp rfl (PE.pick rfl rfl rfl) rfl ?_
 refine sy_cond rfl (fun hc3 => ?_) (fun hc3 => ?_)
 have hb : inb x.price 0 100 = false := by rw [← Bool.not_eq_true']; exact hc3
 have hres : g.check = 3 := chk_grd h4 he hm (all_bad hx (by rw [fine_eq, hb]; simp only [Bool.false_and, Bool.and_false]))
 refine sy_seq ?_
 refine sy_tx' [0] rfl ?_
 refine sp rfl (PE.assign rfl) rfl ?_
 refine sy_ret ?_
 exact sy_return (vs := [_]) rfl (.cons (RV.tmp rfl) .nil) rfl ⟨by rw [hres]; rfl, rfl, rfl⟩ drp
 have q5 : inb x.price 0 100 = true := by rw [← Bool.not_eq_false']; exact hc3
 have hxf : x.fine = true := by rw [fine_eq, q1, q2, q3, q4, q5]; rfl
 refine sy_skip ?_
 refine sy_tx' [0, 1, 2] rfl ?_
 refine sp rfl (PE.move rfl) rfl ?_
 refine sp rfl (PE.add rfl rfl (by omega)) rfl ?_
 refine sp rfl (PE.assign rfl) rfl ?_
 exact sy_next ⟨i + 1, by omega, all_more hx hn hxf⟩ (by dsimp only; omega) (by repeat' first | exact Sub.nil | apply Sub.cons | rfl | (simp [lk]; omega)) (fun w h => h.del b4)
 try simp only [decide_eq_true_eq, decide_eq_false_iff_not, Bool.and_eq_true, Bool.or_eq_true, Bool.not_eq_true', Int.not_le, Int.not_lt] at hc2
 obtain rfl : i = g.grs.length := by omega
 rw [List.take_length] at hn
 have hor := chk_ord h4 he hm hn
 refine sy_exit ?_
 repeat refine sy_tx ?_
 refine sy_bx ?_
 refine sy_seq ?_
 refine sy_seq ?_
 refine sy_tx' [0] rfl ?_
 refine sp rfl (PE.assign rfl) rfl ?_
 refine sy_block ?_
 refine sy_loop (ι := {i : Nat // 1 ≤ i ∧ i ≤ g.grs.length + 1 ∧ ∀ j, j + 1 < i → j + 1 < g.grs.length → grBad g.grs j = false}) (fun i => ⟨[(1, .pointer (some ⟨b1, 0, none⟩)), (5, .int .i64 i.1)], (b1, cel 89 (gtl g (g.sl ag cg))) :: H, R⟩) (fun i => g.grs.length - i.1) ⟨1, by omega, by omega, fun j h1 h2 => by omega⟩ ?_ (fun i => ?_)
 exact sy_at (by repeat' first | exact Sub.nil | apply Sub.cons | rfl | (simp [lk]; omega)) (fun _ h => h)
 obtain ⟨i, hi1, hi2, hno⟩ := i
 dsimp only at hi1 hi2 hno ⊢
 refine sy_seq ?_
 refine sy_seq ?_
 refine sy_tx' [0, 1, 2, 3, 4] rfl ?_
 refine sp rfl (PE.move rfl) rfl ?_
 refine sp rfl (PE.fieldAddr fo89_2 rfl) rfl ?_
 refine spL rfl rfl (lh sc87 rfl rfl) rfl ?_
 refine sp rfl (PE.lenSl isl87 rfl) rfl ?_
 refine sp rfl (PE.lss rfl rfl) rfl ?_
 refine sy_cond rfl (fun hc4 => ?_) (fun hc4 => ?_)
 try simp only [decide_eq_true_eq, decide_eq_false_iff_not, Bool.and_eq_true, Bool.or_eq_true, Bool.not_eq_true', Int.not_le, Int.not_lt] at hc4
 obtain ⟨y, hy⟩ : ∃ y, g.grs[i]? = some y := ⟨_, List.getElem?_eq_getElem (by omega)⟩
 obtain ⟨x, hx⟩ : ∃ x, g.grs[i - 1]? = some x := ⟨_, List.getElem?_eq_getElem (by omega)⟩
 refine sy_addr (a := ag) (sz := 5) (rows := grows g.grs) (by intro h0; simp [grows] at h0; simp [h0] at hx) (fun ba oa hea => ?_)
 subst hea
 refine sy_skip ?_
 refine sy_seq ?_
 refine sy_block ?_
 refine sy_seq ?_
 refine sy_draw [0, 1, 0, 7, 15, 31, 0, 64, 0, 256, 960, 1984, 4032, 8191] (.tk 0 (.ld 1 (.tk 2 (.tk 3 (.tk 4 (.ld 5 (.tk 6 (.ld 7 (.tk 8 (.tk 9 (.tk 10 (.tk 11 (.ld 12 (.tk 13 .done)))))))))))))) mixed (by kernel_rfl) ?_
 refine tk rfl (PE.fieldAddr fo89_2 rfl) rfl ?_
 refine ld rfl rfl (lh sc87 rfl rfl) rfl ?_
 refine tk rfl (PE.move rfl) rfl ?_
 refine tk rfl (PE.indexAddr el87 rfl rfl (by omega) (by omega)) rfl ?_
 refine tk rfl (PE.fieldAddr fo140_4 rfl) rfl ?_
 refine ld rfl rfl (lf (x := .int .i64 y.price) sc3 (gr_get (by simpa using hy)) rfl) rfl ?_
 refine tk rfl (PE.fieldAddr fo89_2 rfl) rfl ?_
 refine ld rfl rfl (lh sc87 rfl rfl) rfl ?_
 refine tk rfl (PE.move rfl) rfl ?_
 refine tk rfl (PE.sub rfl rfl (by omega)) rfl ?_
 rw [show (i : Int) - 1 = ((i - 1 : Nat) : Int) from by omega]
 refine tk rfl (PE.indexAddr el87 rfl rfl (by omega) (by omega)) rfl ?_
 refine tk rfl (PE.fieldAddr fo140_4 rfl) rfl ?_
 refine ld rfl rfl (lf (x := .int .i64 x.price) sc3 (gr_get (by simpa using hx)) rfl) rfl ?_
 refine tk rfl (PE.gtr rfl rfl) rfl ?_
 refine sy_cond rfl (fun hc5 => ?_) (fun hc5 => ?_)
 try simp only [decide_eq_true_eq, decide_eq_false_iff_not, Bool.and_eq_true, Bool.or_eq_true, Bool.not_eq_true', Int.not_le, Int.not_lt] at hc5
 have hres : g.check = 4 := by rw [hor, not_sorted hx (by rw [show i - 1 + 1 = i from by omega]; exact hy) (by omega)]; rfl
 refine sy_seq ?_
 refine sy_tx' [0] rfl ?_
 refine sp rfl (PE.assign rfl) rfl ?_
 refine sy_ret ?_
 exact sy_return (vs := [_]) rfl (.cons (RV.tmp rfl) .nil) rfl ⟨by rw [hres]; rfl, rfl, rfl⟩ drp
 try simp only [decide_eq_true_eq, decide_eq_false_iff_not, Bool.and_eq_true, Bool.or_eq_true, Bool.not_eq_true', Int.not_le, Int.not_lt] at hc5
 have hnb : grBad g.grs (i - 1) = false := by unfold grBad; rw [hx, show i - 1 + 1 = i from by omega, hy]; exact decide_eq_false (by omega)
 refine sy_skip ?_
 refine sy_tx' [0, 1, 2] rfl ?_
 refine sp rfl (PE.move rfl) rfl ?_
 refine sp rfl (PE.add rfl rfl (by omega)) rfl ?_
 refine sp rfl (PE.assign rfl) rfl ?_
 exact sy_next ⟨i + 1, by omega, by omega, fun j h1 h2 => by rcases Nat.lt_or_ge (j + 1) i with h3 | h3; exact hno j h3 h2; rw [show j = i - 1 from (by omega)]; exact hnb⟩ (by dsimp only; omega) (by repeat' first | exact Sub.nil | apply Sub.cons | rfl | (simp [lk]; omega)) (fun _ h => h)
 try simp only [decide_eq_true_eq, decide_eq_false_iff_not, Bool.and_eq_true, Bool.or_eq_true, Bool.not_eq_true', Int.not_le, Int.not_lt] at hc4
 have hres : g.check = 0 := by rw [hor, bad_none (fun j h1 => hno j (by omega) h1)]; rfl
 refine sy_exit ?_
 repeat refine sy_tx ?_
 refine sy_bx ?_
 refine sy_seq ?_
 refine sy_tx' [0] rfl ?_
 refine sp rfl (PE.assign rfl) rfl ?_
 refine sy_ret ?_
 exact sy_return (vs := [_]) rfl (.cons (RV.tmp rfl) .nil) rfl ⟨by rw [hres]; rfl, rfl, rfl⟩ drp
theorem c_total (h : Hnd) (hb : ∀ k < 4, -1000000000000000000 ≤ nn h.gs k ∧ nn h.gs k ≤ 1000000000000000000) (H : Heap) (R : Facts) :
    FnV Tryz.prog 92 [.agg (hrow h).toArray] H R (.int .i64 h.tot) := by
 refine fn_of Tryz.func92 rfl Tryz.ntmps92 rfl ?_
 refine sy_seq ?_
 refine sy_tx' [0, 1] rfl ?_
 refine bx rfl rfl rfl (fun b1 => ?_)
 refine sp rfl (PE.assign rfl) rfl ?_
 refine sy_seq ?_
 refine sy_tx' [0] rfl ?_
 refine sp rfl (PE.assign rfl) rfl ?_
 refine sy_seq ?_
 refine sy_seq ?_
 refine sy_tx' [0] rfl ?_
 refine sp rfl (PE.assign rfl) rfl ?_
 refine sy_block ?_
 refine sy_loop (ι := {k : Nat // k ≤ 4}) (fun k => ⟨[(1, .pointer (some ⟨b1, 0, none⟩)), (3, .int .i64 (totN h k.1)), (4, .int .i64 k.1)], (b1, cel 83 (hrow h)) :: H, R⟩) (fun k => 4 - k.1) ⟨0, by omega⟩ ?_ (fun k => ?_)
 exact sy_at (by repeat' first | exact Sub.nil | apply Sub.cons | rfl | (simp [lk]; omega)) (fun _ h => h)
 obtain ⟨k, hk⟩ := k
 dsimp only at hk ⊢
 have ht := totN_bd (h := h) (B := 1000000000000000000) hb (by omega) k hk
 refine sy_seq ?_
 refine sy_seq ?_
 refine sy_tx' [0, 1] rfl ?_
 refine sp rfl (PE.move rfl) rfl ?_
 refine sp rfl (PE.lss rfl rfl) rfl ?_
 refine sy_cond rfl (fun hc0 => ?_) (fun hc0 => ?_)
 try simp only [decide_eq_true_eq, decide_eq_false_iff_not, Bool.and_eq_true, Bool.or_eq_true, Bool.not_eq_true', Int.not_le, Int.not_lt] at hc0
 have hk4 : k < 4 := by omega
 have hbk := hb k hk4
 have ht2 := totN_bd (h := h) (B := 1000000000000000000) hb (by omega) (k + 1) (by omega)
 refine sy_skip ?_
 refine sy_seq ?_
 refine sy_block ?_
 refine sy_tx' [0, 1, 2, 3, 4, 5, 6] rfl ?_
 refine sp rfl (PE.move rfl) rfl ?_
 refine sp rfl (PE.move rfl) rfl ?_
 refine sp rfl (PE.fieldAddr fo83_1 rfl) rfl ?_
 refine sp rfl (PE.indexArr ar31 rfl rfl (by omega) (by omega)) rfl ?_
 refine spL rfl rfl (lh sc3 rfl (hrow_at hk4)) rfl ?_
 refine sp rfl (PE.add rfl rfl (by omega)) rfl ?_
 refine sp rfl (PE.assign rfl) rfl ?_
 refine sy_tx' [0, 1, 2] rfl ?_
 refine sp rfl (PE.move rfl) rfl ?_
 refine sp rfl (PE.add rfl rfl (by omega)) rfl ?_
 refine sp rfl (PE.assign rfl) rfl ?_
 exact sy_next ⟨k + 1, by omega⟩ (by dsimp only; omega) (by repeat' first | exact Sub.nil | apply Sub.cons | rfl | (simp [lk]; omega)) (fun _ h => h)
 try simp only [decide_eq_true_eq, decide_eq_false_iff_not, Bool.and_eq_true, Bool.or_eq_true, Bool.not_eq_true', Int.not_le, Int.not_lt] at hc0
 obtain rfl : k = 4 := by omega
 rw [totN_4]
 refine sy_exit ?_
 repeat refine sy_tx ?_
 refine sy_bx ?_
 refine sy_seq ?_
 refine sy_tx' [0, 1] rfl ?_
 refine sp rfl (PE.move rfl) rfl ?_
 refine sp rfl (PE.assign rfl) rfl ?_
 refine sy_ret ?_
 exact sy_return (vs := [_]) rfl (.cons (RV.tmp rfl) .nil) rfl ⟨rfl, rfl, rfl⟩ drp
theorem c_rCart (c : Crt) (ah : Option Addr) (ch : Nat) (hlh : c.hs.length ≤ 9223372036854775807) (H : Heap) (R : Facts) [hA : MemRows ah 5 (hrows c.hs) R] :
    FnV Tryz.prog 43 [c.v (c.sl ah ch)] H R (.int .i64 c.check) := by
 refine fn_of Tryz.func43 rfl Tryz.ntmps43 rfl ?_
 refine sy_seq ?_
 refine sy_tx' [0, 1] rfl ?_
 refine bx rfl rfl rfl (fun b1 => ?_)
 refine sp rfl (PE.assign rfl) rfl ?_
 refine sy_seq ?_
 refine sy_seq ?_
 refine sy_tx' [0, 1, 2, 3] rfl ?_
 refine sp rfl (PE.fieldAddr fo79_2 rfl) rfl ?_
 refine spL rfl rfl (lh sc77 rfl rfl) rfl ?_
 refine sp rfl (PE.lenSl isl77 rfl) rfl ?_
 refine sp rfl (PE.gtr rfl rfl) rfl ?_
 refine sy_cond rfl (fun hc0 => ?_) (fun hc0 => ?_)
 try simp only [decide_eq_true_eq, decide_eq_false_iff_not, Bool.and_eq_true, Bool.or_eq_true, Bool.not_eq_true', Int.not_le, Int.not_lt] at hc0
 have hres := cck_many (c := c) (by omega)
 refine sy_seq ?_
 refine sy_tx' [0] rfl ?_
 refine sp rfl (PE.assign rfl) rfl ?_
 refine sy_ret ?_
 exact sy_return (vs := [_]) rfl (.cons (RV.tmp rfl) .nil) rfl ⟨by rw [hres]; rfl, rfl, rfl⟩ drp
 try simp only [decide_eq_true_eq, decide_eq_false_iff_not, Bool.and_eq_true, Bool.or_eq_true, Bool.not_eq_true', Int.not_le, Int.not_lt] at hc0
 have h6 : ¬ 6 < c.hs.length := by omega
 refine sy_skip ?_
 refine sy_seq ?_
 refine sy_seq ?_
 refine sy_tx' [0, 1, 2, 3, 4, 5, 6, 7] rfl ?_
 refine sp rfl (PE.fieldAddr fo79_0 rfl) rfl ?_
 refine spL rfl rfl (lh sc3 rfl rfl) rfl ?_
 refine clV rfl cal91 rfl rfl (c_off _ _ _ _ _) ?_
 refine sp rfl (PE.move rfl) rfl ?_
 refine sy_case (t := 14) rfl (fun g14 => ?_) (fun g14 => ?_)
 have hb : inb c.full 0 10000 = false := by rw [← Bool.not_eq_true']; exact g14
 have hres := cck_rng h6 (.inl hb)
 repeat refine spN rfl rfl rfl rfl rfl rfl rfl rfl ?_
 refine sp rfl (PE.pick rfl rfl rfl) rfl ?_
 refine sy_condT rfl ?_
 refine sy_seq ?_
 refine sy_tx' [0] rfl ?_
 refine sp rfl (PE.assign rfl) rfl ?_
 refine sy_ret ?_
 exact sy_return (vs := [_]) rfl (.cons (RV.tmp rfl) .nil) rfl ⟨by rw [hres]; rfl, rfl, rfl⟩ drp
 have hf : inb c.full 0 10000 = true := by rw [← Bool.not_eq_false']; exact g14
 refine spG rfl rfl rfl rfl (PE.fieldAddr fo79_1 rfl) rfl ?_
 refine spLG rfl rfl rfl rfl rfl (lh sc3 rfl rfl) rfl ?_
 refine clVG rfl rfl rfl rfl cal91 rfl rfl (c_off _ _ _ _ _) ?_
 refine sp rfl (PE.pick rfl rfl rfl) rfl ?_
 refine sy_cond rfl (fun hc1 => ?_) (fun hc1 => ?_)
 have hb : inb c.empty 0 10000 = false := by rw [← Bool.not_eq_true']; exact hc1
 have hres := cck_rng h6 (.inr hb)
 refine sy_seq ?_
 refine sy_tx' [0] rfl ?_
 refine sp rfl (PE.assign rfl) rfl ?_
 refine sy_ret ?_
 exact sy_return (vs := [_]) rfl (.cons (RV.tmp rfl) .nil) rfl ⟨by rw [hres]; rfl, rfl, rfl⟩ drp
 have he : inb c.empty 0 10000 = true := by rw [← Bool.not_eq_false']; exact hc1
 refine sy_skip ?_
 refine sy_seq ?_
 refine sy_seq ?_
 refine sy_tx' [0] rfl ?_
 refine sp rfl (PE.assign rfl) rfl ?_
 refine sy_block ?_
 refine sy_loop (ι := {i : Nat // i ≤ c.hs.length ∧ (c.hs.take i).all Hnd.fine = true}) (fun i => ⟨[(1, .pointer (some ⟨b1, 0, none⟩)), (3, .int .i64 i.1)], (b1, cel 79 (ctl c (c.sl ah ch))) :: H, R⟩) (fun i => c.hs.length - i.1) ⟨0, by simp⟩ ?_ (fun i => ?_)
 exact sy_at (by repeat' first | exact Sub.nil | apply Sub.cons | rfl | (simp [lk]; omega)) (fun _ h => h)
 obtain ⟨i, hi, hn⟩ := i
 dsimp only at hi hn ⊢
 refine sy_seq ?_
 refine sy_seq ?_
 refine sy_tx' [0, 1, 2, 3, 4] rfl ?_
 refine sp rfl (PE.move rfl) rfl ?_
 refine sp rfl (PE.fieldAddr fo79_2 rfl) rfl ?_
 refine spL rfl rfl (lh sc77 rfl rfl) rfl ?_
 refine sp rfl (PE.lenSl isl77 rfl) rfl ?_
 refine sp rfl (PE.lss rfl rfl) rfl ?_
 refine sy_cond rfl (fun hc2 => ?_) (fun hc2 => ?_)
 try simp only [decide_eq_true_eq, decide_eq_false_iff_not, Bool.and_eq_true, Bool.or_eq_true, Bool.not_eq_true', Int.not_le, Int.not_lt] at hc2
 obtain ⟨x, hx⟩ : ∃ x, c.hs[i]? = some x := ⟨_, List.getElem?_eq_getElem (by omega)⟩
 refine sy_addr (a := ah) (sz := 5) (rows := hrows c.hs) (by intro h0; simp [hrows] at h0; simp [h0] at hx) (fun ba oa hea => ?_)
 subst hea
 refine sy_skip ?_
 refine sy_seq ?_
 refine sy_block ?_
 refine sy_seq ?_
 refine sy_tx' [0, 1, 2, 3, 4, 5, 6] rfl ?_
 refine sp rfl (PE.fieldAddr fo79_2 rfl) rfl ?_
 refine spL rfl rfl (lh sc77 rfl rfl) rfl ?_
 refine sp rfl (PE.move rfl) rfl ?_
 refine sp rfl (PE.indexAddr el77 rfl rfl (by omega) (by omega)) rfl ?_
 refine spL rfl rfl (lfA ag83 (row := hrow x) (hr_get (by simpa using hx)) rfl) rfl ?_
 refine alc rfl zl83 rfl (fun b4 => ?_)
 refine sto rfl rfl rfl cn83 rfl rfl rfl rfl ?_
 refine sy_seq ?_
 refine sy_seq ?_
 refine sy_tx' [0, 1, 2] rfl ?_
 refine sp rfl (PE.fieldAddr fo83_0 rfl) rfl ?_
 refine spL rfl rfl (lh sc3 rfl rfl) rfl ?_
 refine clV rfl cal91 rfl rfl (c_off _ _ _ _ _) ?_
 refine sy_cond rfl (fun hc3 => ?_) (fun hc3 => ?_)
 have hb : inb x.spot 0 2 = false := by rw [← Bool.not_eq_true']; exact hc3
 have hres := cck_hnd h6 hf he (all_bad hx (by unfold Hnd.fine; rw [hb]; rfl))
 refine sy_seq ?_
 refine sy_tx' [0] rfl ?_
 refine sp rfl (PE.assign rfl) rfl ?_
 refine sy_ret ?_
 exact sy_return (vs := [_]) rfl (.cons (RV.tmp rfl) .nil) rfl ⟨by rw [hres]; rfl, rfl, rfl⟩ drp
 have q1 : inb x.spot 0 2 = true := by rw [← Bool.not_eq_false']; exact hc3
 refine sy_skip ?_
 refine sy_seq ?_
 refine sy_tx' [0] rfl ?_
 refine sp rfl (PE.assign rfl) rfl ?_
 refine sy_block ?_
 refine sy_loop (ι := {k : Nat // k ≤ 4 ∧ ∀ j < k, inb (nn x.gs j) 0 200 = true}) (fun k => ⟨[(1, .pointer (some ⟨b1, 0, none⟩)), (3, .int .i64 i), (4, .pointer (some ⟨b4, 0, none⟩)), (5, .int .i64 k.1)], (b4, cel 83 (hrow x)) :: (b1, cel 79 (ctl c (c.sl (some ⟨ba, oa, none⟩) ch))) :: H, R⟩) (fun k => 4 - k.1) ⟨0, by omega, fun j h => by omega⟩ ?_ (fun k => ?_)
 exact sy_at (by repeat' first | exact Sub.nil | apply Sub.cons | rfl | (simp [lk]; omega)) (fun _ h => h)
 obtain ⟨k, hk, hkn⟩ := k
 dsimp only at hk hkn ⊢
 refine sy_seq ?_
 refine sy_seq ?_
 refine sy_tx' [0, 1] rfl ?_
 refine sp rfl (PE.move rfl) rfl ?_
 refine sp rfl (PE.lss rfl rfl) rfl ?_
 refine sy_cond rfl (fun hc4 => ?_) (fun hc4 => ?_)
 try simp only [decide_eq_true_eq, decide_eq_false_iff_not, Bool.and_eq_true, Bool.or_eq_true, Bool.not_eq_true', Int.not_le, Int.not_lt] at hc4
 have hk4 : k < 4 := by omega
 refine sy_skip ?_
 refine sy_seq ?_
 refine sy_block ?_
 refine sy_seq ?_
 refine sy_tx' [0, 1, 2, 3, 4] rfl ?_
 refine sp rfl (PE.move rfl) rfl ?_
 refine sp rfl (PE.fieldAddr fo83_1 rfl) rfl ?_
 refine sp rfl (PE.indexArr ar31 rfl rfl (by omega) (by omega)) rfl ?_
 refine spL rfl rfl (lh sc3 rfl (hrow_at hk4)) rfl ?_
 refine clV rfl cal91 rfl rfl (c_off _ _ _ _ _) ?_
 refine sy_cond rfl (fun hc5 => ?_) (fun hc5 => ?_)
 have hb : inb (nn x.gs k) 0 200 = false := by rw [← Bool.not_eq_true']; exact hc5
 have hres := cck_hnd h6 hf he (all_bad hx (by unfold Hnd.fine; rw [gs_bad hk4 hb, Bool.and_false]))
 refine sy_seq ?_
 refine sy_tx' [0] rfl ?_
 refine sp rfl (PE.assign rfl) rfl ?_
 refine sy_ret ?_
 exact sy_return (vs := [_]) rfl (.cons (RV.tmp rfl) .nil) rfl ⟨by rw [hres]; rfl, rfl, rfl⟩ drp
 have q2 : inb (nn x.gs k) 0 200 = true := by rw [← Bool.not_eq_false']; exact hc5
 refine sy_skip ?_
 refine sy_tx' [0, 1, 2] rfl ?_
 refine sp rfl (PE.move rfl) rfl ?_
 refine sp rfl (PE.add rfl rfl (by omega)) rfl ?_
 refine sp rfl (PE.assign rfl) rfl ?_
 exact sy_next ⟨k + 1, by omega, fun j hj => by rcases Nat.lt_succ_iff_lt_or_eq.1 hj with h1 | rfl; exact hkn j h1; exact q2⟩ (by dsimp only; omega) (by repeat' first | exact Sub.nil | apply Sub.cons | rfl | (simp [lk]; omega)) (fun _ h => h)
 try simp only [decide_eq_true_eq, decide_eq_false_iff_not, Bool.and_eq_true, Bool.or_eq_true, Bool.not_eq_true', Int.not_le, Int.not_lt] at hc4
 obtain rfl : k = 4 := by omega
 have hxf : x.fine = true := by unfold Hnd.fine; rw [q1, gs_all hkn]; rfl
 refine sy_exit ?_
 repeat refine sy_tx ?_
 refine sy_bx ?_
 refine sy_tx' [0, 1, 2] rfl ?_
 refine sp rfl (PE.move rfl) rfl ?_
 refine sp rfl (PE.add rfl rfl (by omega)) rfl ?_
 refine sp rfl (PE.assign rfl) rfl ?_
 exact sy_next ⟨i + 1, by omega, all_more hx hn hxf⟩ (by dsimp only; omega) (by repeat' first | exact Sub.nil | apply Sub.cons | rfl | (simp [lk]; omega)) (fun w h => h.del b4)
 try simp only [decide_eq_true_eq, decide_eq_false_iff_not, Bool.and_eq_true, Bool.or_eq_true, Bool.not_eq_true', Int.not_le, Int.not_lt] at hc2
 obtain rfl : i = c.hs.length := by omega
 rw [List.take_length] at hn
 have hto := cck_tot h6 hf he hn
 refine sy_exit ?_
 repeat refine sy_tx ?_
 refine sy_bx ?_
 refine sy_seq ?_
 refine sy_seq ?_
 refine sy_tx' [0] rfl ?_
 refine sp rfl (PE.assign rfl) rfl ?_
 refine sy_block ?_
 refine sy_loop (ι := {i : Nat // i ≤ c.hs.length ∧ ((c.hs.take i).all fun h => inb h.tot 10 200) = true}) (fun i => ⟨[(1, .pointer (some ⟨b1, 0, none⟩)), (6, .int .i64 i.1)], (b1, cel 79 (ctl c (c.sl ah ch))) :: H, R⟩) (fun i => c.hs.length - i.1) ⟨0, by simp⟩ ?_ (fun i => ?_)
 exact sy_at (by repeat' first | exact Sub.nil | apply Sub.cons | rfl | (simp [lk]; omega)) (fun _ h => h)
 obtain ⟨i, hi, hm⟩ := i
 dsimp only at hi hm ⊢
 refine sy_seq ?_
 refine sy_seq ?_
 refine sy_tx' [0, 1, 2, 3, 4] rfl ?_
 refine sp rfl (PE.move rfl) rfl ?_
 refine sp rfl (PE.fieldAddr fo79_2 rfl) rfl ?_
 refine spL rfl rfl (lh sc77 rfl rfl) rfl ?_
 refine sp rfl (PE.lenSl isl77 rfl) rfl ?_
 refine sp rfl (PE.lss rfl rfl) rfl ?_
 refine sy_cond rfl (fun hc6 => ?_) (fun hc6 => ?_)
 try simp only [decide_eq_true_eq, decide_eq_false_iff_not, Bool.and_eq_true, Bool.or_eq_true, Bool.not_eq_true', Int.not_le, Int.not_lt] at hc6
 obtain ⟨x, hx⟩ : ∃ x, c.hs[i]? = some x := ⟨_, List.getElem?_eq_getElem (by omega)⟩
 have hxb := hfine_bd (List.all_eq_true.1 hn x (List.mem_of_getElem? hx))
 refine sy_addr (a := ah) (sz := 5) (rows := hrows c.hs) (by intro h0; simp [hrows] at h0; simp [h0] at hx) (fun ba oa hea => ?_)
 subst hea
 refine sy_skip ?_
 refine sy_seq ?_
 refine sy_block ?_
 refine sy_seq ?_
 refine sy_tx' [0, 1, 2, 3, 4, 5, 6] rfl ?_
 refine sp rfl (PE.fieldAddr fo79_2 rfl) rfl ?_
 refine spL rfl rfl (lh sc77 rfl rfl) rfl ?_
 refine sp rfl (PE.move rfl) rfl ?_
 refine sp rfl (PE.indexAddr el77 rfl rfl (by omega) (by omega)) rfl ?_
 refine spL rfl rfl (lfA ag83 (row := hrow x) (hr_get (by simpa using hx)) rfl) rfl ?_
 refine clV rfl cal92 rfl rfl (c_total x (fun k hk => by have := hxb k hk; omega) _ _) ?_
 refine clV rfl cal91 rfl rfl (c_off _ _ _ _ _) ?_
 refine sy_cond rfl (fun hc7 => ?_) (fun hc7 => ?_)
 have hb : inb x.tot 10 200 = false := by rw [← Bool.not_eq_true']; exact hc7
 have hres : c.check = 8 := by rw [hto, all_bad hx (p := fun h => inb h.tot 10 200) hb]; rfl
 refine sy_seq ?_
 refine sy_tx' [0] rfl ?_
 refine sp rfl (PE.assign rfl) rfl ?_
 refine sy_ret ?_
 exact sy_return (vs := [_]) rfl (.cons (RV.tmp rfl) .nil) rfl ⟨by rw [hres]; rfl, rfl, rfl⟩ drp
 have q3 : inb x.tot 10 200 = true := by rw [← Bool.not_eq_false']; exact hc7
 refine sy_skip ?_
 refine sy_tx' [0, 1, 2] rfl ?_
 refine sp rfl (PE.move rfl) rfl ?_
 refine sp rfl (PE.add rfl rfl (by omega)) rfl ?_
 refine sp rfl (PE.assign rfl) rfl ?_
 exact sy_next ⟨i + 1, by omega, all_more hx hm q3⟩ (by dsimp only; omega) (by repeat' first | exact Sub.nil | apply Sub.cons | rfl | (simp [lk]; omega)) (fun _ h => h)
 try simp only [decide_eq_true_eq, decide_eq_false_iff_not, Bool.and_eq_true, Bool.or_eq_true, Bool.not_eq_true', Int.not_le, Int.not_lt] at hc6
 obtain rfl : i = c.hs.length := by omega
 rw [List.take_length] at hm
 have hres : c.check = 0 := by rw [hto, hm]; rfl
 refine sy_exit ?_
 repeat refine sy_tx ?_
 refine sy_bx ?_
 refine sy_seq ?_
 refine sy_tx' [0] rfl ?_
 refine sp rfl (PE.assign rfl) rfl ?_
 refine sy_ret ?_
 exact sy_return (vs := [_]) rfl (.cons (RV.tmp rfl) .nil) rfl ⟨by rw [hres]; rfl, rfl, rfl⟩ drp
theorem c_rBoth (g : Gat) (ag : Option Addr) (cg : Nat) (hlg : g.grs.length ≤ 9223372036854775807) (c : Crt) (ah : Option Addr) (ch : Nat) (hlh : c.hs.length ≤ 9223372036854775807) (H : Heap) (R : Facts) [hG : MemRows ag 5 (grows g.grs) R] [hA : MemRows ah 5 (hrows c.hs) R] :
    FnV Tryz.prog 47 [g.v (g.sl ag cg), c.v (c.sl ah ch)] H R (.int .i64 (bothE g c)) := by
 refine fn_of Tryz.func47 rfl Tryz.ntmps47 rfl ?_
 refine sy_seq ?_
 refine sy_tx' [0, 1, 2] rfl ?_
 refine bx rfl rfl rfl (fun b2 => ?_)
 refine bx rfl rfl rfl (fun b3 => ?_)
 refine sp rfl (PE.assign rfl) rfl ?_
 refine sy_seq ?_
 refine sy_seq ?_
 refine sy_tx' [0, 1, 2] rfl ?_
 refine spL rfl rfl (lhA [_, _, _] ag89 rfl rfl rfl) rfl ?_
 refine clV rfl cal41 rfl rfl (c_rCheck g ag cg hlg _ _) ?_
 refine sp rfl (PE.assign rfl) rfl ?_
 refine sy_seq ?_
 refine sy_tx' [0, 1] rfl ?_
 refine sp rfl (PE.move rfl) rfl ?_
 refine sp rfl (PE.neq rfl rfl) rfl ?_
 refine sy_cond rfl (fun hc0 => ?_) (fun hc0 => ?_)
 try simp only [decide_eq_true_eq, decide_eq_false_iff_not, Bool.and_eq_true, Bool.or_eq_true, Bool.not_eq_true', Int.not_le, Int.not_lt] at hc0
 have hres : bothE g c = g.check := by simp [bothE, hc0]
 refine sy_seq ?_
 refine sy_tx' [0, 1] rfl ?_
 refine sp rfl (PE.move rfl) rfl ?_
 refine sp rfl (PE.assign rfl) rfl ?_
 refine sy_ret ?_
 exact sy_return (vs := [_]) rfl (.cons (RV.tmp rfl) .nil) rfl ⟨by rw [hres]; rfl, rfl, rfl⟩ drp
 try simp only [decide_eq_true_eq, decide_eq_false_iff_not, Bool.and_eq_true, Bool.or_eq_true, Bool.not_eq_true', Int.not_le, Int.not_lt] at hc0
 have hres : bothE g c = c.check := by simp [bothE, hc0]
 refine sy_skip ?_
 refine sy_seq ?_
 refine sy_tx' [0, 1, 2] rfl ?_
 refine spL rfl rfl (lhA [_, _, _] ag79 rfl rfl rfl) rfl ?_
 refine clV rfl cal43 rfl rfl (c_rCart c ah ch hlh _ _) ?_
 refine sp rfl (PE.assign rfl) rfl ?_
 refine sy_ret ?_
 exact sy_return (vs := [_]) rfl (.cons (RV.tmp rfl) .nil) rfl ⟨by rw [hres]; rfl, rfl, rfl⟩ drp
end Go.Proofs.YtndhkpnaeocnhaaGreat
namespace Go.Proofs.YtndhkpnaeocnhaaGreat
set_option linter.unusedSimpArgs false
set_option linter.unusedVariables false
open Go
theorem cal35 : cal Tryz.prog 35 = true := by kernel_rfl
theorem cal36 : cal Tryz.prog 36 = true := by kernel_rfl
theorem cal37 : cal Tryz.prog 37 = true := by kernel_rfl
theorem cal38 : cal Tryz.prog 38 = true := by kernel_rfl
theorem cal39 : cal Tryz.prog 39 = true := by kernel_rfl
theorem cal40 : cal Tryz.prog 40 = true := by kernel_rfl
theorem cal42 : cal Tryz.prog 42 = true := by kernel_rfl
theorem cal44 : cal Tryz.prog 44 = true := by kernel_rfl
theorem cal45 : cal Tryz.prog 45 = true := by kernel_rfl
theorem cal46 : cal Tryz.prog 46 = true := by kernel_rfl
theorem cal8 : cal Tryz.prog 8 = true := by kernel_rfl
theorem OSl.mk1 {e b n : Nat} {hs : List Hnd} (hn : hs.length = n) (hm : n ≤ 1000) : ∃ o : OSl e 5 (hrows hs), o.fs = .slice (some ⟨b, 0, none⟩) n n ∧ o.G = [(b, cel e ((hrows hs).flatten ++ []))] := by
  subst hn
  exact ⟨⟨.slice (some ⟨b, 0, none⟩) hs.length hs.length, [(b, cel e ((hrows hs).flatten ++ []))], hrows_len _, .inr ⟨b, hs.length, [], by rw [hr_len], rfl, by rw [hr_len]; rfl, by rw [hr_len]; exact Nat.le_refl _, by omega⟩⟩, rfl, rfl⟩
theorem tak_no {c : Crt} {h : Hnd} {e : Int} (he : c.check = e) (h0 : e ≠ 0) : takR c h = (zcrt, e) := by
  unfold takR; rw [he, decide_eq_true h0]; rfl
theorem tak_full {c : Crt} {h : Hnd} (he : c.check = 0) (h6 : c.hs.length = 6) : takR c h = (zcrt, 9) := by
  unfold takR; rw [he, decide_eq_true h6]; rfl
theorem tak_bad {c d : Crt} {h : Hnd} (he : c.check = 0) (h6 : c.hs.length ≠ 6) (hd : d = { c with hs := c.hs ++ [h] }) (h0 : d.check ≠ 0) : takR c h = (zcrt, d.check) := by
  unfold takR; rw [he, decide_eq_false h6, ← hd, decide_eq_true h0]; rfl
theorem tak_ok {c d : Crt} {h : Hnd} (he : c.check = 0) (h6 : c.hs.length ≠ 6) (hd : d = { c with hs := c.hs ++ [h] }) (h0 : d.check = 0) : takR c h = (d, 0) := by
  unfold takR; rw [he, decide_eq_false h6, ← hd, decide_eq_false (show ¬ d.check ≠ 0 by omega)]; rfl
theorem tak_len (c : Crt) (h : Hnd) : (takR c h).1.hs.length ≤ c.hs.length + 1 := by
  unfold takR
  cases decide (c.check ≠ 0) <;> simp only [cond_true, cond_false]
  · cases decide (c.hs.length = 6) <;> simp only [cond_true, cond_false]
    · cases decide (Crt.check { c with hs := c.hs ++ [h] } ≠ 0) <;> simp [zcrt]
    · simp [zcrt]
  · simp [zcrt]
theorem c_rTake (c : Crt) (ah : Option Addr) (ch : Nat) (hlh : c.hs.length ≤ 9223372036854775807) (h : Hnd) (H : Heap) (R : Facts) [hA : MemRows ah 5 (hrows c.hs) R] :
    Fn Tryz.prog 38 [c.v (c.sl ah ch), .agg (hrow h).toArray] H R (fun v H' R' => ∃ a cd, v = .tuple #[(takR c h).1.v ((takR c h).1.sl a cd), .int .i64 (takR c h).2] ∧ H' = H ∧ R' = RowsA a 5 (hrows (takR c h).1.hs) :: R) := by
 refine fn_of Tryz.func38 rfl Tryz.ntmps38 rfl ?_
 refine sy_seq ?_
 refine sy_tx' [0, 1, 2, 3] rfl ?_
 refine bx rfl rfl rfl (fun b2 => ?_)
 refine bx rfl rfl rfl (fun b3 => ?_)
 refine alc rfl zl79 rfl (fun b4 => ?_)
 refine sp rfl (PE.assign rfl) rfl ?_
 refine sy_seq ?_
 refine sy_seq ?_
 refine sy_tx' [0, 1, 2] rfl ?_
 refine spL rfl rfl (lhA [_, _, _] ag79 rfl rfl rfl) rfl ?_
 refine clV rfl cal43 rfl rfl (c_rCart c ah ch hlh _ _) ?_
 refine sp rfl (PE.assign rfl) rfl ?_
 refine sy_seq ?_
 refine sy_tx' [0, 1] rfl ?_
 refine sp rfl (PE.move rfl) rfl ?_
 refine sp rfl (PE.neq rfl rfl) rfl ?_
 refine sy_cond rfl (fun hc0 => ?_) (fun hc0 => ?_)
 have e := tak_no (h := h) (rfl : c.check = _) (by simpa using hc0)
 refine sy_seq ?_
 refine sy_tx' [0, 1, 2, 3] rfl ?_
 refine sp rfl (PE.build (out := [_, _, _]) pl79 zl79 rfl rfl) rfl ?_
 refine sp rfl (PE.move rfl) rfl ?_
 refine sto rfl rfl rfl cn79 rfl rfl rfl rfl ?_
 refine sp rfl (PE.assign rfl) rfl ?_
 refine sy_ret ?_
 refine Sy.heap (fun w h9 => St.also h9 (f := RowsA none 5 []) (fun w9 _ => fun i row hi => by simp at hi)) ?_
 rw [e]
 exact sy_return (vs := [_, _]) rfl (.cons (RV.cell rfl (lhA [_, _, _] ag79 rfl rfl rfl)) (.cons (RV.tmp rfl) .nil)) rfl ⟨none, 0, rfl, rfl, (rfl : RowsA none 5 [] :: R = _)⟩ (fun w h => St.sub (((h.del b4).del b3).del b2))
 have h0 : c.check = 0 := by simpa using hc0
 have hmn := (crt_ok.1 h0).many
 refine sy_skip ?_
 refine sy_seq ?_
 refine sy_seq ?_
 refine sy_tx' [0, 1, 2, 3] rfl ?_
 refine sp rfl (PE.fieldAddr fo79_2 rfl) rfl ?_
 refine spL rfl rfl (lh sc77 rfl rfl) rfl ?_
 refine sp rfl (PE.lenSl isl77 rfl) rfl ?_
 refine sp rfl (PE.eql rfl rfl) rfl ?_
 refine sy_cond rfl (fun hc1 => ?_) (fun hc1 => ?_)
 try simp only [decide_eq_true_eq, decide_eq_false_iff_not, Bool.and_eq_true, Bool.or_eq_true, Bool.not_eq_true', Int.not_le, Int.not_lt] at hc1
 have e := tak_full (h := h) h0 (by omega)
 refine sy_seq ?_
 refine sy_tx' [0, 1, 2] rfl ?_
 refine sp rfl (PE.build (out := [_, _, _]) pl79 zl79 rfl rfl) rfl ?_
 refine sto rfl rfl rfl cn79 rfl rfl rfl rfl ?_
 refine sp rfl (PE.assign rfl) rfl ?_
 refine sy_ret ?_
 refine Sy.heap (fun w h9 => St.also h9 (f := RowsA none 5 []) (fun w9 _ => fun i row hi => by simp at hi)) ?_
 rw [e]
 exact sy_return (vs := [_, _]) rfl (.cons (RV.cell rfl (lhA [_, _, _] ag79 rfl rfl rfl)) (.cons (RV.tmp rfl) .nil)) rfl ⟨none, 0, rfl, rfl, (rfl : RowsA none 5 [] :: R = _)⟩ (fun w h => St.sub (((h.del b4).del b3).del b2))
 try simp only [decide_eq_true_eq, decide_eq_false_iff_not, Bool.and_eq_true, Bool.or_eq_true, Bool.not_eq_true', Int.not_le, Int.not_lt] at hc1
 have h6 : c.hs.length ≠ 6 := by omega
 refine sy_skip ?_
 refine sy_seq ?_
 refine sy_draw [0, 1, 0, 4, 0, 0, 32, 112, 0, 256, 1008, 2047, 0, 8191] (.tk 0 (.ld 1 (.tk 2 (.ld 3 (.tk 5 (.ld 6 (.ld 8 (.any (.alt 4 (.any (.alt 7 (.any (.alt 9 (.any (.alt 10 (.tk 11 (.big 12 (.big 13 .done))) (.alt 12 (.big 10 (.tk 11 (.big 13 .done))) .stop))) (.alt 12 (.big 9 (.big 10 (.tk 11 (.big 13 .done)))) .stop))) (.alt 9 (.any (.alt 7 (.any (.alt 10 (.tk 11 (.big 12 (.big 13 .done))) (.alt 12 (.big 10 (.tk 11 (.big 13 .done))) .stop))) (.alt 12 (.big 7 (.big 10 (.tk 11 (.big 13 .done)))) .stop))) (.alt 12 (.any (.alt 7 (.big 9 (.big 10 (.tk 11 (.big 13 .done)))) (.alt 9 (.big 7 (.big 10 (.tk 11 (.big 13 .done)))) .stop))) .stop)))) (.alt 9 (.any (.alt 4 (.any (.alt 7 (.any (.alt 10 (.tk 11 (.big 12 (.big 13 .done))) (.alt 12 (.big 10 (.tk 11 (.big 13 .done))) .stop))) (.alt 12 (.big 7 (.big 10 (.tk 11 (.big 13 .done)))) .stop))) (.alt 12 (.big 4 (.big 7 (.big 10 (.tk 11 (.big 13 .done))))) .stop))) (.alt 12 (.any (.alt 4 (.any (.alt 7 (.big 9 (.big 10 (.tk 11 (.big 13 .done)))) (.alt 9 (.big 7 (.big 10 (.tk 11 (.big 13 .done)))) .stop))) (.alt 9 (.big 4 (.big 7 (.big 10 (.tk 11 (.big 13 .done))))) .stop))) .stop))))))))))) mixed (by kernel_rfl) ?_
 refine tk rfl (PE.fieldAddr fo79_0 rfl) rfl ?_
 refine ld rfl rfl (lh sc3 rfl rfl) rfl ?_
 refine tk rfl (PE.fieldAddr fo79_1 rfl) rfl ?_
 refine ld rfl rfl (lh sc3 rfl rfl) rfl ?_
 refine tk rfl (PE.fieldAddr fo79_2 rfl) rfl ?_
 refine ld rfl rfl (lh sc77 rfl rfl) rfl ?_
 refine ld rfl rfl (lhA (hrow h) ag83 rfl (rest := []) (by rw [List.append_nil]; rfl) rfl) rfl ?_
 refine sy_alt ?_ ?_
 refine bsl0 rfl sl77 rfl (fun o24 ho24 => ?_)
 refine bg (fun w hs => ⟨(lhA (hrow h) ag83 rfl (rest := []) (by rw [List.append_nil]; rfl) rfl) w hs, (lh sc77 rfl rfl) w hs, (lh sc3 rfl rfl) w hs, (lh sc3 rfl rfl) w hs, trivial⟩) ?_
 refine sy_alt ?_ ?_
 refine apO (news := hrows c.hs) o24 rfl ap77 rfl rfl (rowsF) (hr_len _) (by simp [onecells, hrows, hrow, Value.oneCell']) ⟨by simp [hrows]; omega, by simp [hrows]; omega⟩ rfl (fun o27 => ?_)
 refine bg (fun w hs => ⟨(lhA (hrow h) ag83 rfl (rest := []) (by rw [List.append_nil]; rfl) rfl) w hs, trivial, (lh sc3 rfl rfl) w hs, (lh sc3 rfl rfl) w hs, trivial⟩) ?_
 refine sy_alt ?_ ?_
 refine bsl (out := [_, _, _, _, _]) rfl sl77 zl83 rfl rfl rfl rfl rfl rfl (fun b29 => ?_)
 refine bg (fun w hs => ⟨trivial, (lh sc3 rfl rfl) w hs, (lh sc3 rfl rfl) w hs, trivial⟩) ?_
 refine sy_alt ?_ ?_
 refine apO (o27) rfl ap77 rfl rfl (rowsH (row := hrow h) rfl) rfl rfl ((by simp only [hrows, List.length_map, List.length_singleton, List.nil_append]; omega)) rfl (fun o30 => ?_)
 refine bg (fun w hs => ⟨(lh sc3 rfl rfl) w hs, (lh sc3 rfl rfl) w hs, trivial⟩) ?_
 have e30 : ([] ++ hrows c.hs) ++ [hrow h] = hrows (c.hs ++ [h]) := by simp [hrows]
 obtain ⟨a9, c9, hfe, hff⟩ := (o30.cast e30).freeze
 rw [show o30.fs = _ from hfe, hr_len]
 refine Sy.heap (fun w h => hff (h.pullG o30.G)) ?_
 clear hfe hff
 refine tk rfl (PE.build (out := [.int .i64 c.full, .int .i64 c.empty, .slice a9 (c.hs ++ [h]).length c9]) pl79 zl79 rfl rfl) rfl ?_
 refine alc rfl zl79 rfl (fun b7 => ?_)
 refine bg (fun w hs => ⟨(lh sc3 rfl rfl) w hs, (lh sc3 rfl rfl) w hs, trivial⟩) ?_
 refine sto rfl rfl rfl cn79 rfl rfl rfl rfl ?_
 refine bg (fun w hs => ⟨trivial, trivial, trivial⟩) ?_
 refine sy_seq ?_
 refine sy_seq ?_
 refine sy_tx' [0, 1, 2] rfl ?_
 obtain ⟨d, hd⟩ : ∃ d : Crt, d = { c with hs := c.hs ++ [h] } := ⟨_, rfl⟩
 have hdh : c.hs ++ [h] = d.hs := by rw [hd]
 have hdl : d.hs.length = c.hs.length + 1 := by rw [← hdh]; simp
 rw [hdh, show c.full = d.full from by rw [hd], show c.empty = d.empty from by rw [hd]]
 refine spL rfl rfl (lhA (ctl d (d.sl a9 c9)) ag79 rfl rfl rfl) rfl ?_
 refine clV rfl cal43 rfl rfl (c_rCart d a9 c9 (by omega) _ _) ?_
 refine sp rfl (PE.assign rfl) rfl ?_
 refine sy_seq ?_
 refine sy_tx' [0, 1] rfl ?_
 refine sp rfl (PE.move rfl) rfl ?_
 refine sp rfl (PE.neq rfl rfl) rfl ?_
 refine sy_cond rfl (fun hc2 => ?_) (fun hc2 => ?_)
 have e := tak_bad h0 h6 hd (by simpa using hc2)
 refine sy_seq ?_
 refine sy_tx' [0, 1, 2, 3] rfl ?_
 refine sp rfl (PE.build (out := [_, _, _]) pl79 zl79 rfl rfl) rfl ?_
 refine sp rfl (PE.move rfl) rfl ?_
 refine sto rfl rfl rfl cn79 rfl rfl rfl rfl ?_
 refine sp rfl (PE.assign rfl) rfl ?_
 refine sy_ret ?_
 refine Sy.heap (fun w h9 => St.also h9.ftail (f := RowsA none 5 []) (fun w9 _ => fun i row hi => by simp at hi)) ?_
 rw [e]
 exact sy_return (vs := [_, _]) rfl (.cons (RV.cell rfl (lhA [_, _, _] ag79 rfl rfl rfl)) (.cons (RV.tmp rfl) .nil)) rfl ⟨none, 0, rfl, rfl, (rfl : RowsA none 5 [] :: R = _)⟩ (fun w h => St.sub (((((h.del b7).del b29).del b4).del b3).del b2))
 have e := tak_ok h0 h6 hd (by simpa using hc2)
 refine sy_skip ?_
 refine sy_seq ?_
 refine sy_tx' [0, 1, 2] rfl ?_
 refine spL rfl rfl (lhA (ctl d (d.sl a9 c9)) ag79 rfl rfl rfl) rfl ?_
 refine sto rfl rfl rfl cn79 rfl rfl rfl rfl ?_
 refine sp rfl (PE.assign rfl) rfl ?_
 refine sy_ret ?_
 rw [e]
 exact sy_return (vs := [_, _]) rfl (.cons (RV.cell rfl (lhA [_, _, _] ag79 rfl rfl rfl)) (.cons (RV.tmp rfl) .nil)) rfl ⟨a9, c9, rfl, rfl, (rfl : RowsA a9 5 (hrows d.hs) :: R = _)⟩ (fun w h => St.sub (((((h.del b7).del b29).del b4).del b3).del b2))
 refine sy_alt ?_ ?_
 refine alc rfl zl79 rfl (fun b7 => ?_)
 refine bg (fun w hs => ⟨(lh sc3 rfl rfl) w hs, (lh sc3 rfl rfl) w hs, trivial⟩) ?_
 refine apO (o27) rfl ap77 rfl rfl (rowsH (row := hrow h) rfl) rfl rfl ((by simp only [hrows, List.length_map, List.length_singleton, List.nil_append]; omega)) rfl (fun o30 => ?_)
 refine bg (fun w hs => ⟨(lh sc3 rfl rfl) w hs, (lh sc3 rfl rfl) w hs, trivial⟩) ?_
 have e30 : ([] ++ hrows c.hs) ++ [hrow h] = hrows (c.hs ++ [h]) := by simp [hrows]
 obtain ⟨a9, c9, hfe, hff⟩ := (o30.cast e30).freeze
 rw [show o30.fs = _ from hfe, hr_len]
 refine Sy.heap (fun w h => hff (h.pullG o30.G)) ?_
 clear hfe hff
 refine tk rfl (PE.build (out := [.int .i64 c.full, .int .i64 c.empty, .slice a9 (c.hs ++ [h]).length c9]) pl79 zl79 rfl rfl) rfl ?_
 refine sto rfl rfl rfl cn79 rfl rfl rfl rfl ?_
 refine bg (fun w hs => ⟨trivial, trivial, trivial⟩) ?_
 refine sy_seq ?_
 refine sy_seq ?_
 refine sy_tx' [0, 1, 2] rfl ?_
 obtain ⟨d, hd⟩ : ∃ d : Crt, d = { c with hs := c.hs ++ [h] } := ⟨_, rfl⟩
 have hdh : c.hs ++ [h] = d.hs := by rw [hd]
 have hdl : d.hs.length = c.hs.length + 1 := by rw [← hdh]; simp
 rw [hdh, show c.full = d.full from by rw [hd], show c.empty = d.empty from by rw [hd]]
 refine spL rfl rfl (lhA (ctl d (d.sl a9 c9)) ag79 rfl rfl rfl) rfl ?_
 refine clV rfl cal43 rfl rfl (c_rCart d a9 c9 (by omega) _ _) ?_
 refine sp rfl (PE.assign rfl) rfl ?_
 refine sy_seq ?_
 refine sy_tx' [0, 1] rfl ?_
 refine sp rfl (PE.move rfl) rfl ?_
 refine sp rfl (PE.neq rfl rfl) rfl ?_
 refine sy_cond rfl (fun hc2 => ?_) (fun hc2 => ?_)
 have e := tak_bad h0 h6 hd (by simpa using hc2)
 refine sy_seq ?_
 refine sy_tx' [0, 1, 2, 3] rfl ?_
 refine sp rfl (PE.build (out := [_, _, _]) pl79 zl79 rfl rfl) rfl ?_
 refine sp rfl (PE.move rfl) rfl ?_
 refine sto rfl rfl rfl cn79 rfl rfl rfl rfl ?_
 refine sp rfl (PE.assign rfl) rfl ?_
 refine sy_ret ?_
 refine Sy.heap (fun w h9 => St.also h9.ftail (f := RowsA none 5 []) (fun w9 _ => fun i row hi => by simp at hi)) ?_
 rw [e]
 exact sy_return (vs := [_, _]) rfl (.cons (RV.cell rfl (lhA [_, _, _] ag79 rfl rfl rfl)) (.cons (RV.tmp rfl) .nil)) rfl ⟨none, 0, rfl, rfl, (rfl : RowsA none 5 [] :: R = _)⟩ (fun w h => St.sub (((((h.del b7).del b29).del b4).del b3).del b2))
 have e := tak_ok h0 h6 hd (by simpa using hc2)
 refine sy_skip ?_
 refine sy_seq ?_
 refine sy_tx' [0, 1, 2] rfl ?_
 refine spL rfl rfl (lhA (ctl d (d.sl a9 c9)) ag79 rfl rfl rfl) rfl ?_
 refine sto rfl rfl rfl cn79 rfl rfl rfl rfl ?_
 refine sp rfl (PE.assign rfl) rfl ?_
 refine sy_ret ?_
 rw [e]
 exact sy_return (vs := [_, _]) rfl (.cons (RV.cell rfl (lhA [_, _, _] ag79 rfl rfl rfl)) (.cons (RV.tmp rfl) .nil)) rfl ⟨a9, c9, rfl, rfl, (rfl : RowsA a9 5 (hrows d.hs) :: R = _)⟩ (fun w h => St.sub (((((h.del b7).del b29).del b4).del b3).del b2))
 exact sy_stop
 refine sy_alt ?_ ?_
 refine alc rfl zl79 rfl (fun b7 => ?_)
 refine bg (fun w hs => ⟨(lhA (hrow h) ag83 rfl (rest := []) (by rw [List.append_nil]; rfl) rfl) w hs, (lh sc3 rfl rfl) w hs, (lh sc3 rfl rfl) w hs, trivial⟩) ?_
 refine bsl (out := [_, _, _, _, _]) rfl sl77 zl83 rfl rfl rfl rfl rfl rfl (fun b29 => ?_)
 refine bg (fun w hs => ⟨trivial, (lh sc3 rfl rfl) w hs, (lh sc3 rfl rfl) w hs, trivial⟩) ?_
 refine apO (o27) rfl ap77 rfl rfl (rowsH (row := hrow h) rfl) rfl rfl ((by simp only [hrows, List.length_map, List.length_singleton, List.nil_append]; omega)) rfl (fun o30 => ?_)
 refine bg (fun w hs => ⟨(lh sc3 rfl rfl) w hs, (lh sc3 rfl rfl) w hs, trivial⟩) ?_
 have e30 : ([] ++ hrows c.hs) ++ [hrow h] = hrows (c.hs ++ [h]) := by simp [hrows]
 obtain ⟨a9, c9, hfe, hff⟩ := (o30.cast e30).freeze
 rw [show o30.fs = _ from hfe, hr_len]
 refine Sy.heap (fun w h => hff (h.pullG o30.G)) ?_
 clear hfe hff
 refine tk rfl (PE.build (out := [.int .i64 c.full, .int .i64 c.empty, .slice a9 (c.hs ++ [h]).length c9]) pl79 zl79 rfl rfl) rfl ?_
 refine sto rfl rfl rfl cn79 rfl rfl rfl rfl ?_
 refine bg (fun w hs => ⟨trivial, trivial, trivial⟩) ?_
 refine sy_seq ?_
 refine sy_seq ?_
 refine sy_tx' [0, 1, 2] rfl ?_
 obtain ⟨d, hd⟩ : ∃ d : Crt, d = { c with hs := c.hs ++ [h] } := ⟨_, rfl⟩
 have hdh : c.hs ++ [h] = d.hs := by rw [hd]
 have hdl : d.hs.length = c.hs.length + 1 := by rw [← hdh]; simp
 rw [hdh, show c.full = d.full from by rw [hd], show c.empty = d.empty from by rw [hd]]
 refine spL rfl rfl (lhA (ctl d (d.sl a9 c9)) ag79 rfl rfl rfl) rfl ?_
 refine clV rfl cal43 rfl rfl (c_rCart d a9 c9 (by omega) _ _) ?_
 refine sp rfl (PE.assign rfl) rfl ?_
 refine sy_seq ?_
 refine sy_tx' [0, 1] rfl ?_
 refine sp rfl (PE.move rfl) rfl ?_
 refine sp rfl (PE.neq rfl rfl) rfl ?_
 refine sy_cond rfl (fun hc2 => ?_) (fun hc2 => ?_)
 have e := tak_bad h0 h6 hd (by simpa using hc2)
 refine sy_seq ?_
 refine sy_tx' [0, 1, 2, 3] rfl ?_
 refine sp rfl (PE.build (out := [_, _, _]) pl79 zl79 rfl rfl) rfl ?_
 refine sp rfl (PE.move rfl) rfl ?_
 refine sto rfl rfl rfl cn79 rfl rfl rfl rfl ?_
 refine sp rfl (PE.assign rfl) rfl ?_
 refine sy_ret ?_
 refine Sy.heap (fun w h9 => St.also h9.ftail (f := RowsA none 5 []) (fun w9 _ => fun i row hi => by simp at hi)) ?_
 rw [e]
 exact sy_return (vs := [_, _]) rfl (.cons (RV.cell rfl (lhA [_, _, _] ag79 rfl rfl rfl)) (.cons (RV.tmp rfl) .nil)) rfl ⟨none, 0, rfl, rfl, (rfl : RowsA none 5 [] :: R = _)⟩ (fun w h => St.sub (((((h.del b7).del b29).del b4).del b3).del b2))
 have e := tak_ok h0 h6 hd (by simpa using hc2)
 refine sy_skip ?_
 refine sy_seq ?_
 refine sy_tx' [0, 1, 2] rfl ?_
 refine spL rfl rfl (lhA (ctl d (d.sl a9 c9)) ag79 rfl rfl rfl) rfl ?_
 refine sto rfl rfl rfl cn79 rfl rfl rfl rfl ?_
 refine sp rfl (PE.assign rfl) rfl ?_
 refine sy_ret ?_
 rw [e]
 exact sy_return (vs := [_, _]) rfl (.cons (RV.cell rfl (lhA [_, _, _] ag79 rfl rfl rfl)) (.cons (RV.tmp rfl) .nil)) rfl ⟨a9, c9, rfl, rfl, (rfl : RowsA a9 5 (hrows d.hs) :: R = _)⟩ (fun w h => St.sub (((((h.del b7).del b29).del b4).del b3).del b2))
 exact sy_stop
 refine sy_alt ?_ ?_
 refine bsl (out := [_, _, _, _, _]) rfl sl77 zl83 rfl rfl rfl rfl rfl rfl (fun b29 => ?_)
 refine bg (fun w hs => ⟨trivial, (lh sc77 rfl rfl) w hs, (lh sc3 rfl rfl) w hs, (lh sc3 rfl rfl) w hs, trivial⟩) ?_
 refine sy_alt ?_ ?_
 refine apO (news := hrows c.hs) o24 rfl ap77 rfl rfl (rowsF) (hr_len _) (by simp [onecells, hrows, hrow, Value.oneCell']) ⟨by simp [hrows]; omega, by simp [hrows]; omega⟩ rfl (fun o27 => ?_)
 refine bg (fun w hs => ⟨trivial, (lh sc3 rfl rfl) w hs, (lh sc3 rfl rfl) w hs, trivial⟩) ?_
 refine sy_alt ?_ ?_
 refine apO (o27) rfl ap77 rfl rfl (rowsH (row := hrow h) rfl) rfl rfl ((by simp only [hrows, List.length_map, List.length_singleton, List.nil_append]; omega)) rfl (fun o30 => ?_)
 refine bg (fun w hs => ⟨(lh sc3 rfl rfl) w hs, (lh sc3 rfl rfl) w hs, trivial⟩) ?_
 have e30 : ([] ++ hrows c.hs) ++ [hrow h] = hrows (c.hs ++ [h]) := by simp [hrows]
 obtain ⟨a9, c9, hfe, hff⟩ := (o30.cast e30).freeze
 rw [show o30.fs = _ from hfe, hr_len]
 refine Sy.heap (fun w h => hff (h.pullG o30.G)) ?_
 clear hfe hff
 refine tk rfl (PE.build (out := [.int .i64 c.full, .int .i64 c.empty, .slice a9 (c.hs ++ [h]).length c9]) pl79 zl79 rfl rfl) rfl ?_
 refine alc rfl zl79 rfl (fun b7 => ?_)
 refine bg (fun w hs => ⟨(lh sc3 rfl rfl) w hs, (lh sc3 rfl rfl) w hs, trivial⟩) ?_
 refine sto rfl rfl rfl cn79 rfl rfl rfl rfl ?_
 refine bg (fun w hs => ⟨trivial, trivial, trivial⟩) ?_
 refine sy_seq ?_
 refine sy_seq ?_
 refine sy_tx' [0, 1, 2] rfl ?_
 obtain ⟨d, hd⟩ : ∃ d : Crt, d = { c with hs := c.hs ++ [h] } := ⟨_, rfl⟩
 have hdh : c.hs ++ [h] = d.hs := by rw [hd]
 have hdl : d.hs.length = c.hs.length + 1 := by rw [← hdh]; simp
 rw [hdh, show c.full = d.full from by rw [hd], show c.empty = d.empty from by rw [hd]]
 refine spL rfl rfl (lhA (ctl d (d.sl a9 c9)) ag79 rfl rfl rfl) rfl ?_
 refine clV rfl cal43 rfl rfl (c_rCart d a9 c9 (by omega) _ _) ?_
 refine sp rfl (PE.assign rfl) rfl ?_
 refine sy_seq ?_
 refine sy_tx' [0, 1] rfl ?_
 refine sp rfl (PE.move rfl) rfl ?_
 refine sp rfl (PE.neq rfl rfl) rfl ?_
 refine sy_cond rfl (fun hc2 => ?_) (fun hc2 => ?_)
 have e := tak_bad h0 h6 hd (by simpa using hc2)
 refine sy_seq ?_
 refine sy_tx' [0, 1, 2, 3] rfl ?_
 refine sp rfl (PE.build (out := [_, _, _]) pl79 zl79 rfl rfl) rfl ?_
 refine sp rfl (PE.move rfl) rfl ?_
 refine sto rfl rfl rfl cn79 rfl rfl rfl rfl ?_
 refine sp rfl (PE.assign rfl) rfl ?_
 refine sy_ret ?_
 refine Sy.heap (fun w h9 => St.also h9.ftail (f := RowsA none 5 []) (fun w9 _ => fun i row hi => by simp at hi)) ?_
 rw [e]
 exact sy_return (vs := [_, _]) rfl (.cons (RV.cell rfl (lhA [_, _, _] ag79 rfl rfl rfl)) (.cons (RV.tmp rfl) .nil)) rfl ⟨none, 0, rfl, rfl, (rfl : RowsA none 5 [] :: R = _)⟩ (fun w h => St.sub (((((h.del b7).del b29).del b4).del b3).del b2))
 have e := tak_ok h0 h6 hd (by simpa using hc2)
 refine sy_skip ?_
 refine sy_seq ?_
 refine sy_tx' [0, 1, 2] rfl ?_
 refine spL rfl rfl (lhA (ctl d (d.sl a9 c9)) ag79 rfl rfl rfl) rfl ?_
 refine sto rfl rfl rfl cn79 rfl rfl rfl rfl ?_
 refine sp rfl (PE.assign rfl) rfl ?_
 refine sy_ret ?_
 rw [e]
 exact sy_return (vs := [_, _]) rfl (.cons (RV.cell rfl (lhA [_, _, _] ag79 rfl rfl rfl)) (.cons (RV.tmp rfl) .nil)) rfl ⟨a9, c9, rfl, rfl, (rfl : RowsA a9 5 (hrows d.hs) :: R = _)⟩ (fun w h => St.sub (((((h.del b7).del b29).del b4).del b3).del b2))
 refine sy_alt ?_ ?_
 refine alc rfl zl79 rfl (fun b7 => ?_)
 refine bg (fun w hs => ⟨(lh sc3 rfl rfl) w hs, (lh sc3 rfl rfl) w hs, trivial⟩) ?_
 refine apO (o27) rfl ap77 rfl rfl (rowsH (row := hrow h) rfl) rfl rfl ((by simp only [hrows, List.length_map, List.length_singleton, List.nil_append]; omega)) rfl (fun o30 => ?_)
 refine bg (fun w hs => ⟨(lh sc3 rfl rfl) w hs, (lh sc3 rfl rfl) w hs, trivial⟩) ?_
 have e30 : ([] ++ hrows c.hs) ++ [hrow h] = hrows (c.hs ++ [h]) := by simp [hrows]
 obtain ⟨a9, c9, hfe, hff⟩ := (o30.cast e30).freeze
 rw [show o30.fs = _ from hfe, hr_len]
 refine Sy.heap (fun w h => hff (h.pullG o30.G)) ?_
 clear hfe hff
 refine tk rfl (PE.build (out := [.int .i64 c.full, .int .i64 c.empty, .slice a9 (c.hs ++ [h]).length c9]) pl79 zl79 rfl rfl) rfl ?_
 refine sto rfl rfl rfl cn79 rfl rfl rfl rfl ?_
 refine bg (fun w hs => ⟨trivial, trivial, trivial⟩) ?_
 refine sy_seq ?_
 refine sy_seq ?_
 refine sy_tx' [0, 1, 2] rfl ?_
 obtain ⟨d, hd⟩ : ∃ d : Crt, d = { c with hs := c.hs ++ [h] } := ⟨_, rfl⟩
 have hdh : c.hs ++ [h] = d.hs := by rw [hd]
 have hdl : d.hs.length = c.hs.length + 1 := by rw [← hdh]; simp
 rw [hdh, show c.full = d.full from by rw [hd], show c.empty = d.empty from by rw [hd]]
 refine spL rfl rfl (lhA (ctl d (d.sl a9 c9)) ag79 rfl rfl rfl) rfl ?_
 refine clV rfl cal43 rfl rfl (c_rCart d a9 c9 (by omega) _ _) ?_
 refine sp rfl (PE.assign rfl) rfl ?_
 refine sy_seq ?_
 refine sy_tx' [0, 1] rfl ?_
 refine sp rfl (PE.move rfl) rfl ?_
 refine sp rfl (PE.neq rfl rfl) rfl ?_
 refine sy_cond rfl (fun hc2 => ?_) (fun hc2 => ?_)
 have e := tak_bad h0 h6 hd (by simpa using hc2)
 refine sy_seq ?_
 refine sy_tx' [0, 1, 2, 3] rfl ?_
 refine sp rfl (PE.build (out := [_, _, _]) pl79 zl79 rfl rfl) rfl ?_
 refine sp rfl (PE.move rfl) rfl ?_
 refine sto rfl rfl rfl cn79 rfl rfl rfl rfl ?_
 refine sp rfl (PE.assign rfl) rfl ?_
 refine sy_ret ?_
 refine Sy.heap (fun w h9 => St.also h9.ftail (f := RowsA none 5 []) (fun w9 _ => fun i row hi => by simp at hi)) ?_
 rw [e]
 exact sy_return (vs := [_, _]) rfl (.cons (RV.cell rfl (lhA [_, _, _] ag79 rfl rfl rfl)) (.cons (RV.tmp rfl) .nil)) rfl ⟨none, 0, rfl, rfl, (rfl : RowsA none 5 [] :: R = _)⟩ (fun w h => St.sub (((((h.del b7).del b29).del b4).del b3).del b2))
 have e := tak_ok h0 h6 hd (by simpa using hc2)
 refine sy_skip ?_
 refine sy_seq ?_
 refine sy_tx' [0, 1, 2] rfl ?_
 refine spL rfl rfl (lhA (ctl d (d.sl a9 c9)) ag79 rfl rfl rfl) rfl ?_
 refine sto rfl rfl rfl cn79 rfl rfl rfl rfl ?_
 refine sp rfl (PE.assign rfl) rfl ?_
 refine sy_ret ?_
 rw [e]
 exact sy_return (vs := [_, _]) rfl (.cons (RV.cell rfl (lhA [_, _, _] ag79 rfl rfl rfl)) (.cons (RV.tmp rfl) .nil)) rfl ⟨a9, c9, rfl, rfl, (rfl : RowsA a9 5 (hrows d.hs) :: R = _)⟩ (fun w h => St.sub (((((h.del b7).del b29).del b4).del b3).del b2))
 exact sy_stop
 refine sy_alt ?_ ?_
 refine alc rfl zl79 rfl (fun b7 => ?_)
 refine bg (fun w hs => ⟨(lh sc77 rfl rfl) w hs, (lh sc3 rfl rfl) w hs, (lh sc3 rfl rfl) w hs, trivial⟩) ?_
 refine apO (news := hrows c.hs) o24 rfl ap77 rfl rfl (rowsF) (hr_len _) (by simp [onecells, hrows, hrow, Value.oneCell']) ⟨by simp [hrows]; omega, by simp [hrows]; omega⟩ rfl (fun o27 => ?_)
 refine bg (fun w hs => ⟨trivial, (lh sc3 rfl rfl) w hs, (lh sc3 rfl rfl) w hs, trivial⟩) ?_
 refine apO (o27) rfl ap77 rfl rfl (rowsH (row := hrow h) rfl) rfl rfl ((by simp only [hrows, List.length_map, List.length_singleton, List.nil_append]; omega)) rfl (fun o30 => ?_)
 refine bg (fun w hs => ⟨(lh sc3 rfl rfl) w hs, (lh sc3 rfl rfl) w hs, trivial⟩) ?_
 have e30 : ([] ++ hrows c.hs) ++ [hrow h] = hrows (c.hs ++ [h]) := by simp [hrows]
 obtain ⟨a9, c9, hfe, hff⟩ := (o30.cast e30).freeze
 rw [show o30.fs = _ from hfe, hr_len]
 refine Sy.heap (fun w h => hff (h.pullG o30.G)) ?_
 clear hfe hff
 refine tk rfl (PE.build (out := [.int .i64 c.full, .int .i64 c.empty, .slice a9 (c.hs ++ [h]).length c9]) pl79 zl79 rfl rfl) rfl ?_
 refine sto rfl rfl rfl cn79 rfl rfl rfl rfl ?_
 refine bg (fun w hs => ⟨trivial, trivial, trivial⟩) ?_
 refine sy_seq ?_
 refine sy_seq ?_
 refine sy_tx' [0, 1, 2] rfl ?_
 obtain ⟨d, hd⟩ : ∃ d : Crt, d = { c with hs := c.hs ++ [h] } := ⟨_, rfl⟩
 have hdh : c.hs ++ [h] = d.hs := by rw [hd]
 have hdl : d.hs.length = c.hs.length + 1 := by rw [← hdh]; simp
 rw [hdh, show c.full = d.full from by rw [hd], show c.empty = d.empty from by rw [hd]]
 refine spL rfl rfl (lhA (ctl d (d.sl a9 c9)) ag79 rfl rfl rfl) rfl ?_
 refine clV rfl cal43 rfl rfl (c_rCart d a9 c9 (by omega) _ _) ?_
 refine sp rfl (PE.assign rfl) rfl ?_
 refine sy_seq ?_
 refine sy_tx' [0, 1] rfl ?_
 refine sp rfl (PE.move rfl) rfl ?_
 refine sp rfl (PE.neq rfl rfl) rfl ?_
 refine sy_cond rfl (fun hc2 => ?_) (fun hc2 => ?_)
 have e := tak_bad h0 h6 hd (by simpa using hc2)
 refine sy_seq ?_
 refine sy_tx' [0, 1, 2, 3] rfl ?_
 refine sp rfl (PE.build (out := [_, _, _]) pl79 zl79 rfl rfl) rfl ?_
 refine sp rfl (PE.move rfl) rfl ?_
 refine sto rfl rfl rfl cn79 rfl rfl rfl rfl ?_
 refine sp rfl (PE.assign rfl) rfl ?_
 refine sy_ret ?_
 refine Sy.heap (fun w h9 => St.also h9.ftail (f := RowsA none 5 []) (fun w9 _ => fun i row hi => by simp at hi)) ?_
 rw [e]
 exact sy_return (vs := [_, _]) rfl (.cons (RV.cell rfl (lhA [_, _, _] ag79 rfl rfl rfl)) (.cons (RV.tmp rfl) .nil)) rfl ⟨none, 0, rfl, rfl, (rfl : RowsA none 5 [] :: R = _)⟩ (fun w h => St.sub (((((h.del b7).del b29).del b4).del b3).del b2))
 have e := tak_ok h0 h6 hd (by simpa using hc2)
 refine sy_skip ?_
 refine sy_seq ?_
 refine sy_tx' [0, 1, 2] rfl ?_
 refine spL rfl rfl (lhA (ctl d (d.sl a9 c9)) ag79 rfl rfl rfl) rfl ?_
 refine sto rfl rfl rfl cn79 rfl rfl rfl rfl ?_
 refine sp rfl (PE.assign rfl) rfl ?_
 refine sy_ret ?_
 rw [e]
 exact sy_return (vs := [_, _]) rfl (.cons (RV.cell rfl (lhA [_, _, _] ag79 rfl rfl rfl)) (.cons (RV.tmp rfl) .nil)) rfl ⟨a9, c9, rfl, rfl, (rfl : RowsA a9 5 (hrows d.hs) :: R = _)⟩ (fun w h => St.sub (((((h.del b7).del b29).del b4).del b3).del b2))
 exact sy_stop
 refine sy_alt ?_ ?_
 refine alc rfl zl79 rfl (fun b7 => ?_)
 refine bg (fun w hs => ⟨(lhA (hrow h) ag83 rfl (rest := []) (by rw [List.append_nil]; rfl) rfl) w hs, (lh sc77 rfl rfl) w hs, (lh sc3 rfl rfl) w hs, (lh sc3 rfl rfl) w hs, trivial⟩) ?_
 refine sy_alt ?_ ?_
 refine apO (news := hrows c.hs) o24 rfl ap77 rfl rfl (rowsF) (hr_len _) (by simp [onecells, hrows, hrow, Value.oneCell']) ⟨by simp [hrows]; omega, by simp [hrows]; omega⟩ rfl (fun o27 => ?_)
 refine bg (fun w hs => ⟨(lhA (hrow h) ag83 rfl (rest := []) (by rw [List.append_nil]; rfl) rfl) w hs, trivial, (lh sc3 rfl rfl) w hs, (lh sc3 rfl rfl) w hs, trivial⟩) ?_
 refine bsl (out := [_, _, _, _, _]) rfl sl77 zl83 rfl rfl rfl rfl rfl rfl (fun b29 => ?_)
 refine bg (fun w hs => ⟨trivial, (lh sc3 rfl rfl) w hs, (lh sc3 rfl rfl) w hs, trivial⟩) ?_
 refine apO (o27) rfl ap77 rfl rfl (rowsH (row := hrow h) rfl) rfl rfl ((by simp only [hrows, List.length_map, List.length_singleton, List.nil_append]; omega)) rfl (fun o30 => ?_)
 refine bg (fun w hs => ⟨(lh sc3 rfl rfl) w hs, (lh sc3 rfl rfl) w hs, trivial⟩) ?_
 have e30 : ([] ++ hrows c.hs) ++ [hrow h] = hrows (c.hs ++ [h]) := by simp [hrows]
 obtain ⟨a9, c9, hfe, hff⟩ := (o30.cast e30).freeze
 rw [show o30.fs = _ from hfe, hr_len]
 refine Sy.heap (fun w h => hff (h.pullG o30.G)) ?_
 clear hfe hff
 refine tk rfl (PE.build (out := [.int .i64 c.full, .int .i64 c.empty, .slice a9 (c.hs ++ [h]).length c9]) pl79 zl79 rfl rfl) rfl ?_
 refine sto rfl rfl rfl cn79 rfl rfl rfl rfl ?_
 refine bg (fun w hs => ⟨trivial, trivial, trivial⟩) ?_
 refine sy_seq ?_
 refine sy_seq ?_
 refine sy_tx' [0, 1, 2] rfl ?_
 obtain ⟨d, hd⟩ : ∃ d : Crt, d = { c with hs := c.hs ++ [h] } := ⟨_, rfl⟩
 have hdh : c.hs ++ [h] = d.hs := by rw [hd]
 have hdl : d.hs.length = c.hs.length + 1 := by rw [← hdh]; simp
 rw [hdh, show c.full = d.full from by rw [hd], show c.empty = d.empty from by rw [hd]]
 refine spL rfl rfl (lhA (ctl d (d.sl a9 c9)) ag79 rfl rfl rfl) rfl ?_
 refine clV rfl cal43 rfl rfl (c_rCart d a9 c9 (by omega) _ _) ?_
 refine sp rfl (PE.assign rfl) rfl ?_
 refine sy_seq ?_
 refine sy_tx' [0, 1] rfl ?_
 refine sp rfl (PE.move rfl) rfl ?_
 refine sp rfl (PE.neq rfl rfl) rfl ?_
 refine sy_cond rfl (fun hc2 => ?_) (fun hc2 => ?_)
 have e := tak_bad h0 h6 hd (by simpa using hc2)
 refine sy_seq ?_
 refine sy_tx' [0, 1, 2, 3] rfl ?_
 refine sp rfl (PE.build (out := [_, _, _]) pl79 zl79 rfl rfl) rfl ?_
 refine sp rfl (PE.move rfl) rfl ?_
 refine sto rfl rfl rfl cn79 rfl rfl rfl rfl ?_
 refine sp rfl (PE.assign rfl) rfl ?_
 refine sy_ret ?_
 refine Sy.heap (fun w h9 => St.also h9.ftail (f := RowsA none 5 []) (fun w9 _ => fun i row hi => by simp at hi)) ?_
 rw [e]
 exact sy_return (vs := [_, _]) rfl (.cons (RV.cell rfl (lhA [_, _, _] ag79 rfl rfl rfl)) (.cons (RV.tmp rfl) .nil)) rfl ⟨none, 0, rfl, rfl, (rfl : RowsA none 5 [] :: R = _)⟩ (fun w h => St.sub (((((h.del b7).del b29).del b4).del b3).del b2))
 have e := tak_ok h0 h6 hd (by simpa using hc2)
 refine sy_skip ?_
 refine sy_seq ?_
 refine sy_tx' [0, 1, 2] rfl ?_
 refine spL rfl rfl (lhA (ctl d (d.sl a9 c9)) ag79 rfl rfl rfl) rfl ?_
 refine sto rfl rfl rfl cn79 rfl rfl rfl rfl ?_
 refine sp rfl (PE.assign rfl) rfl ?_
 refine sy_ret ?_
 rw [e]
 exact sy_return (vs := [_, _]) rfl (.cons (RV.cell rfl (lhA [_, _, _] ag79 rfl rfl rfl)) (.cons (RV.tmp rfl) .nil)) rfl ⟨a9, c9, rfl, rfl, (rfl : RowsA a9 5 (hrows d.hs) :: R = _)⟩ (fun w h => St.sub (((((h.del b7).del b29).del b4).del b3).del b2))
 refine sy_alt ?_ ?_
 refine bsl (out := [_, _, _, _, _]) rfl sl77 zl83 rfl rfl rfl rfl rfl rfl (fun b29 => ?_)
 refine bg (fun w hs => ⟨trivial, (lh sc77 rfl rfl) w hs, (lh sc3 rfl rfl) w hs, (lh sc3 rfl rfl) w hs, trivial⟩) ?_
 refine apO (news := hrows c.hs) o24 rfl ap77 rfl rfl (rowsF) (hr_len _) (by simp [onecells, hrows, hrow, Value.oneCell']) ⟨by simp [hrows]; omega, by simp [hrows]; omega⟩ rfl (fun o27 => ?_)
 refine bg (fun w hs => ⟨trivial, (lh sc3 rfl rfl) w hs, (lh sc3 rfl rfl) w hs, trivial⟩) ?_
 refine apO (o27) rfl ap77 rfl rfl (rowsH (row := hrow h) rfl) rfl rfl ((by simp only [hrows, List.length_map, List.length_singleton, List.nil_append]; omega)) rfl (fun o30 => ?_)
 refine bg (fun w hs => ⟨(lh sc3 rfl rfl) w hs, (lh sc3 rfl rfl) w hs, trivial⟩) ?_
 have e30 : ([] ++ hrows c.hs) ++ [hrow h] = hrows (c.hs ++ [h]) := by simp [hrows]
 obtain ⟨a9, c9, hfe, hff⟩ := (o30.cast e30).freeze
 rw [show o30.fs = _ from hfe, hr_len]
 refine Sy.heap (fun w h => hff (h.pullG o30.G)) ?_
 clear hfe hff
 refine tk rfl (PE.build (out := [.int .i64 c.full, .int .i64 c.empty, .slice a9 (c.hs ++ [h]).length c9]) pl79 zl79 rfl rfl) rfl ?_
 refine sto rfl rfl rfl cn79 rfl rfl rfl rfl ?_
 refine bg (fun w hs => ⟨trivial, trivial, trivial⟩) ?_
 refine sy_seq ?_
 refine sy_seq ?_
 refine sy_tx' [0, 1, 2] rfl ?_
 obtain ⟨d, hd⟩ : ∃ d : Crt, d = { c with hs := c.hs ++ [h] } := ⟨_, rfl⟩
 have hdh : c.hs ++ [h] = d.hs := by rw [hd]
 have hdl : d.hs.length = c.hs.length + 1 := by rw [← hdh]; simp
 rw [hdh, show c.full = d.full from by rw [hd], show c.empty = d.empty from by rw [hd]]
 refine spL rfl rfl (lhA (ctl d (d.sl a9 c9)) ag79 rfl rfl rfl) rfl ?_
 refine clV rfl cal43 rfl rfl (c_rCart d a9 c9 (by omega) _ _) ?_
 refine sp rfl (PE.assign rfl) rfl ?_
 refine sy_seq ?_
 refine sy_tx' [0, 1] rfl ?_
 refine sp rfl (PE.move rfl) rfl ?_
 refine sp rfl (PE.neq rfl rfl) rfl ?_
 refine sy_cond rfl (fun hc2 => ?_) (fun hc2 => ?_)
 have e := tak_bad h0 h6 hd (by simpa using hc2)
 refine sy_seq ?_
 refine sy_tx' [0, 1, 2, 3] rfl ?_
 refine sp rfl (PE.build (out := [_, _, _]) pl79 zl79 rfl rfl) rfl ?_
 refine sp rfl (PE.move rfl) rfl ?_
 refine sto rfl rfl rfl cn79 rfl rfl rfl rfl ?_
 refine sp rfl (PE.assign rfl) rfl ?_
 refine sy_ret ?_
 refine Sy.heap (fun w h9 => St.also h9.ftail (f := RowsA none 5 []) (fun w9 _ => fun i row hi => by simp at hi)) ?_
 rw [e]
 exact sy_return (vs := [_, _]) rfl (.cons (RV.cell rfl (lhA [_, _, _] ag79 rfl rfl rfl)) (.cons (RV.tmp rfl) .nil)) rfl ⟨none, 0, rfl, rfl, (rfl : RowsA none 5 [] :: R = _)⟩ (fun w h => St.sub (((((h.del b7).del b29).del b4).del b3).del b2))
 have e := tak_ok h0 h6 hd (by simpa using hc2)
 refine sy_skip ?_
 refine sy_seq ?_
 refine sy_tx' [0, 1, 2] rfl ?_
 refine spL rfl rfl (lhA (ctl d (d.sl a9 c9)) ag79 rfl rfl rfl) rfl ?_
 refine sto rfl rfl rfl cn79 rfl rfl rfl rfl ?_
 refine sp rfl (PE.assign rfl) rfl ?_
 refine sy_ret ?_
 rw [e]
 exact sy_return (vs := [_, _]) rfl (.cons (RV.cell rfl (lhA [_, _, _] ag79 rfl rfl rfl)) (.cons (RV.tmp rfl) .nil)) rfl ⟨a9, c9, rfl, rfl, (rfl : RowsA a9 5 (hrows d.hs) :: R = _)⟩ (fun w h => St.sub (((((h.del b7).del b29).del b4).del b3).del b2))
 exact sy_stop
 exact sy_stop
 refine sy_alt ?_ ?_
 refine bsl (out := [_, _, _, _, _]) rfl sl77 zl83 rfl rfl rfl rfl rfl rfl (fun b29 => ?_)
 refine bg (fun w hs => ⟨trivial, (lh sc77 rfl rfl) w hs, (lh sc3 rfl rfl) w hs, (lh sc3 rfl rfl) w hs, trivial⟩) ?_
 refine sy_alt ?_ ?_
 refine bsl0 rfl sl77 rfl (fun o24 ho24 => ?_)
 refine bg (fun w hs => ⟨(lh sc77 rfl rfl) w hs, (lh sc3 rfl rfl) w hs, (lh sc3 rfl rfl) w hs, trivial⟩) ?_
 refine sy_alt ?_ ?_
 refine apO (news := hrows c.hs) o24 rfl ap77 rfl rfl (rowsF) (hr_len _) (by simp [onecells, hrows, hrow, Value.oneCell']) ⟨by simp [hrows]; omega, by simp [hrows]; omega⟩ rfl (fun o27 => ?_)
 refine bg (fun w hs => ⟨trivial, (lh sc3 rfl rfl) w hs, (lh sc3 rfl rfl) w hs, trivial⟩) ?_
 refine sy_alt ?_ ?_
 refine apO (o27) rfl ap77 rfl rfl (rowsH (row := hrow h) rfl) rfl rfl ((by simp only [hrows, List.length_map, List.length_singleton, List.nil_append]; omega)) rfl (fun o30 => ?_)
 refine bg (fun w hs => ⟨(lh sc3 rfl rfl) w hs, (lh sc3 rfl rfl) w hs, trivial⟩) ?_
 have e30 : ([] ++ hrows c.hs) ++ [hrow h] = hrows (c.hs ++ [h]) := by simp [hrows]
 obtain ⟨a9, c9, hfe, hff⟩ := (o30.cast e30).freeze
 rw [show o30.fs = _ from hfe, hr_len]
 refine Sy.heap (fun w h => hff (h.pullG o30.G)) ?_
 clear hfe hff
 refine tk rfl (PE.build (out := [.int .i64 c.full, .int .i64 c.empty, .slice a9 (c.hs ++ [h]).length c9]) pl79 zl79 rfl rfl) rfl ?_
 refine alc rfl zl79 rfl (fun b7 => ?_)
 refine bg (fun w hs => ⟨(lh sc3 rfl rfl) w hs, (lh sc3 rfl rfl) w hs, trivial⟩) ?_
 refine sto rfl rfl rfl cn79 rfl rfl rfl rfl ?_
 refine bg (fun w hs => ⟨trivial, trivial, trivial⟩) ?_
 refine sy_seq ?_
 refine sy_seq ?_
 refine sy_tx' [0, 1, 2] rfl ?_
 obtain ⟨d, hd⟩ : ∃ d : Crt, d = { c with hs := c.hs ++ [h] } := ⟨_, rfl⟩
 have hdh : c.hs ++ [h] = d.hs := by rw [hd]
 have hdl : d.hs.length = c.hs.length + 1 := by rw [← hdh]; simp
 rw [hdh, show c.full = d.full from by rw [hd], show c.empty = d.empty from by rw [hd]]
 refine spL rfl rfl (lhA (ctl d (d.sl a9 c9)) ag79 rfl rfl rfl) rfl ?_
 refine clV rfl cal43 rfl rfl (c_rCart d a9 c9 (by omega) _ _) ?_
 refine sp rfl (PE.assign rfl) rfl ?_
 refine sy_seq ?_
 refine sy_tx' [0, 1] rfl ?_
 refine sp rfl (PE.move rfl) rfl ?_
 refine sp rfl (PE.neq rfl rfl) rfl ?_
 refine sy_cond rfl (fun hc2 => ?_) (fun hc2 => ?_)
 have e := tak_bad h0 h6 hd (by simpa using hc2)
 refine sy_seq ?_
 refine sy_tx' [0, 1, 2, 3] rfl ?_
 refine sp rfl (PE.build (out := [_, _, _]) pl79 zl79 rfl rfl) rfl ?_
 refine sp rfl (PE.move rfl) rfl ?_
 refine sto rfl rfl rfl cn79 rfl rfl rfl rfl ?_
 refine sp rfl (PE.assign rfl) rfl ?_
 refine sy_ret ?_
 refine Sy.heap (fun w h9 => St.also h9.ftail (f := RowsA none 5 []) (fun w9 _ => fun i row hi => by simp at hi)) ?_
 rw [e]
 exact sy_return (vs := [_, _]) rfl (.cons (RV.cell rfl (lhA [_, _, _] ag79 rfl rfl rfl)) (.cons (RV.tmp rfl) .nil)) rfl ⟨none, 0, rfl, rfl, (rfl : RowsA none 5 [] :: R = _)⟩ (fun w h => St.sub (((((h.del b7).del b29).del b4).del b3).del b2))
 have e := tak_ok h0 h6 hd (by simpa using hc2)
 refine sy_skip ?_
 refine sy_seq ?_
 refine sy_tx' [0, 1, 2] rfl ?_
 refine spL rfl rfl (lhA (ctl d (d.sl a9 c9)) ag79 rfl rfl rfl) rfl ?_
 refine sto rfl rfl rfl cn79 rfl rfl rfl rfl ?_
 refine sp rfl (PE.assign rfl) rfl ?_
 refine sy_ret ?_
 rw [e]
 exact sy_return (vs := [_, _]) rfl (.cons (RV.cell rfl (lhA [_, _, _] ag79 rfl rfl rfl)) (.cons (RV.tmp rfl) .nil)) rfl ⟨a9, c9, rfl, rfl, (rfl : RowsA a9 5 (hrows d.hs) :: R = _)⟩ (fun w h => St.sub (((((h.del b7).del b29).del b4).del b3).del b2))
 refine sy_alt ?_ ?_
 refine alc rfl zl79 rfl (fun b7 => ?_)
 refine bg (fun w hs => ⟨(lh sc3 rfl rfl) w hs, (lh sc3 rfl rfl) w hs, trivial⟩) ?_
 refine apO (o27) rfl ap77 rfl rfl (rowsH (row := hrow h) rfl) rfl rfl ((by simp only [hrows, List.length_map, List.length_singleton, List.nil_append]; omega)) rfl (fun o30 => ?_)
 refine bg (fun w hs => ⟨(lh sc3 rfl rfl) w hs, (lh sc3 rfl rfl) w hs, trivial⟩) ?_
 have e30 : ([] ++ hrows c.hs) ++ [hrow h] = hrows (c.hs ++ [h]) := by simp [hrows]
 obtain ⟨a9, c9, hfe, hff⟩ := (o30.cast e30).freeze
 rw [show o30.fs = _ from hfe, hr_len]
 refine Sy.heap (fun w h => hff (h.pullG o30.G)) ?_
 clear hfe hff
 refine tk rfl (PE.build (out := [.int .i64 c.full, .int .i64 c.empty, .slice a9 (c.hs ++ [h]).length c9]) pl79 zl79 rfl rfl) rfl ?_
 refine sto rfl rfl rfl cn79 rfl rfl rfl rfl ?_
 refine bg (fun w hs => ⟨trivial, trivial, trivial⟩) ?_
 refine sy_seq ?_
 refine sy_seq ?_
 refine sy_tx' [0, 1, 2] rfl ?_
 obtain ⟨d, hd⟩ : ∃ d : Crt, d = { c with hs := c.hs ++ [h] } := ⟨_, rfl⟩
 have hdh : c.hs ++ [h] = d.hs := by rw [hd]
 have hdl : d.hs.length = c.hs.length + 1 := by rw [← hdh]; simp
 rw [hdh, show c.full = d.full from by rw [hd], show c.empty = d.empty from by rw [hd]]
 refine spL rfl rfl (lhA (ctl d (d.sl a9 c9)) ag79 rfl rfl rfl) rfl ?_
 refine clV rfl cal43 rfl rfl (c_rCart d a9 c9 (by omega) _ _) ?_
 refine sp rfl (PE.assign rfl) rfl ?_
 refine sy_seq ?_
 refine sy_tx' [0, 1] rfl ?_
 refine sp rfl (PE.move rfl) rfl ?_
 refine sp rfl (PE.neq rfl rfl) rfl ?_
 refine sy_cond rfl (fun hc2 => ?_) (fun hc2 => ?_)
 have e := tak_bad h0 h6 hd (by simpa using hc2)
 refine sy_seq ?_
 refine sy_tx' [0, 1, 2, 3] rfl ?_
 refine sp rfl (PE.build (out := [_, _, _]) pl79 zl79 rfl rfl) rfl ?_
 refine sp rfl (PE.move rfl) rfl ?_
 refine sto rfl rfl rfl cn79 rfl rfl rfl rfl ?_
 refine sp rfl (PE.assign rfl) rfl ?_
 refine sy_ret ?_
 refine Sy.heap (fun w h9 => St.also h9.ftail (f := RowsA none 5 []) (fun w9 _ => fun i row hi => by simp at hi)) ?_
 rw [e]
 exact sy_return (vs := [_, _]) rfl (.cons (RV.cell rfl (lhA [_, _, _] ag79 rfl rfl rfl)) (.cons (RV.tmp rfl) .nil)) rfl ⟨none, 0, rfl, rfl, (rfl : RowsA none 5 [] :: R = _)⟩ (fun w h => St.sub (((((h.del b7).del b29).del b4).del b3).del b2))
 have e := tak_ok h0 h6 hd (by simpa using hc2)
 refine sy_skip ?_
 refine sy_seq ?_
 refine sy_tx' [0, 1, 2] rfl ?_
 refine spL rfl rfl (lhA (ctl d (d.sl a9 c9)) ag79 rfl rfl rfl) rfl ?_
 refine sto rfl rfl rfl cn79 rfl rfl rfl rfl ?_
 refine sp rfl (PE.assign rfl) rfl ?_
 refine sy_ret ?_
 rw [e]
 exact sy_return (vs := [_, _]) rfl (.cons (RV.cell rfl (lhA [_, _, _] ag79 rfl rfl rfl)) (.cons (RV.tmp rfl) .nil)) rfl ⟨a9, c9, rfl, rfl, (rfl : RowsA a9 5 (hrows d.hs) :: R = _)⟩ (fun w h => St.sub (((((h.del b7).del b29).del b4).del b3).del b2))
 exact sy_stop
 refine sy_alt ?_ ?_
 refine alc rfl zl79 rfl (fun b7 => ?_)
 refine bg (fun w hs => ⟨(lh sc77 rfl rfl) w hs, (lh sc3 rfl rfl) w hs, (lh sc3 rfl rfl) w hs, trivial⟩) ?_
 refine apO (news := hrows c.hs) o24 rfl ap77 rfl rfl (rowsF) (hr_len _) (by simp [onecells, hrows, hrow, Value.oneCell']) ⟨by simp [hrows]; omega, by simp [hrows]; omega⟩ rfl (fun o27 => ?_)
 refine bg (fun w hs => ⟨trivial, (lh sc3 rfl rfl) w hs, (lh sc3 rfl rfl) w hs, trivial⟩) ?_
 refine apO (o27) rfl ap77 rfl rfl (rowsH (row := hrow h) rfl) rfl rfl ((by simp only [hrows, List.length_map, List.length_singleton, List.nil_append]; omega)) rfl (fun o30 => ?_)
 refine bg (fun w hs => ⟨(lh sc3 rfl rfl) w hs, (lh sc3 rfl rfl) w hs, trivial⟩) ?_
 have e30 : ([] ++ hrows c.hs) ++ [hrow h] = hrows (c.hs ++ [h]) := by simp [hrows]
 obtain ⟨a9, c9, hfe, hff⟩ := (o30.cast e30).freeze
 rw [show o30.fs = _ from hfe, hr_len]
 refine Sy.heap (fun w h => hff (h.pullG o30.G)) ?_
 clear hfe hff
 refine tk rfl (PE.build (out := [.int .i64 c.full, .int .i64 c.empty, .slice a9 (c.hs ++ [h]).length c9]) pl79 zl79 rfl rfl) rfl ?_
 refine sto rfl rfl rfl cn79 rfl rfl rfl rfl ?_
 refine bg (fun w hs => ⟨trivial, trivial, trivial⟩) ?_
 refine sy_seq ?_
 refine sy_seq ?_
 refine sy_tx' [0, 1, 2] rfl ?_
 obtain ⟨d, hd⟩ : ∃ d : Crt, d = { c with hs := c.hs ++ [h] } := ⟨_, rfl⟩
 have hdh : c.hs ++ [h] = d.hs := by rw [hd]
 have hdl : d.hs.length = c.hs.length + 1 := by rw [← hdh]; simp
 rw [hdh, show c.full = d.full from by rw [hd], show c.empty = d.empty from by rw [hd]]
 refine spL rfl rfl (lhA (ctl d (d.sl a9 c9)) ag79 rfl rfl rfl) rfl ?_
 refine clV rfl cal43 rfl rfl (c_rCart d a9 c9 (by omega) _ _) ?_
 refine sp rfl (PE.assign rfl) rfl ?_
 refine sy_seq ?_
 refine sy_tx' [0, 1] rfl ?_
 refine sp rfl (PE.move rfl) rfl ?_
 refine sp rfl (PE.neq rfl rfl) rfl ?_
 refine sy_cond rfl (fun hc2 => ?_) (fun hc2 => ?_)
 have e := tak_bad h0 h6 hd (by simpa using hc2)
 refine sy_seq ?_
 refine sy_tx' [0, 1, 2, 3] rfl ?_
 refine sp rfl (PE.build (out := [_, _, _]) pl79 zl79 rfl rfl) rfl ?_
 refine sp rfl (PE.move rfl) rfl ?_
 refine sto rfl rfl rfl cn79 rfl rfl rfl rfl ?_
 refine sp rfl (PE.assign rfl) rfl ?_
 refine sy_ret ?_
 refine Sy.heap (fun w h9 => St.also h9.ftail (f := RowsA none 5 []) (fun w9 _ => fun i row hi => by simp at hi)) ?_
 rw [e]
 exact sy_return (vs := [_, _]) rfl (.cons (RV.cell rfl (lhA [_, _, _] ag79 rfl rfl rfl)) (.cons (RV.tmp rfl) .nil)) rfl ⟨none, 0, rfl, rfl, (rfl : RowsA none 5 [] :: R = _)⟩ (fun w h => St.sub (((((h.del b7).del b29).del b4).del b3).del b2))
 have e := tak_ok h0 h6 hd (by simpa using hc2)
 refine sy_skip ?_
 refine sy_seq ?_
 refine sy_tx' [0, 1, 2] rfl ?_
 refine spL rfl rfl (lhA (ctl d (d.sl a9 c9)) ag79 rfl rfl rfl) rfl ?_
 refine sto rfl rfl rfl cn79 rfl rfl rfl rfl ?_
 refine sp rfl (PE.assign rfl) rfl ?_
 refine sy_ret ?_
 rw [e]
 exact sy_return (vs := [_, _]) rfl (.cons (RV.cell rfl (lhA [_, _, _] ag79 rfl rfl rfl)) (.cons (RV.tmp rfl) .nil)) rfl ⟨a9, c9, rfl, rfl, (rfl : RowsA a9 5 (hrows d.hs) :: R = _)⟩ (fun w h => St.sub (((((h.del b7).del b29).del b4).del b3).del b2))
 exact sy_stop
 refine sy_alt ?_ ?_
 refine alc rfl zl79 rfl (fun b7 => ?_)
 refine bg (fun w hs => ⟨(lh sc77 rfl rfl) w hs, (lh sc3 rfl rfl) w hs, (lh sc3 rfl rfl) w hs, trivial⟩) ?_
 refine bsl0 rfl sl77 rfl (fun o24 ho24 => ?_)
 refine bg (fun w hs => ⟨(lh sc77 rfl rfl) w hs, (lh sc3 rfl rfl) w hs, (lh sc3 rfl rfl) w hs, trivial⟩) ?_
 refine apO (news := hrows c.hs) o24 rfl ap77 rfl rfl (rowsF) (hr_len _) (by simp [onecells, hrows, hrow, Value.oneCell']) ⟨by simp [hrows]; omega, by simp [hrows]; omega⟩ rfl (fun o27 => ?_)
 refine bg (fun w hs => ⟨trivial, (lh sc3 rfl rfl) w hs, (lh sc3 rfl rfl) w hs, trivial⟩) ?_
 refine apO (o27) rfl ap77 rfl rfl (rowsH (row := hrow h) rfl) rfl rfl ((by simp only [hrows, List.length_map, List.length_singleton, List.nil_append]; omega)) rfl (fun o30 => ?_)
 refine bg (fun w hs => ⟨(lh sc3 rfl rfl) w hs, (lh sc3 rfl rfl) w hs, trivial⟩) ?_
 have e30 : ([] ++ hrows c.hs) ++ [hrow h] = hrows (c.hs ++ [h]) := by simp [hrows]
 obtain ⟨a9, c9, hfe, hff⟩ := (o30.cast e30).freeze
 rw [show o30.fs = _ from hfe, hr_len]
 refine Sy.heap (fun w h => hff (h.pullG o30.G)) ?_
 clear hfe hff
 refine tk rfl (PE.build (out := [.int .i64 c.full, .int .i64 c.empty, .slice a9 (c.hs ++ [h]).length c9]) pl79 zl79 rfl rfl) rfl ?_
 refine sto rfl rfl rfl cn79 rfl rfl rfl rfl ?_
 refine bg (fun w hs => ⟨trivial, trivial, trivial⟩) ?_
 refine sy_seq ?_
 refine sy_seq ?_
 refine sy_tx' [0, 1, 2] rfl ?_
 obtain ⟨d, hd⟩ : ∃ d : Crt, d = { c with hs := c.hs ++ [h] } := ⟨_, rfl⟩
 have hdh : c.hs ++ [h] = d.hs := by rw [hd]
 have hdl : d.hs.length = c.hs.length + 1 := by rw [← hdh]; simp
 rw [hdh, show c.full = d.full from by rw [hd], show c.empty = d.empty from by rw [hd]]
 refine spL rfl rfl (lhA (ctl d (d.sl a9 c9)) ag79 rfl rfl rfl) rfl ?_
 refine clV rfl cal43 rfl rfl (c_rCart d a9 c9 (by omega) _ _) ?_
 refine sp rfl (PE.assign rfl) rfl ?_
 refine sy_seq ?_
 refine sy_tx' [0, 1] rfl ?_
 refine sp rfl (PE.move rfl) rfl ?_
 refine sp rfl (PE.neq rfl rfl) rfl ?_
 refine sy_cond rfl (fun hc2 => ?_) (fun hc2 => ?_)
 have e := tak_bad h0 h6 hd (by simpa using hc2)
 refine sy_seq ?_
 refine sy_tx' [0, 1, 2, 3] rfl ?_
 refine sp rfl (PE.build (out := [_, _, _]) pl79 zl79 rfl rfl) rfl ?_
 refine sp rfl (PE.move rfl) rfl ?_
 refine sto rfl rfl rfl cn79 rfl rfl rfl rfl ?_
 refine sp rfl (PE.assign rfl) rfl ?_
 refine sy_ret ?_
 refine Sy.heap (fun w h9 => St.also h9.ftail (f := RowsA none 5 []) (fun w9 _ => fun i row hi => by simp at hi)) ?_
 rw [e]
 exact sy_return (vs := [_, _]) rfl (.cons (RV.cell rfl (lhA [_, _, _] ag79 rfl rfl rfl)) (.cons (RV.tmp rfl) .nil)) rfl ⟨none, 0, rfl, rfl, (rfl : RowsA none 5 [] :: R = _)⟩ (fun w h => St.sub (((((h.del b7).del b29).del b4).del b3).del b2))
 have e := tak_ok h0 h6 hd (by simpa using hc2)
 refine sy_skip ?_
 refine sy_seq ?_
 refine sy_tx' [0, 1, 2] rfl ?_
 refine spL rfl rfl (lhA (ctl d (d.sl a9 c9)) ag79 rfl rfl rfl) rfl ?_
 refine sto rfl rfl rfl cn79 rfl rfl rfl rfl ?_
 refine sp rfl (PE.assign rfl) rfl ?_
 refine sy_ret ?_
 rw [e]
 exact sy_return (vs := [_, _]) rfl (.cons (RV.cell rfl (lhA [_, _, _] ag79 rfl rfl rfl)) (.cons (RV.tmp rfl) .nil)) rfl ⟨a9, c9, rfl, rfl, (rfl : RowsA a9 5 (hrows d.hs) :: R = _)⟩ (fun w h => St.sub (((((h.del b7).del b29).del b4).del b3).del b2))
 exact sy_stop
 refine sy_alt ?_ ?_
 refine alc rfl zl79 rfl (fun b7 => ?_)
 refine bg (fun w hs => ⟨(lhA (hrow h) ag83 rfl (rest := []) (by rw [List.append_nil]; rfl) rfl) w hs, (lh sc77 rfl rfl) w hs, (lh sc3 rfl rfl) w hs, (lh sc3 rfl rfl) w hs, trivial⟩) ?_
 refine sy_alt ?_ ?_
 refine bsl0 rfl sl77 rfl (fun o24 ho24 => ?_)
 refine bg (fun w hs => ⟨(lhA (hrow h) ag83 rfl (rest := []) (by rw [List.append_nil]; rfl) rfl) w hs, (lh sc77 rfl rfl) w hs, (lh sc3 rfl rfl) w hs, (lh sc3 rfl rfl) w hs, trivial⟩) ?_
 refine sy_alt ?_ ?_
 refine apO (news := hrows c.hs) o24 rfl ap77 rfl rfl (rowsF) (hr_len _) (by simp [onecells, hrows, hrow, Value.oneCell']) ⟨by simp [hrows]; omega, by simp [hrows]; omega⟩ rfl (fun o27 => ?_)
 refine bg (fun w hs => ⟨(lhA (hrow h) ag83 rfl (rest := []) (by rw [List.append_nil]; rfl) rfl) w hs, trivial, (lh sc3 rfl rfl) w hs, (lh sc3 rfl rfl) w hs, trivial⟩) ?_
 refine bsl (out := [_, _, _, _, _]) rfl sl77 zl83 rfl rfl rfl rfl rfl rfl (fun b29 => ?_)
 refine bg (fun w hs => ⟨trivial, (lh sc3 rfl rfl) w hs, (lh sc3 rfl rfl) w hs, trivial⟩) ?_
 refine apO (o27) rfl ap77 rfl rfl (rowsH (row := hrow h) rfl) rfl rfl ((by simp only [hrows, List.length_map, List.length_singleton, List.nil_append]; omega)) rfl (fun o30 => ?_)
 refine bg (fun w hs => ⟨(lh sc3 rfl rfl) w hs, (lh sc3 rfl rfl) w hs, trivial⟩) ?_
 have e30 : ([] ++ hrows c.hs) ++ [hrow h] = hrows (c.hs ++ [h]) := by simp [hrows]
 obtain ⟨a9, c9, hfe, hff⟩ := (o30.cast e30).freeze
 rw [show o30.fs = _ from hfe, hr_len]
 refine Sy.heap (fun w h => hff (h.pullG o30.G)) ?_
 clear hfe hff
 refine tk rfl (PE.build (out := [.int .i64 c.full, .int .i64 c.empty, .slice a9 (c.hs ++ [h]).length c9]) pl79 zl79 rfl rfl) rfl ?_
 refine sto rfl rfl rfl cn79 rfl rfl rfl rfl ?_
 refine bg (fun w hs => ⟨trivial, trivial, trivial⟩) ?_
 refine sy_seq ?_
 refine sy_seq ?_
 refine sy_tx' [0, 1, 2] rfl ?_
 obtain ⟨d, hd⟩ : ∃ d : Crt, d = { c with hs := c.hs ++ [h] } := ⟨_, rfl⟩
 have hdh : c.hs ++ [h] = d.hs := by rw [hd]
 have hdl : d.hs.length = c.hs.length + 1 := by rw [← hdh]; simp
 rw [hdh, show c.full = d.full from by rw [hd], show c.empty = d.empty from by rw [hd]]
 refine spL rfl rfl (lhA (ctl d (d.sl a9 c9)) ag79 rfl rfl rfl) rfl ?_
 refine clV rfl cal43 rfl rfl (c_rCart d a9 c9 (by omega) _ _) ?_
 refine sp rfl (PE.assign rfl) rfl ?_
 refine sy_seq ?_
 refine sy_tx' [0, 1] rfl ?_
 refine sp rfl (PE.move rfl) rfl ?_
 refine sp rfl (PE.neq rfl rfl) rfl ?_
 refine sy_cond rfl (fun hc2 => ?_) (fun hc2 => ?_)
 have e := tak_bad h0 h6 hd (by simpa using hc2)
 refine sy_seq ?_
 refine sy_tx' [0, 1, 2, 3] rfl ?_
 refine sp rfl (PE.build (out := [_, _, _]) pl79 zl79 rfl rfl) rfl ?_
 refine sp rfl (PE.move rfl) rfl ?_
 refine sto rfl rfl rfl cn79 rfl rfl rfl rfl ?_
 refine sp rfl (PE.assign rfl) rfl ?_
 refine sy_ret ?_
 refine Sy.heap (fun w h9 => St.also h9.ftail (f := RowsA none 5 []) (fun w9 _ => fun i row hi => by simp at hi)) ?_
 rw [e]
 exact sy_return (vs := [_, _]) rfl (.cons (RV.cell rfl (lhA [_, _, _] ag79 rfl rfl rfl)) (.cons (RV.tmp rfl) .nil)) rfl ⟨none, 0, rfl, rfl, (rfl : RowsA none 5 [] :: R = _)⟩ (fun w h => St.sub (((((h.del b7).del b29).del b4).del b3).del b2))
 have e := tak_ok h0 h6 hd (by simpa using hc2)
 refine sy_skip ?_
 refine sy_seq ?_
 refine sy_tx' [0, 1, 2] rfl ?_
 refine spL rfl rfl (lhA (ctl d (d.sl a9 c9)) ag79 rfl rfl rfl) rfl ?_
 refine sto rfl rfl rfl cn79 rfl rfl rfl rfl ?_
 refine sp rfl (PE.assign rfl) rfl ?_
 refine sy_ret ?_
 rw [e]
 exact sy_return (vs := [_, _]) rfl (.cons (RV.cell rfl (lhA [_, _, _] ag79 rfl rfl rfl)) (.cons (RV.tmp rfl) .nil)) rfl ⟨a9, c9, rfl, rfl, (rfl : RowsA a9 5 (hrows d.hs) :: R = _)⟩ (fun w h => St.sub (((((h.del b7).del b29).del b4).del b3).del b2))
 refine sy_alt ?_ ?_
 refine bsl (out := [_, _, _, _, _]) rfl sl77 zl83 rfl rfl rfl rfl rfl rfl (fun b29 => ?_)
 refine bg (fun w hs => ⟨trivial, (lh sc77 rfl rfl) w hs, (lh sc3 rfl rfl) w hs, (lh sc3 rfl rfl) w hs, trivial⟩) ?_
 refine apO (news := hrows c.hs) o24 rfl ap77 rfl rfl (rowsF) (hr_len _) (by simp [onecells, hrows, hrow, Value.oneCell']) ⟨by simp [hrows]; omega, by simp [hrows]; omega⟩ rfl (fun o27 => ?_)
 refine bg (fun w hs => ⟨trivial, (lh sc3 rfl rfl) w hs, (lh sc3 rfl rfl) w hs, trivial⟩) ?_
 refine apO (o27) rfl ap77 rfl rfl (rowsH (row := hrow h) rfl) rfl rfl ((by simp only [hrows, List.length_map, List.length_singleton, List.nil_append]; omega)) rfl (fun o30 => ?_)
 refine bg (fun w hs => ⟨(lh sc3 rfl rfl) w hs, (lh sc3 rfl rfl) w hs, trivial⟩) ?_
 have e30 : ([] ++ hrows c.hs) ++ [hrow h] = hrows (c.hs ++ [h]) := by simp [hrows]
 obtain ⟨a9, c9, hfe, hff⟩ := (o30.cast e30).freeze
 rw [show o30.fs = _ from hfe, hr_len]
 refine Sy.heap (fun w h => hff (h.pullG o30.G)) ?_
 clear hfe hff
 refine tk rfl (PE.build (out := [.int .i64 c.full, .int .i64 c.empty, .slice a9 (c.hs ++ [h]).length c9]) pl79 zl79 rfl rfl) rfl ?_
 refine sto rfl rfl rfl cn79 rfl rfl rfl rfl ?_
 refine bg (fun w hs => ⟨trivial, trivial, trivial⟩) ?_
 refine sy_seq ?_
 refine sy_seq ?_
 refine sy_tx' [0, 1, 2] rfl ?_
 obtain ⟨d, hd⟩ : ∃ d : Crt, d = { c with hs := c.hs ++ [h] } := ⟨_, rfl⟩
 have hdh : c.hs ++ [h] = d.hs := by rw [hd]
 have hdl : d.hs.length = c.hs.length + 1 := by rw [← hdh]; simp
 rw [hdh, show c.full = d.full from by rw [hd], show c.empty = d.empty from by rw [hd]]
 refine spL rfl rfl (lhA (ctl d (d.sl a9 c9)) ag79 rfl rfl rfl) rfl ?_
 refine clV rfl cal43 rfl rfl (c_rCart d a9 c9 (by omega) _ _) ?_
 refine sp rfl (PE.assign rfl) rfl ?_
 refine sy_seq ?_
 refine sy_tx' [0, 1] rfl ?_
 refine sp rfl (PE.move rfl) rfl ?_
 refine sp rfl (PE.neq rfl rfl) rfl ?_
 refine sy_cond rfl (fun hc2 => ?_) (fun hc2 => ?_)
 have e := tak_bad h0 h6 hd (by simpa using hc2)
 refine sy_seq ?_
 refine sy_tx' [0, 1, 2, 3] rfl ?_
 refine sp rfl (PE.build (out := [_, _, _]) pl79 zl79 rfl rfl) rfl ?_
 refine sp rfl (PE.move rfl) rfl ?_
 refine sto rfl rfl rfl cn79 rfl rfl rfl rfl ?_
 refine sp rfl (PE.assign rfl) rfl ?_
 refine sy_ret ?_
 refine Sy.heap (fun w h9 => St.also h9.ftail (f := RowsA none 5 []) (fun w9 _ => fun i row hi => by simp at hi)) ?_
 rw [e]
 exact sy_return (vs := [_, _]) rfl (.cons (RV.cell rfl (lhA [_, _, _] ag79 rfl rfl rfl)) (.cons (RV.tmp rfl) .nil)) rfl ⟨none, 0, rfl, rfl, (rfl : RowsA none 5 [] :: R = _)⟩ (fun w h => St.sub (((((h.del b7).del b29).del b4).del b3).del b2))
 have e := tak_ok h0 h6 hd (by simpa using hc2)
 refine sy_skip ?_
 refine sy_seq ?_
 refine sy_tx' [0, 1, 2] rfl ?_
 refine spL rfl rfl (lhA (ctl d (d.sl a9 c9)) ag79 rfl rfl rfl) rfl ?_
 refine sto rfl rfl rfl cn79 rfl rfl rfl rfl ?_
 refine sp rfl (PE.assign rfl) rfl ?_
 refine sy_ret ?_
 rw [e]
 exact sy_return (vs := [_, _]) rfl (.cons (RV.cell rfl (lhA [_, _, _] ag79 rfl rfl rfl)) (.cons (RV.tmp rfl) .nil)) rfl ⟨a9, c9, rfl, rfl, (rfl : RowsA a9 5 (hrows d.hs) :: R = _)⟩ (fun w h => St.sub (((((h.del b7).del b29).del b4).del b3).del b2))
 exact sy_stop
 refine sy_alt ?_ ?_
 refine bsl (out := [_, _, _, _, _]) rfl sl77 zl83 rfl rfl rfl rfl rfl rfl (fun b29 => ?_)
 refine bg (fun w hs => ⟨trivial, (lh sc77 rfl rfl) w hs, (lh sc3 rfl rfl) w hs, (lh sc3 rfl rfl) w hs, trivial⟩) ?_
 refine bsl0 rfl sl77 rfl (fun o24 ho24 => ?_)
 refine bg (fun w hs => ⟨(lh sc77 rfl rfl) w hs, (lh sc3 rfl rfl) w hs, (lh sc3 rfl rfl) w hs, trivial⟩) ?_
 refine apO (news := hrows c.hs) o24 rfl ap77 rfl rfl (rowsF) (hr_len _) (by simp [onecells, hrows, hrow, Value.oneCell']) ⟨by simp [hrows]; omega, by simp [hrows]; omega⟩ rfl (fun o27 => ?_)
 refine bg (fun w hs => ⟨trivial, (lh sc3 rfl rfl) w hs, (lh sc3 rfl rfl) w hs, trivial⟩) ?_
 refine apO (o27) rfl ap77 rfl rfl (rowsH (row := hrow h) rfl) rfl rfl ((by simp only [hrows, List.length_map, List.length_singleton, List.nil_append]; omega)) rfl (fun o30 => ?_)
 refine bg (fun w hs => ⟨(lh sc3 rfl rfl) w hs, (lh sc3 rfl rfl) w hs, trivial⟩) ?_
 have e30 : ([] ++ hrows c.hs) ++ [hrow h] = hrows (c.hs ++ [h]) := by simp [hrows]
 obtain ⟨a9, c9, hfe, hff⟩ := (o30.cast e30).freeze
 rw [show o30.fs = _ from hfe, hr_len]
 refine Sy.heap (fun w h => hff (h.pullG o30.G)) ?_
 clear hfe hff
 refine tk rfl (PE.build (out := [.int .i64 c.full, .int .i64 c.empty, .slice a9 (c.hs ++ [h]).length c9]) pl79 zl79 rfl rfl) rfl ?_
 refine sto rfl rfl rfl cn79 rfl rfl rfl rfl ?_
 refine bg (fun w hs => ⟨trivial, trivial, trivial⟩) ?_
 refine sy_seq ?_
 refine sy_seq ?_
 refine sy_tx' [0, 1, 2] rfl ?_
 obtain ⟨d, hd⟩ : ∃ d : Crt, d = { c with hs := c.hs ++ [h] } := ⟨_, rfl⟩
 have hdh : c.hs ++ [h] = d.hs := by rw [hd]
 have hdl : d.hs.length = c.hs.length + 1 := by rw [← hdh]; simp
 rw [hdh, show c.full = d.full from by rw [hd], show c.empty = d.empty from by rw [hd]]
 refine spL rfl rfl (lhA (ctl d (d.sl a9 c9)) ag79 rfl rfl rfl) rfl ?_
 refine clV rfl cal43 rfl rfl (c_rCart d a9 c9 (by omega) _ _) ?_
 refine sp rfl (PE.assign rfl) rfl ?_
 refine sy_seq ?_
 refine sy_tx' [0, 1] rfl ?_
 refine sp rfl (PE.move rfl) rfl ?_
 refine sp rfl (PE.neq rfl rfl) rfl ?_
 refine sy_cond rfl (fun hc2 => ?_) (fun hc2 => ?_)
 have e := tak_bad h0 h6 hd (by simpa using hc2)
 refine sy_seq ?_
 refine sy_tx' [0, 1, 2, 3] rfl ?_
 refine sp rfl (PE.build (out := [_, _, _]) pl79 zl79 rfl rfl) rfl ?_
 refine sp rfl (PE.move rfl) rfl ?_
 refine sto rfl rfl rfl cn79 rfl rfl rfl rfl ?_
 refine sp rfl (PE.assign rfl) rfl ?_
 refine sy_ret ?_
 refine Sy.heap (fun w h9 => St.also h9.ftail (f := RowsA none 5 []) (fun w9 _ => fun i row hi => by simp at hi)) ?_
 rw [e]
 exact sy_return (vs := [_, _]) rfl (.cons (RV.cell rfl (lhA [_, _, _] ag79 rfl rfl rfl)) (.cons (RV.tmp rfl) .nil)) rfl ⟨none, 0, rfl, rfl, (rfl : RowsA none 5 [] :: R = _)⟩ (fun w h => St.sub (((((h.del b7).del b29).del b4).del b3).del b2))
 have e := tak_ok h0 h6 hd (by simpa using hc2)
 refine sy_skip ?_
 refine sy_seq ?_
 refine sy_tx' [0, 1, 2] rfl ?_
 refine spL rfl rfl (lhA (ctl d (d.sl a9 c9)) ag79 rfl rfl rfl) rfl ?_
 refine sto rfl rfl rfl cn79 rfl rfl rfl rfl ?_
 refine sp rfl (PE.assign rfl) rfl ?_
 refine sy_ret ?_
 rw [e]
 exact sy_return (vs := [_, _]) rfl (.cons (RV.cell rfl (lhA [_, _, _] ag79 rfl rfl rfl)) (.cons (RV.tmp rfl) .nil)) rfl ⟨a9, c9, rfl, rfl, (rfl : RowsA a9 5 (hrows d.hs) :: R = _)⟩ (fun w h => St.sub (((((h.del b7).del b29).del b4).del b3).del b2))
 exact sy_stop
 exact sy_stop
theorem c_TakeO (c : Crt) (ah : Option Addr) (ch : Nat) (hlh : c.hs.length ≤ 9223372036854775807) (h : Hnd) (H : Heap) (R : Facts) [hA : MemRows ah 5 (hrows c.hs) R] :
    Fn Tryz.prog 40 [c.v (c.sl ah ch), .agg (hrow h).toArray] H R (fun v H' R' => ∃ o : OSl 33 5 (hrows (takR c h).1.hs), v = .tuple #[(takR c h).1.v o.fs, .int .i64 (takR c h).2] ∧ H' = o.G ++ H ∧ R' = R) := by
 refine fn_of Tryz.func40 rfl Tryz.ntmps40 rfl ?_
 refine sy_seq ?_
 refine sy_tx' [0, 1, 2, 3] rfl ?_
 refine bx rfl rfl rfl (fun b2 => ?_)
 refine bx rfl rfl rfl (fun b3 => ?_)
 refine alc rfl zl28 rfl (fun b4 => ?_)
 refine sp rfl (PE.assign rfl) rfl ?_
 refine sy_seq ?_
 refine sy_seq ?_
 refine sy_tx' [0, 1, 2] rfl ?_
 refine spL rfl rfl (lhA [_, _, _] ag28 rfl rfl rfl) rfl ?_
 refine clV rfl cal7 rfl rfl (c_CheckCart c ah ch hlh _ _) ?_
 refine sp rfl (PE.assign rfl) rfl ?_
 refine sy_seq ?_
 refine sy_tx' [0, 1] rfl ?_
 refine sp rfl (PE.move rfl) rfl ?_
 refine sp rfl (PE.neq rfl rfl) rfl ?_
 refine sy_cond rfl (fun hc0 => ?_) (fun hc0 => ?_)
 have e := tak_no (h := h) (rfl : c.check = _) (by simpa using hc0)
 refine sy_seq ?_
 refine sy_tx' [0, 1, 2, 3] rfl ?_
 refine sp rfl (PE.build (out := [_, _, _]) pl28 zl28 rfl rfl) rfl ?_
 refine sp rfl (PE.move rfl) rfl ?_
 refine sto rfl rfl rfl cn28 rfl rfl rfl rfl ?_
 refine sp rfl (PE.assign rfl) rfl ?_
 refine sy_ret ?_
 rw [e]
 exact sy_return (vs := [_, _]) rfl (.cons (RV.cell rfl (lhA [_, _, _] ag28 rfl rfl rfl)) (.cons (RV.tmp rfl) .nil)) rfl ⟨OSl.nil _ _, rfl, rfl, rfl⟩ (fun w h => ((h.del b4).del b3).del b2)
 have h0 : c.check = 0 := by simpa using hc0
 have hmn := (crt_ok.1 h0).many
 refine sy_skip ?_
 refine sy_seq ?_
 refine sy_seq ?_
 refine sy_tx' [0, 1, 2, 3] rfl ?_
 refine sp rfl (PE.fieldAddr fo28_2 rfl) rfl ?_
 refine spL rfl rfl (lh sc26 rfl rfl) rfl ?_
 refine sp rfl (PE.lenSl isl26 rfl) rfl ?_
 refine sp rfl (PE.eql rfl rfl) rfl ?_
 refine sy_cond rfl (fun hc1 => ?_) (fun hc1 => ?_)
 try simp only [decide_eq_true_eq, decide_eq_false_iff_not, Bool.and_eq_true, Bool.or_eq_true, Bool.not_eq_true', Int.not_le, Int.not_lt] at hc1
 have e := tak_full (h := h) h0 (by omega)
 refine sy_seq ?_
 refine sy_tx' [0, 1, 2] rfl ?_
 refine sp rfl (PE.build (out := [_, _, _]) pl28 zl28 rfl rfl) rfl ?_
 refine sto rfl rfl rfl cn28 rfl rfl rfl rfl ?_
 refine sp rfl (PE.assign rfl) rfl ?_
 refine sy_ret ?_
 rw [e]
 exact sy_return (vs := [_, _]) rfl (.cons (RV.cell rfl (lhA [_, _, _] ag28 rfl rfl rfl)) (.cons (RV.tmp rfl) .nil)) rfl ⟨OSl.nil _ _, rfl, rfl, rfl⟩ (fun w h => ((h.del b4).del b3).del b2)
 try simp only [decide_eq_true_eq, decide_eq_false_iff_not, Bool.and_eq_true, Bool.or_eq_true, Bool.not_eq_true', Int.not_le, Int.not_lt] at hc1
 have h6 : c.hs.length ≠ 6 := by omega
 refine sy_skip ?_
 refine sy_seq ?_
 refine sy_draw [0, 1, 0, 4, 0, 16, 48, 112, 240, 511, 0, 2047] (.tk 0 (.ld 1 (.tk 2 (.ld 3 (.tk 4 (.ld 5 (.tk 6 (.tk 7 (.any (.alt 8 (.tk 9 (.big 10 (.big 11 .done))) (.alt 10 (.big 8 (.tk 9 (.big 11 .done))) .stop))))))))))) mixed (by kernel_rfl) ?_
 refine tk rfl (PE.fieldAddr fo28_0 rfl) rfl ?_
 refine ld rfl rfl (lh sc3 rfl rfl) rfl ?_
 refine tk rfl (PE.fieldAddr fo28_1 rfl) rfl ?_
 refine ld rfl rfl (lh sc3 rfl rfl) rfl ?_
 refine tk rfl (PE.fieldAddr fo28_2 rfl) rfl ?_
 refine ld rfl rfl (lh sc26 rfl rfl) rfl ?_
 refine tk rfl (PE.lenSl isl26 rfl) rfl ?_
 refine tk rfl (PE.add rfl rfl (by omega)) rfl ?_
 refine sy_alt ?_ ?_
 rw [show ((c.hs.length : Int) + 1) = ((c.hs.length + 1 : Nat) : Int) from by omega]
 refine mkS rfl ap26 zl33 rfl rfl (Nat.le_refl _) ⟨by omega, by omega⟩ rfl (fun b28 => ?_)
 refine bg (fun w hs => ⟨trivial, (lh sc3 rfl rfl) w hs, (lh sc3 rfl rfl) w hs, trivial⟩) ?_
 refine tk rfl (PE.build (out := [.int .i64 c.full, .int .i64 c.empty, .slice (some ⟨b28, 0, none⟩) (c.hs.length + 1) (c.hs.length + 1)]) pl28 zl28 rfl rfl) rfl ?_
 refine alc rfl zl28 rfl (fun b7 => ?_)
 refine bg (fun w hs => ⟨(lh sc3 rfl rfl) w hs, (lh sc3 rfl rfl) w hs, trivial⟩) ?_
 refine sto rfl rfl rfl cn28 rfl rfl rfl rfl ?_
 refine bg (fun w hs => ⟨trivial, trivial, trivial⟩) ?_
 refine sy_seq ?_
 refine sy_tx' [0, 1, 2, 3, 4] rfl ?_
 refine sp rfl (PE.fieldAddr fo28_2 rfl) rfl ?_
 refine spL rfl rfl (lh sc26 rfl rfl) rfl ?_
 refine sp rfl (PE.fieldAddr fo28_2 rfl) rfl ?_
 refine spL rfl rfl (lh sc26 rfl rfl) rfl ?_
 refine cpyR (rows := hrows c.hs) rfl sl26 rfl (by rw [show (hrows c.hs).length = c.hs.length from List.length_map _]; rfl) (hrows_len _) (by rw [show (hrows c.hs).length = c.hs.length from List.length_map _]; omega) (hr_one _) (by rw [hr_flat, repl_len5]; omega) rfl ?_
 refine sy_seq ?_
 refine sy_tx' [0, 1, 2, 3, 4, 5, 6, 7] rfl ?_
 refine sp rfl (PE.fieldAddr fo28_2 rfl) rfl ?_
 refine spL rfl rfl (lh sc26 rfl rfl) rfl ?_
 refine sp rfl (PE.fieldAddr fo28_2 rfl) rfl ?_
 refine spL rfl rfl (lh sc26 rfl rfl) rfl ?_
 refine sp rfl (PE.lenSl isl26 rfl) rfl ?_
 refine spL rfl rfl (lhA [_, _, _, _, _] ag33 rfl rfl rfl) rfl ?_
 refine sp rfl (PE.indexAddr el26 rfl rfl (by omega) (by omega)) rfl ?_
 refine stoE (l' := (hrows (c.hs ++ [h])).flatten) rfl rfl rfl cn33 rfl rfl rfl (spl_take _ _) (by unfold spl; simp only [List.length_append, List.length_take, List.length_drop, repl_len5, hr_flat]; show 0 + ((c.hs.length : Nat) : Int).toNat * 5 + 5 ≤ _; omega) ?_
 refine sy_seq ?_
 refine sy_seq ?_
 refine sy_tx' [0, 1, 2] rfl ?_
 rw [show c.hs.length + 1 = (c.hs ++ [h]).length from by simp]
 obtain ⟨d, hd⟩ : ∃ d : Crt, d = { c with hs := c.hs ++ [h] } := ⟨_, rfl⟩
 have hdh : c.hs ++ [h] = d.hs := by rw [hd]
 have hdl : d.hs.length = c.hs.length + 1 := by rw [← hdh]; simp
 rw [hdh, show c.full = d.full from by rw [hd], show c.empty = d.empty from by rw [hd]]
 refine Sy.heap (fun w h => h.pull b28) ?_
 rw [show (hrows d.hs).flatten = (hrows d.hs).flatten ++ [] from (List.append_nil _).symm]
 refine spL rfl rfl (lhA (ctl d (d.sl (some ⟨b28, 0, none⟩) d.hs.length)) ag28 rfl rfl rfl) rfl ?_
 refine clV rfl cal7 rfl rfl (FnV.lend (b := b28) (e := 33) (sz := 5) (rows := hrows d.hs) (junk := []) (hrows_len _) (fun B => c_CheckCart d (some ⟨b28, 0, none⟩) d.hs.length (by omega) _ _)) ?_
 refine sp rfl (PE.assign rfl) rfl ?_
 refine sy_seq ?_
 refine sy_tx' [0, 1] rfl ?_
 refine sp rfl (PE.move rfl) rfl ?_
 refine sp rfl (PE.neq rfl rfl) rfl ?_
 refine sy_cond rfl (fun hc2 => ?_) (fun hc2 => ?_)
 have e := tak_bad h0 h6 hd (by simpa using hc2)
 refine sy_seq ?_
 refine sy_tx' [0, 1, 2, 3] rfl ?_
 refine sp rfl (PE.build (out := [_, _, _]) pl28 zl28 rfl rfl) rfl ?_
 refine sp rfl (PE.move rfl) rfl ?_
 refine sto rfl rfl rfl cn28 rfl rfl rfl rfl ?_
 refine sp rfl (PE.assign rfl) rfl ?_
 refine sy_ret ?_
 rw [e]
 exact sy_return (vs := [_, _]) rfl (.cons (RV.cell rfl (lhA [_, _, _] ag28 rfl rfl rfl)) (.cons (RV.tmp rfl) .nil)) rfl ⟨OSl.nil _ _, rfl, rfl, rfl⟩ (fun w h => ((((h.del b28).del b7).del b4).del b3).del b2)
 have e := tak_ok h0 h6 hd (by simpa using hc2)
 refine sy_skip ?_
 refine sy_seq ?_
 refine sy_tx' [0, 1, 2] rfl ?_
 refine spL rfl rfl (lhA (ctl d (d.sl (some ⟨b28, 0, none⟩) d.hs.length)) ag28 rfl rfl rfl) rfl ?_
 refine sto rfl rfl rfl cn28 rfl rfl rfl rfl ?_
 refine sp rfl (PE.assign rfl) rfl ?_
 refine sy_ret ?_
 rw [e]
 obtain ⟨o, hof, hog⟩ := OSl.mk1 (e := 33) (b := b28) (rfl : d.hs.length = _) (by omega)
 exact sy_return (vs := [_, _]) (v := .tuple #[d.v (d.sl (some ⟨b28, 0, none⟩) d.hs.length), .int .i64 0]) rfl (.cons (RV.cell rfl (lhA [_, _, _] ag28 rfl rfl rfl)) (.cons (RV.tmp rfl) .nil)) rfl ⟨o, by rw [hof]; rfl, rfl, rfl⟩ (fun w h => by rw [hog]; exact ((((h.del b7).del b4).del b3).del b2))
 refine sy_alt ?_ ?_
 refine alc rfl zl28 rfl (fun b7 => ?_)
 refine bg (fun w hs => ⟨(lh sc26 rfl rfl) w hs, (lh sc3 rfl rfl) w hs, (lh sc3 rfl rfl) w hs, trivial⟩) ?_
 rw [show ((c.hs.length : Int) + 1) = ((c.hs.length + 1 : Nat) : Int) from by omega]
 refine mkS rfl ap26 zl33 rfl rfl (Nat.le_refl _) ⟨by omega, by omega⟩ rfl (fun b28 => ?_)
 refine bg (fun w hs => ⟨trivial, (lh sc3 rfl rfl) w hs, (lh sc3 rfl rfl) w hs, trivial⟩) ?_
 refine tk rfl (PE.build (out := [.int .i64 c.full, .int .i64 c.empty, .slice (some ⟨b28, 0, none⟩) (c.hs.length + 1) (c.hs.length + 1)]) pl28 zl28 rfl rfl) rfl ?_
 refine sto rfl rfl rfl cn28 rfl rfl rfl rfl ?_
 refine bg (fun w hs => ⟨trivial, trivial, trivial⟩) ?_
 refine sy_seq ?_
 refine sy_tx' [0, 1, 2, 3, 4] rfl ?_
 refine sp rfl (PE.fieldAddr fo28_2 rfl) rfl ?_
 refine spL rfl rfl (lh sc26 rfl rfl) rfl ?_
 refine sp rfl (PE.fieldAddr fo28_2 rfl) rfl ?_
 refine spL rfl rfl (lh sc26 rfl rfl) rfl ?_
 refine cpyR (rows := hrows c.hs) rfl sl26 rfl (by rw [show (hrows c.hs).length = c.hs.length from List.length_map _]; rfl) (hrows_len _) (by rw [show (hrows c.hs).length = c.hs.length from List.length_map _]; omega) (hr_one _) (by rw [hr_flat, repl_len5]; omega) rfl ?_
 refine sy_seq ?_
 refine sy_tx' [0, 1, 2, 3, 4, 5, 6, 7] rfl ?_
 refine sp rfl (PE.fieldAddr fo28_2 rfl) rfl ?_
 refine spL rfl rfl (lh sc26 rfl rfl) rfl ?_
 refine sp rfl (PE.fieldAddr fo28_2 rfl) rfl ?_
 refine spL rfl rfl (lh sc26 rfl rfl) rfl ?_
 refine sp rfl (PE.lenSl isl26 rfl) rfl ?_
 refine spL rfl rfl (lhA [_, _, _, _, _] ag33 rfl rfl rfl) rfl ?_
 refine sp rfl (PE.indexAddr el26 rfl rfl (by omega) (by omega)) rfl ?_
 refine stoE (l' := (hrows (c.hs ++ [h])).flatten) rfl rfl rfl cn33 rfl rfl rfl (spl_take _ _) (by unfold spl; simp only [List.length_append, List.length_take, List.length_drop, repl_len5, hr_flat]; show 0 + ((c.hs.length : Nat) : Int).toNat * 5 + 5 ≤ _; omega) ?_
 refine sy_seq ?_
 refine sy_seq ?_
 refine sy_tx' [0, 1, 2] rfl ?_
 rw [show c.hs.length + 1 = (c.hs ++ [h]).length from by simp]
 obtain ⟨d, hd⟩ : ∃ d : Crt, d = { c with hs := c.hs ++ [h] } := ⟨_, rfl⟩
 have hdh : c.hs ++ [h] = d.hs := by rw [hd]
 have hdl : d.hs.length = c.hs.length + 1 := by rw [← hdh]; simp
 rw [hdh, show c.full = d.full from by rw [hd], show c.empty = d.empty from by rw [hd]]
 refine Sy.heap (fun w h => h.pull b28) ?_
 rw [show (hrows d.hs).flatten = (hrows d.hs).flatten ++ [] from (List.append_nil _).symm]
 refine spL rfl rfl (lhA (ctl d (d.sl (some ⟨b28, 0, none⟩) d.hs.length)) ag28 rfl rfl rfl) rfl ?_
 refine clV rfl cal7 rfl rfl (FnV.lend (b := b28) (e := 33) (sz := 5) (rows := hrows d.hs) (junk := []) (hrows_len _) (fun B => c_CheckCart d (some ⟨b28, 0, none⟩) d.hs.length (by omega) _ _)) ?_
 refine sp rfl (PE.assign rfl) rfl ?_
 refine sy_seq ?_
 refine sy_tx' [0, 1] rfl ?_
 refine sp rfl (PE.move rfl) rfl ?_
 refine sp rfl (PE.neq rfl rfl) rfl ?_
 refine sy_cond rfl (fun hc2 => ?_) (fun hc2 => ?_)
 have e := tak_bad h0 h6 hd (by simpa using hc2)
 refine sy_seq ?_
 refine sy_tx' [0, 1, 2, 3] rfl ?_
 refine sp rfl (PE.build (out := [_, _, _]) pl28 zl28 rfl rfl) rfl ?_
 refine sp rfl (PE.move rfl) rfl ?_
 refine sto rfl rfl rfl cn28 rfl rfl rfl rfl ?_
 refine sp rfl (PE.assign rfl) rfl ?_
 refine sy_ret ?_
 rw [e]
 exact sy_return (vs := [_, _]) rfl (.cons (RV.cell rfl (lhA [_, _, _] ag28 rfl rfl rfl)) (.cons (RV.tmp rfl) .nil)) rfl ⟨OSl.nil _ _, rfl, rfl, rfl⟩ (fun w h => ((((h.del b28).del b7).del b4).del b3).del b2)
 have e := tak_ok h0 h6 hd (by simpa using hc2)
 refine sy_skip ?_
 refine sy_seq ?_
 refine sy_tx' [0, 1, 2] rfl ?_
 refine spL rfl rfl (lhA (ctl d (d.sl (some ⟨b28, 0, none⟩) d.hs.length)) ag28 rfl rfl rfl) rfl ?_
 refine sto rfl rfl rfl cn28 rfl rfl rfl rfl ?_
 refine sp rfl (PE.assign rfl) rfl ?_
 refine sy_ret ?_
 rw [e]
 obtain ⟨o, hof, hog⟩ := OSl.mk1 (e := 33) (b := b28) (rfl : d.hs.length = _) (by omega)
 exact sy_return (vs := [_, _]) (v := .tuple #[d.v (d.sl (some ⟨b28, 0, none⟩) d.hs.length), .int .i64 0]) rfl (.cons (RV.cell rfl (lhA [_, _, _] ag28 rfl rfl rfl)) (.cons (RV.tmp rfl) .nil)) rfl ⟨o, by rw [hof]; rfl, rfl, rfl⟩ (fun w h => by rw [hog]; exact ((((h.del b7).del b4).del b3).del b2))
 exact sy_stop
theorem c_comeX (c : Crt) (o : OSl 33 5 (hrows c.hs)) (hl : c.hs.length ≤ 1000) (H : Heap) (R : Facts) {C : Heap → Heap} [rp : RepF o.G H C] : Fn Tryz.prog 39 [c.v o.fs] H R (fun v H' R' => ∃ a9 c9, v = c.v (c.sl a9 c9) ∧ H' = H ∧ R' = RowsA a9 5 (hrows c.hs) :: R) := by
  obtain ⟨T, p1, _⟩ := rp.rep
  rcases o.is with ⟨h1, h2, h3⟩ | ⟨b, cap, junk, h2, h3, hj, hc, hm⟩
  · have hx : c.hs = [] := List.map_eq_nil_iff.1 h1
    rw [h2]
    intro w hw
    have h9 := c_come c none 0 hl H (RowsA none 5 (hrows c.hs) :: R)
    rw [show c.sl none 0 = .slice none 0 0 from by unfold Crt.sl; rw [hx]; rfl] at h9
    refine CallsIn.mono (h9 w (St.also hw (f := RowsA none 5 (hrows c.hs)) (fun w' _ => by rw [hx]; exact fun i row hi => by simp [hrows] at hi))) ?_
    rintro e w' ⟨v, H', R', ⟨a9, c9, rfl, rfl, rfl⟩, he, hs⟩
    exact ⟨_, _, _, ⟨a9, c9, rfl, rfl, rfl⟩, he, St.sub hs⟩
  · rw [hr_len] at h2
    rw [h2]
    have hm1 : Mem1 b (cel 33 ((hrows c.hs).flatten ++ junk)) H := ⟨p1.mem_iff.2 (by rw [h3]; simp)⟩
    exact c_comeH c b junk cap hl H R
def pl9_3_11111100 : Plan := (.big 6 (.big 7 .done))
def pl9_3_11111000 : Plan := (.big 5 pl9_3_11111100)
def pl9_3_11110100 : Plan := (.big 4 pl9_3_11111100)
def pl9_3_11101100 : Plan := (.big 3 pl9_3_11111100)
def pl9_3_11101000 : Plan := (.any (.alt 3 pl9_3_11111000 (.alt 5 pl9_3_11101100 .stop)))
def pl9_3_11100100 : Plan := (.any (.alt 3 pl9_3_11110100 (.alt 4 pl9_3_11101100 .stop)))
def pl9_3_10101100 : Plan := (.big 1 pl9_3_11101100)
def pl9_3_00000000 : Plan := (.ld 0 (.ld 2 (.any (.alt 1 (.any (.alt 3 (.any (.alt 4 pl9_3_11111000 (.alt 5 pl9_3_11110100 .stop))) (.alt 4 pl9_3_11101000 (.alt 5 pl9_3_11100100 .stop)))) (.alt 4 (.any (.alt 1 pl9_3_11101000 (.alt 5 pl9_3_10101100 .stop))) (.alt 5 (.any (.alt 1 pl9_3_11100100 (.alt 4 pl9_3_10101100 .stop))) .stop))))))
theorem c_GateChecks (g : Gat) (ag : Option Addr) (cg : Nat) (hlg : g.grs.length ≤ 9223372036854775807) (c : Crt) (ah : Option Addr) (ch : Nat) (hlh : c.hs.length ≤ 9223372036854775807) (h : Hnd) (H : Heap) (R : Facts) [hG : MemRows ag 5 (grows g.grs) R] [hA : MemRows ah 5 (hrows c.hs) R] :
    Fn Tryz.prog 9 [g.v (g.sl ag cg), c.v (c.sl ah ch), .agg (hrow h).toArray] H R (fun v H' R' => v = .bool true ∧ H' = H ∧ R' = R) := by
 refine fn_of Tryz.func9 rfl Tryz.ntmps9 rfl ?_
 refine sy_seq ?_
 refine sy_tx' [0, 1, 2, 3] rfl ?_
 refine bx rfl rfl rfl (fun b3 => ?_)
 refine bx rfl rfl rfl (fun b4 => ?_)
 refine bx rfl rfl rfl (fun b5 => ?_)
 refine sp rfl (PE.assign rfl) rfl ?_
 refine sy_seq ?_
 refine sy_seq ?_
 refine sy_tx' [0, 1, 2] rfl ?_
 refine spL rfl rfl (lhA [_, _, _] ag25 rfl rfl rfl) rfl ?_
 refine spL rfl rfl (lhA [_, _, _] ag28 rfl rfl rfl) rfl ?_
 refine clV rfl cal35 rfl rfl (c_grt g ag cg hlg c ah ch hlh _ _) ?_
 refine sy_cond rfl (fun hc0 => ?_) (fun hc0 => ?_)
 refine sy_seq ?_
 refine sy_tx' [0, 1] rfl ?_
 refine clV rfl cal8 rfl rfl (c_awake _ _) ?_
 refine sp rfl (PE.assign rfl) rfl ?_
 refine sy_ret ?_
 first
   | exact sy_return (vs := [_]) rfl (.cons (RV.tmp rfl) .nil) rfl ⟨rfl, rfl, rfl⟩ drp
   | exact sy_return (vs := [_]) rfl (.cons (RV.tmp rfl) .nil) rfl ⟨rfl, rfl, rfl⟩ (fun w h => St.sub (St.dropG o2.G ((((((((h.del b13).del b11).del b9).del b8).del b7).del b5).del b4).del b3)))
 have h79 : ¬ 7 < g.grs.length ∧ ¬ 9 < c.hs.length := by simpa using hc0
 have htl := tak_len c h
 refine sy_skip ?_
 refine sy_seq ?_
 refine sy_draw [0, 1, 0, 7, 0, 0, 63, 127] pl9_3_00000000 mixed ?_ ?_
 refine reg_ok (fuel := 8) (listed := #[false, false, false, false, false, false, false, false]) (by kernel_rfl) (by kernel_rfl) (by kernel_rfl) ?_
 refine ok_have pl9_3_11111100 2 #[true, true, true, true, true, true, false, false] ?_ (fun ok11111100 => ?_)
 refine ok_big (l2 := #[true, true, true, true, true, true, true, false]) (by kernel_rfl) (by kernel_rfl) ?_
 refine ok_big (l2 := #[true, true, true, true, true, true, true, true]) (by kernel_rfl) (by kernel_rfl) ?_
 exact ok_done (by kernel_rfl)
 refine ok_have pl9_3_11111000 3 #[true, true, true, true, true, false, false, false] ?_ (fun ok11111000 => ?_)
 refine ok_big (l2 := #[true, true, true, true, true, true, false, false]) (by kernel_rfl) (by kernel_rfl) ?_
 exact ok11111100
 refine ok_have pl9_3_11110100 3 #[true, true, true, true, false, true, false, false] ?_ (fun ok11110100 => ?_)
 refine ok_big (l2 := #[true, true, true, true, true, true, false, false]) (by kernel_rfl) (by kernel_rfl) ?_
 exact ok11111100
 refine ok_have pl9_3_11101100 3 #[true, true, true, false, true, true, false, false] ?_ (fun ok11101100 => ?_)
 refine ok_big (l2 := #[true, true, true, true, true, true, false, false]) (by kernel_rfl) (by kernel_rfl) ?_
 exact ok11111100
 refine ok_have pl9_3_11101000 4 #[true, true, true, false, true, false, false, false] ?_ (fun ok11101000 => ?_)
 refine ok_any (by kernel_rfl) ?_
 refine ok_alt (l2 := #[true, true, true, true, true, false, false, false]) (by kernel_rfl) ?_ ?_
 exact ok11111000
 refine ok_alt (l2 := #[true, true, true, false, true, true, false, false]) (by kernel_rfl) ?_ ?_
 exact ok11101100
 exact ok_stop
 refine ok_have pl9_3_11100100 4 #[true, true, true, false, false, true, false, false] ?_ (fun ok11100100 => ?_)
 refine ok_any (by kernel_rfl) ?_
 refine ok_alt (l2 := #[true, true, true, true, false, true, false, false]) (by kernel_rfl) ?_ ?_
 exact ok11110100
 refine ok_alt (l2 := #[true, true, true, false, true, true, false, false]) (by kernel_rfl) ?_ ?_
 exact ok11101100
 exact ok_stop
 refine ok_have pl9_3_10101100 4 #[true, false, true, false, true, true, false, false] ?_ (fun ok10101100 => ?_)
 refine ok_big (l2 := #[true, true, true, false, true, true, false, false]) (by kernel_rfl) (by kernel_rfl) ?_
 exact ok11101100
 refine ok_ld (l2 := #[true, false, false, false, false, false, false, false]) (by kernel_rfl) (by kernel_rfl) ?_
 refine ok_ld (l2 := #[true, false, true, false, false, false, false, false]) (by kernel_rfl) (by kernel_rfl) ?_
 refine ok_any (by kernel_rfl) ?_
 refine ok_alt (l2 := #[true, true, true, false, false, false, false, false]) (by kernel_rfl) ?_ ?_
 refine ok_any (by kernel_rfl) ?_
 refine ok_alt (l2 := #[true, true, true, true, false, false, false, false]) (by kernel_rfl) ?_ ?_
 refine ok_any (by kernel_rfl) ?_
 refine ok_alt (l2 := #[true, true, true, true, true, false, false, false]) (by kernel_rfl) ?_ ?_
 exact ok11111000
 refine ok_alt (l2 := #[true, true, true, true, false, true, false, false]) (by kernel_rfl) ?_ ?_
 exact ok11110100
 exact ok_stop
 refine ok_alt (l2 := #[true, true, true, false, true, false, false, false]) (by kernel_rfl) ?_ ?_
 exact ok11101000
 refine ok_alt (l2 := #[true, true, true, false, false, true, false, false]) (by kernel_rfl) ?_ ?_
 exact ok11100100
 exact ok_stop
 refine ok_alt (l2 := #[true, false, true, false, true, false, false, false]) (by kernel_rfl) ?_ ?_
 refine ok_any (by kernel_rfl) ?_
 refine ok_alt (l2 := #[true, true, true, false, true, false, false, false]) (by kernel_rfl) ?_ ?_
 exact ok11101000
 refine ok_alt (l2 := #[true, false, true, false, true, true, false, false]) (by kernel_rfl) ?_ ?_
 exact ok10101100
 exact ok_stop
 refine ok_alt (l2 := #[true, false, true, false, false, true, false, false]) (by kernel_rfl) ?_ ?_
 refine ok_any (by kernel_rfl) ?_
 refine ok_alt (l2 := #[true, true, true, false, false, true, false, false]) (by kernel_rfl) ?_ ?_
 exact ok11100100
 refine ok_alt (l2 := #[true, false, true, false, true, true, false, false]) (by kernel_rfl) ?_ ?_
 exact ok10101100
 exact ok_stop
 exact ok_stop
 refine ld rfl rfl (lhA [_, _, _] ag25 rfl rfl rfl) rfl ?_
 refine ld rfl rfl (lhA [_, _, _] ag28 rfl rfl rfl) rfl ?_
 refine sy_have (β := Option Addr × Nat × Option Addr × Nat × Nat × Nat) pl9_3_11111100 (fun ⟨a1, c1, a2, c2, b7, b8⟩ => ([(8, .pointer (some ⟨b8, 0, none⟩)), (7, .pointer (some ⟨b7, 0, none⟩)), (21, c.v (c.sl a2 c2)), (19, g.v (g.sl a1 c1)), (3, .pointer (some ⟨b3, 0, none⟩)), (4, .pointer (some ⟨b4, 0, none⟩)), (5, .pointer (some ⟨b5, 0, none⟩)), (18, g.v (g.sl ag cg)), (20, c.v (c.sl ah ch))], (b8, cel 28 ([.int .i64 0, .int .i64 0, .slice none 0 0])) :: (b7, cel 25 ([.int .i64 0, .int .i64 0, .slice none 0 0])) :: (b5, cel 33 (hrow h)) :: (b4, cel 28 (ctl c (c.sl ah ch))) :: (b3, cel 25 (gtl g (g.sl ag cg))) :: H, RowsA a2 5 (hrows c.hs) :: RowsA a1 5 (grows g.grs) :: R, [])) (fun v9 => ?_) (fun h11111100 => ?_)
 obtain ⟨a1, c1, a2, c2, b7, b8⟩ := v9
 dsimp only
 unfold pl9_3_11111100
 refine sto rfl rfl rfl cn25 rfl rfl rfl rfl ?_
 refine bg (fun w hs => trivial) ?_
 refine sto rfl rfl rfl cn28 rfl rfl rfl rfl ?_
 refine bg (fun w hs => trivial) ?_
 refine sy_seq ?_
 refine sy_cut (ι := Nat × Option Addr × Nat × Option Addr × Nat) (fun x => ⟨[(3, .pointer (some ⟨b3, 0, none⟩)), (4, .pointer (some ⟨b4, 0, none⟩)), (5, .pointer (some ⟨b5, 0, none⟩)), (7, .pointer (some ⟨b7, 0, none⟩)), (8, .pointer (some ⟨b8, 0, none⟩)), (9, .pointer (some ⟨x.1, 0, none⟩)), (10, .int .i64 (takR c h).2)], (x.1, cel 79 (ctl (takR c h).1 ((takR c h).1.sl x.2.2.2.1 x.2.2.2.2))) :: (b8, cel 28 (ctl c (c.sl a2 c2))) :: (b7, cel 25 (gtl g (g.sl a1 c1))) :: (b5, cel 33 (hrow h)) :: (b4, cel 28 (ctl c (c.sl ah ch))) :: (b3, cel 25 (gtl g (g.sl ag cg))) :: H, RowsA x.2.2.2.1 5 (hrows (takR c h).1.hs) :: RowsA a2 5 (hrows c.hs) :: RowsA a1 5 (grows g.grs) :: R⟩) ?_ ?_
 refine sy_draw [0, 1, 0, 7, 15, 31, 31, 0, 191, 511] (.ld 0 (.ld 2 (.any (.alt 1 (.any (.alt 3 (.tk 4 (.tk 5 (.tk 6 (.big 7 (.big 8 (.tk 9 .done)))))) (.alt 7 (.big 3 (.tk 4 (.tk 5 (.tk 6 (.big 8 (.tk 9 .done)))))) .stop))) (.alt 7 (.big 1 (.big 3 (.tk 4 (.tk 5 (.tk 6 (.big 8 (.tk 9 .done))))))) .stop))))) mixed (by kernel_rfl) ?_
 refine ld rfl rfl (lhA [_, _, _] ag28 rfl rfl rfl) rfl ?_
 refine ld rfl rfl (lhA (hrow h) ag33 rfl (rest := []) (by rw [List.append_nil]; rfl) rfl) rfl ?_
 refine sy_alt ?_ ?_
 refine cl rfl cal39 rfl rfl (c_come c ah ch (by omega) _ _) ?_
 rintro _ _ R1 ⟨a3, c3, rfl, rfl, hR1⟩
 obtain rfl := hR1.symm
 clear hR1
 refine bg (fun w hs => ⟨(lhA (hrow h) ag33 rfl (rest := []) (by rw [List.append_nil]; rfl) rfl) w hs, trivial, trivial⟩) ?_
 refine sy_alt ?_ ?_
 refine cl rfl cal38 rfl rfl (c_rTake c a3 c3 (by omega) h _ _) ?_
 rintro _ _ R1 ⟨a4, c4, rfl, rfl, hR1⟩
 obtain rfl := hR1.symm
 clear hR1
 refine bg (fun w hs => ⟨trivial, trivial⟩) ?_
 refine tk rfl (PE.move rfl) rfl ?_
 refine tk rfl (PE.extract rfl rfl) rfl ?_
 refine tk rfl (PE.extract rfl rfl) rfl ?_
 refine alc rfl zl79 rfl (fun b9 => ?_)
 refine bg (fun w hs => trivial) ?_
 refine sto rfl rfl rfl cn79 rfl rfl rfl rfl ?_
 refine bg (fun w hs => trivial) ?_
 refine tk rfl (PE.assign rfl) rfl ?_
 exact sy_cutEnd (b9, a3, c3, a4, c4) (by repeat' first | exact Sub.nil | apply Sub.cons | rfl | (simp [lk]; omega)) (fun w h => St.sub (h.pull b9))
 refine sy_alt ?_ ?_
 refine alc rfl zl79 rfl (fun b9 => ?_)
 refine bg (fun w hs => ⟨(lhA (hrow h) ag33 rfl (rest := []) (by rw [List.append_nil]; rfl) rfl) w hs, trivial⟩) ?_
 refine cl rfl cal38 rfl rfl (c_rTake c a3 c3 (by omega) h _ _) ?_
 rintro _ _ R1 ⟨a4, c4, rfl, rfl, hR1⟩
 obtain rfl := hR1.symm
 clear hR1
 refine bg (fun w hs => ⟨trivial, trivial⟩) ?_
 refine tk rfl (PE.move rfl) rfl ?_
 refine tk rfl (PE.extract rfl rfl) rfl ?_
 refine tk rfl (PE.extract rfl rfl) rfl ?_
 refine sto rfl rfl rfl cn79 rfl rfl rfl rfl ?_
 refine bg (fun w hs => trivial) ?_
 refine tk rfl (PE.assign rfl) rfl ?_
 exact sy_cutEnd (b9, a3, c3, a4, c4) (by repeat' first | exact Sub.nil | apply Sub.cons | rfl | (simp [lk]; omega)) (fun w h => St.sub (h.pull b9))
 exact sy_stop
 refine sy_alt ?_ ?_
 refine alc rfl zl79 rfl (fun b9 => ?_)
 refine bg (fun w hs => ⟨(lhA (hrow h) ag33 rfl (rest := []) (by rw [List.append_nil]; rfl) rfl) w hs, (lhA [_, _, _] ag28 rfl rfl rfl) w hs, trivial⟩) ?_
 refine cl rfl cal39 rfl rfl (c_come c ah ch (by omega) _ _) ?_
 rintro _ _ R1 ⟨a3, c3, rfl, rfl, hR1⟩
 obtain rfl := hR1.symm
 clear hR1
 refine bg (fun w hs => ⟨(lhA (hrow h) ag33 rfl (rest := []) (by rw [List.append_nil]; rfl) rfl) w hs, trivial, trivial⟩) ?_
 refine cl rfl cal38 rfl rfl (c_rTake c a3 c3 (by omega) h _ _) ?_
 rintro _ _ R1 ⟨a4, c4, rfl, rfl, hR1⟩
 obtain rfl := hR1.symm
 clear hR1
 refine bg (fun w hs => ⟨trivial, trivial⟩) ?_
 refine tk rfl (PE.move rfl) rfl ?_
 refine tk rfl (PE.extract rfl rfl) rfl ?_
 refine tk rfl (PE.extract rfl rfl) rfl ?_
 refine sto rfl rfl rfl cn79 rfl rfl rfl rfl ?_
 refine bg (fun w hs => trivial) ?_
 refine tk rfl (PE.assign rfl) rfl ?_
 exact sy_cutEnd (b9, a3, c3, a4, c4) (by repeat' first | exact Sub.nil | apply Sub.cons | rfl | (simp [lk]; omega)) (fun w h => St.sub (h.pull b9))
 exact sy_stop
 rintro ⟨b9, a3, c3, a4, c4⟩
 dsimp only
 refine sy_seq ?_
 refine sy_tx' [0, 1, 2, 3, 4, 5, 6, 7, 8] rfl ?_
 refine spL rfl rfl (lhA (ctl c (c.sl a2 c2)) ag28 rfl rfl rfl) rfl ?_
 refine spL rfl rfl (lhA (hrow h) ag33 rfl (rest := []) (by rw [List.append_nil]; rfl) rfl) rfl ?_
 refine cl rfl cal40 rfl rfl (c_TakeO c a2 c2 (by omega) h _ _) ?_
 rintro _ _ R1 ⟨o, rfl, rfl, hR1⟩
 obtain rfl := hR1.symm
 clear hR1
 obtain ⟨d, hd⟩ : ∃ d : Crt, d = (takR c h).1 := ⟨_, rfl⟩
 revert o
 rw [← hd] at htl ⊢
 intro o
 refine sp rfl (PE.move rfl) rfl ?_
 refine sp rfl (PE.extract rfl rfl) rfl ?_
 refine sp rfl (PE.extract rfl rfl) rfl ?_
 refine alc rfl zl28 rfl (fun b11 => ?_)
 refine stoE (l' := ctl d o.fs) rfl rfl rfl cn28 rfl rfl (by show (ctl _ o.fs).all (·.oneCell') = true; simp only [ctl, List.all_cons, List.all_nil, o.cells.2, Bool.and_true]; rfl) rfl (Nat.le_refl _) ?_
 refine sp rfl (PE.assign rfl) rfl ?_
 refine sy_seq ?_
 refine sy_seq ?_
 refine sy_draw [0, 1, 0, 7, 15, 31, 63, 127, 255, 127, 1023, 2047, 4095, 8191, 16383, 32767, 32767, 131071, 262143] (.ld 0 (.ld 2 (.big 1 (.big 3 (.big 4 (.tk 5 (.tk 6 (.ld 7 (.ld 9 (.big 8 (.big 10 (.big 11 (.tk 12 (.tk 13 (.tk 14 (.tk 15 (.tk 16 (.tk 17 (.tk 18 .done))))))))))))))))))) mixed (by kernel_rfl) ?_
 refine ld rfl rfl (lhA [_, _, _] ag25 rfl rfl rfl) rfl ?_
 refine ld rfl rfl (lhA [_, _, _] ag25 rfl rfl rfl) rfl ?_
 refine clV rfl cal6 rfl rfl (c_Check g a1 c1 (by omega) _ _) ?_
 refine bg (fun w hs => ⟨(lhA [_, _, _] ag25 rfl rfl rfl) w hs, trivial, trivial⟩) ?_
 refine cl rfl cal42 rfl rfl (c_theirs g ag cg (by omega) _ _) ?_
 rintro _ _ R1 ⟨a5, c5, rfl, rfl, hR1⟩
 obtain rfl := hR1.symm
 clear hR1
 refine bg (fun w hs => ⟨trivial, trivial⟩) ?_
 refine clV rfl cal41 rfl rfl (c_rCheck g a5 c5 (by omega) _ _) ?_
 refine bg (fun w hs => trivial) ?_
 refine tk rfl (PE.neq rfl rfl) rfl ?_
 refine tk rfl (PE.move rfl) rfl ?_
 refine sy_case (t := 41) rfl (fun g41 => ?_) (fun g41 => ?_)
 exact absurd g41 (by first | (simp; done) | (rw [decide_eq_false (by omega)]; simp))
 refine ldG rfl rfl rfl rfl rfl (lhA [_, _, _] ag28 rfl rfl rfl) rfl ?_
 refine ldG rfl rfl rfl rfl rfl (lhA [_, _, _] ag28 rfl rfl rfl) rfl ?_
 refine clVG rfl rfl rfl rfl cal7 rfl rfl (c_CheckCart c a2 c2 (by omega) _ _) ?_
 refine bg (fun w hs => ⟨(lhA [_, _, _] ag28 rfl rfl rfl) w hs, trivial, trivial⟩) ?_
 refine clG rfl rfl rfl rfl cal39 rfl rfl (c_come c ah ch (by omega) _ _) ?_
 rintro _ _ R1 ⟨a6, c6, rfl, rfl, hR1⟩
 obtain rfl := hR1.symm
 clear hR1
 refine bg (fun w hs => ⟨trivial, trivial⟩) ?_
 refine clVG rfl rfl rfl rfl cal43 rfl rfl (c_rCart c a6 c6 (by omega) _ _) ?_
 refine bg (fun w hs => trivial) ?_
 refine tkG rfl rfl rfl rfl (PE.neq rfl rfl) rfl ?_
 refine tk rfl (PE.pick rfl rfl rfl) rfl ?_
 refine tk rfl (PE.move rfl) rfl ?_
 refine sy_case (t := 49) rfl (fun g49 => ?_) (fun g49 => ?_)
 exact absurd g49 (by first | (simp; done) | (rw [decide_eq_false (by omega)]; simp))
 refine tkG rfl rfl rfl rfl (PE.move rfl) rfl ?_
 refine tkG rfl rfl rfl rfl (PE.move rfl) rfl ?_
 refine tkG rfl rfl rfl rfl (PE.neq rfl rfl) rfl ?_
 refine tk rfl (PE.pick rfl rfl rfl) rfl ?_
 refine sy_cond rfl (fun hc1 => ?_) (fun hc1 => ?_)
 exact absurd hc1 (by first | (simp; done) | (rw [decide_eq_false (by omega)]; simp))
 refine sy_skip ?_
 refine sy_seq ?_
 refine sy_seq ?_
 refine sy_tx' [0, 1, 2, 3] rfl ?_
 obtain ⟨a7, c7, hd7⟩ : ∃ a7 c7, True := ⟨(none : Option Addr), 0, trivial⟩
 refine spL rfl rfl (lhA [_, _, _] ag28 rfl rfl rfl) rfl ?_
 refine cl rfl cal39 rfl rfl (c_comeX d o (by omega) _ _) ?_
 rintro _ _ R1 ⟨a8, c8, rfl, rfl, hR1⟩
 obtain rfl := hR1.symm
 clear hR1
 refine alc rfl zl79 rfl (fun b13 => ?_)
 refine sto rfl rfl rfl cn79 rfl rfl rfl rfl ?_
 refine sy_seq ?_
 refine sy_tx' [0, 1, 2, 3, 4, 5, 6, 7, 8, 9, 10, 11, 12, 13, 14, 15, 16, 17, 18, 19] rfl ?_
 refine sp rfl (PE.fieldAddr fo79_0 rfl) rfl ?_
 refine spL rfl rfl (lh sc3 rfl rfl) rfl ?_
 refine sp rfl (PE.fieldAddr fo79_0 rfl) rfl ?_
 refine spL rfl rfl (lh sc3 rfl rfl) rfl ?_
 refine sp rfl (PE.neq rfl rfl) rfl ?_
 refine sp rfl (PE.move rfl) rfl ?_
 refine sy_case (t := 61) rfl (fun g61 => ?_) (fun g61 => ?_)
 exact absurd g61 (by first | (simp; done) | (rw [decide_eq_false (by omega)]; simp))
 refine spG rfl rfl rfl rfl (PE.fieldAddr fo79_1 rfl) rfl ?_
 refine spLG rfl rfl rfl rfl rfl (lh sc3 rfl rfl) rfl ?_
 refine spG rfl rfl rfl rfl (PE.fieldAddr fo79_1 rfl) rfl ?_
 refine spLG rfl rfl rfl rfl rfl (lh sc3 rfl rfl) rfl ?_
 refine spG rfl rfl rfl rfl (PE.neq rfl rfl) rfl ?_
 refine sp rfl (PE.pick rfl rfl rfl) rfl ?_
 refine sp rfl (PE.move rfl) rfl ?_
 refine sy_case (t := 68) rfl (fun g68 => ?_) (fun g68 => ?_)
 exact absurd g68 (by first | (simp; done) | (rw [decide_eq_false (by omega)]; simp))
 refine spG rfl rfl rfl rfl (PE.fieldAddr fo79_2 rfl) rfl ?_
 refine spLG rfl rfl rfl rfl rfl (lh sc77 rfl rfl) rfl ?_
 refine spG rfl rfl rfl rfl (PE.fieldAddr fo79_2 rfl) rfl ?_
 refine spLG rfl rfl rfl rfl rfl (lh sc77 rfl rfl) rfl ?_
 refine clG rfl rfl rfl rfl cal44 rfl rfl (c_Eq_rhd d.hs d.hs a8 a4 c8 c4 (by omega) (by omega) _ _) ?_
 rintro _ _ _ ⟨rfl, rfl, rfl⟩
 rw [decide_eq_true (rfl : d.hs = d.hs)]
 refine spG rfl rfl rfl rfl (PE.not rfl) rfl ?_
 refine sp rfl (PE.pick rfl rfl rfl) rfl ?_
 refine sy_cond rfl (fun hc2 => ?_) (fun hc2 => ?_)
 exact absurd hc2 (by first | (simp; done) | (rw [decide_eq_false (by omega)]; simp))
 refine sy_skip ?_
 refine sy_seq ?_
 refine sy_tx' [0, 1, 2] rfl ?_
 refine sp rfl (PE.fieldAddr fo28_2 rfl) rfl ?_
 refine spL rfl rfl (lh sc26 rfl rfl) rfl ?_
 refine clr o rfl rfl sl26 zl33 rfl rfl rfl (fun o2 _ => ?_)
 refine sy_seq ?_
 refine sy_tx' [0, 1, 2, 3, 4, 5, 6, 7, 8, 9, 10, 11] rfl ?_
 refine spL rfl rfl (lhA [_, _, _] ag25 rfl rfl rfl) rfl ?_
 refine spL rfl rfl (lhA [_, _, _] ag25 rfl rfl rfl) rfl ?_
 refine clV rfl cal45 rfl rfl (c_same g a1 ag c1 cg (by omega) _ _) ?_
 refine sp rfl (PE.move rfl) rfl ?_
 refine sy_case (t := 81) rfl (fun g81 => ?_) (fun g81 => ?_)
 refine spLG rfl rfl rfl rfl rfl (lhA [_, _, _] ag28 rfl rfl rfl) rfl ?_
 refine spLG rfl rfl rfl rfl rfl (lhA [_, _, _] ag28 rfl rfl rfl) rfl ?_
 refine clVG rfl rfl rfl rfl cal46 rfl rfl (c_alike c a2 ah c2 ch (by omega) _ _) ?_
 refine sp rfl (PE.pick rfl rfl rfl) rfl ?_
 refine sp rfl (PE.move rfl) rfl ?_
 refine sy_case (t := 86) rfl (fun g86 => ?_) (fun g86 => ?_)
 refine clVG rfl rfl rfl rfl cal8 rfl rfl (c_awake _ _) ?_
 refine sp rfl (PE.pick rfl rfl rfl) rfl ?_
 refine sp rfl (PE.assign rfl) rfl ?_
 refine sy_ret ?_
 first
   | exact sy_return (vs := [_]) rfl (.cons (RV.tmp rfl) .nil) rfl ⟨rfl, rfl, rfl⟩ drp
   | exact sy_return (vs := [_]) rfl (.cons (RV.tmp rfl) .nil) rfl ⟨rfl, rfl, rfl⟩ (fun w h => St.sub (St.dropG o2.G ((((((((h.del b13).del b11).del b9).del b8).del b7).del b5).del b4).del b3)))
 exact absurd g86 (by simp)
 exact absurd g81 (by simp)
 refine sy_have (β := Option Addr × Nat × Option Addr × Nat × Nat) pl9_3_11111000 (fun ⟨a1, c1, a2, c2, b7⟩ => ([(7, .pointer (some ⟨b7, 0, none⟩)), (21, c.v (c.sl a2 c2)), (19, g.v (g.sl a1 c1)), (3, .pointer (some ⟨b3, 0, none⟩)), (4, .pointer (some ⟨b4, 0, none⟩)), (5, .pointer (some ⟨b5, 0, none⟩)), (18, g.v (g.sl ag cg)), (20, c.v (c.sl ah ch))], (b7, cel 25 ([.int .i64 0, .int .i64 0, .slice none 0 0])) :: (b5, cel 33 (hrow h)) :: (b4, cel 28 (ctl c (c.sl ah ch))) :: (b3, cel 25 (gtl g (g.sl ag cg))) :: H, RowsA a2 5 (hrows c.hs) :: RowsA a1 5 (grows g.grs) :: R, [])) (fun v9 => ?_) (fun h11111000 => ?_)
 obtain ⟨a1, c1, a2, c2, b7⟩ := v9
 dsimp only
 unfold pl9_3_11111000
 refine alc rfl zl28 rfl (fun b8 => ?_)
 refine bg (fun w hs => trivial) ?_
 exact sy_to (h11111100 (a1, c1, a2, c2, b7, b8)) (by repeat' first | exact Sub.nil | apply Sub.cons | rfl | (simp [lk]; omega)) (fun _ h => St.sub ((h.pull b7).pull b8))
 refine sy_have (β := Option Addr × Nat × Option Addr × Nat × Nat) pl9_3_11110100 (fun ⟨a1, c1, a2, c2, b8⟩ => ([(8, .pointer (some ⟨b8, 0, none⟩)), (21, c.v (c.sl a2 c2)), (19, g.v (g.sl a1 c1)), (3, .pointer (some ⟨b3, 0, none⟩)), (4, .pointer (some ⟨b4, 0, none⟩)), (5, .pointer (some ⟨b5, 0, none⟩)), (18, g.v (g.sl ag cg)), (20, c.v (c.sl ah ch))], (b8, cel 28 ([.int .i64 0, .int .i64 0, .slice none 0 0])) :: (b5, cel 33 (hrow h)) :: (b4, cel 28 (ctl c (c.sl ah ch))) :: (b3, cel 25 (gtl g (g.sl ag cg))) :: H, RowsA a2 5 (hrows c.hs) :: RowsA a1 5 (grows g.grs) :: R, [])) (fun v9 => ?_) (fun h11110100 => ?_)
 obtain ⟨a1, c1, a2, c2, b8⟩ := v9
 dsimp only
 unfold pl9_3_11110100
 refine alc rfl zl25 rfl (fun b7 => ?_)
 refine bg (fun w hs => trivial) ?_
 exact sy_to (h11111100 (a1, c1, a2, c2, b7, b8)) (by repeat' first | exact Sub.nil | apply Sub.cons | rfl | (simp [lk]; omega)) (fun _ h => St.sub ((h.pull b7).pull b8))
 refine sy_have (β := Option Addr × Nat × Nat × Nat) pl9_3_11101100 (fun ⟨a1, c1, b7, b8⟩ => ([(8, .pointer (some ⟨b8, 0, none⟩)), (7, .pointer (some ⟨b7, 0, none⟩)), (19, g.v (g.sl a1 c1)), (3, .pointer (some ⟨b3, 0, none⟩)), (4, .pointer (some ⟨b4, 0, none⟩)), (5, .pointer (some ⟨b5, 0, none⟩)), (18, g.v (g.sl ag cg)), (20, c.v (c.sl ah ch))], (b8, cel 28 ([.int .i64 0, .int .i64 0, .slice none 0 0])) :: (b7, cel 25 ([.int .i64 0, .int .i64 0, .slice none 0 0])) :: (b5, cel 33 (hrow h)) :: (b4, cel 28 (ctl c (c.sl ah ch))) :: (b3, cel 25 (gtl g (g.sl ag cg))) :: H, RowsA a1 5 (grows g.grs) :: R, [(2, Ld Tryz.prog 28 ⟨b4, 0, none⟩ (c.v (c.sl ah ch)))])) (fun v9 => ?_) (fun h11101100 => ?_)
 obtain ⟨a1, c1, b7, b8⟩ := v9
 dsimp only
 unfold pl9_3_11101100
 refine cl rfl cal37 rfl rfl (c_Owned c ah ch (by omega) _ _) ?_
 rintro _ _ R1 ⟨o, rfl, ho, rfl, hR1⟩
 obtain rfl := hR1.symm
 clear hR1
 obtain ⟨a2, c2, he, hf⟩ := o.freeze
 rw [he]
 refine Sy.heap (H' := _) (fun w h => hf h) ?_
 rw [show (hrows c.hs).length = c.hs.length from List.length_map _]
 clear he hf
 refine bg (fun w hs => ⟨trivial, trivial⟩) ?_
 exact sy_to (h11111100 (a1, c1, a2, c2, b7, b8)) (by repeat' first | exact Sub.nil | apply Sub.cons | rfl | (simp [lk]; omega)) (fun _ h => St.sub ((h.pull b7).pull b8))
 refine sy_have (β := Option Addr × Nat × Nat) pl9_3_11101000 (fun ⟨a1, c1, b7⟩ => ([(7, .pointer (some ⟨b7, 0, none⟩)), (19, g.v (g.sl a1 c1)), (3, .pointer (some ⟨b3, 0, none⟩)), (4, .pointer (some ⟨b4, 0, none⟩)), (5, .pointer (some ⟨b5, 0, none⟩)), (18, g.v (g.sl ag cg)), (20, c.v (c.sl ah ch))], (b7, cel 25 ([.int .i64 0, .int .i64 0, .slice none 0 0])) :: (b5, cel 33 (hrow h)) :: (b4, cel 28 (ctl c (c.sl ah ch))) :: (b3, cel 25 (gtl g (g.sl ag cg))) :: H, RowsA a1 5 (grows g.grs) :: R, [(2, Ld Tryz.prog 28 ⟨b4, 0, none⟩ (c.v (c.sl ah ch)))])) (fun v9 => ?_) (fun h11101000 => ?_)
 obtain ⟨a1, c1, b7⟩ := v9
 dsimp only
 unfold pl9_3_11101000
 refine sy_any ?_
 refine sy_alt ?_ ?_
 refine cl rfl cal37 rfl rfl (c_Owned c ah ch (by omega) _ _) ?_
 rintro _ _ R1 ⟨o, rfl, ho, rfl, hR1⟩
 obtain rfl := hR1.symm
 clear hR1
 obtain ⟨a2, c2, he, hf⟩ := o.freeze
 rw [he]
 refine Sy.heap (H' := _) (fun w h => hf h) ?_
 rw [show (hrows c.hs).length = c.hs.length from List.length_map _]
 clear he hf
 refine bg (fun w hs => ⟨trivial, trivial⟩) ?_
 exact sy_to (h11111000 (a1, c1, a2, c2, b7)) (by repeat' first | exact Sub.nil | apply Sub.cons | rfl | (simp [lk]; omega)) (fun _ h => St.sub (h.pull b7))
 refine sy_alt ?_ ?_
 refine alc rfl zl28 rfl (fun b8 => ?_)
 refine bg (fun w hs => ⟨((lhA (ctl c (c.sl ah ch)) ag28 rfl rfl rfl)) w hs, trivial⟩) ?_
 exact sy_to (h11101100 (a1, c1, b7, b8)) (by repeat' first | exact Sub.nil | apply Sub.cons | rfl | (simp [lk]; omega)) (fun _ h => St.sub ((h.pull b7).pull b8))
 exact sy_stop
 refine sy_have (β := Option Addr × Nat × Nat) pl9_3_11100100 (fun ⟨a1, c1, b8⟩ => ([(8, .pointer (some ⟨b8, 0, none⟩)), (19, g.v (g.sl a1 c1)), (3, .pointer (some ⟨b3, 0, none⟩)), (4, .pointer (some ⟨b4, 0, none⟩)), (5, .pointer (some ⟨b5, 0, none⟩)), (18, g.v (g.sl ag cg)), (20, c.v (c.sl ah ch))], (b8, cel 28 ([.int .i64 0, .int .i64 0, .slice none 0 0])) :: (b5, cel 33 (hrow h)) :: (b4, cel 28 (ctl c (c.sl ah ch))) :: (b3, cel 25 (gtl g (g.sl ag cg))) :: H, RowsA a1 5 (grows g.grs) :: R, [(2, Ld Tryz.prog 28 ⟨b4, 0, none⟩ (c.v (c.sl ah ch)))])) (fun v9 => ?_) (fun h11100100 => ?_)
 obtain ⟨a1, c1, b8⟩ := v9
 dsimp only
 unfold pl9_3_11100100
 refine sy_any ?_
 refine sy_alt ?_ ?_
 refine cl rfl cal37 rfl rfl (c_Owned c ah ch (by omega) _ _) ?_
 rintro _ _ R1 ⟨o, rfl, ho, rfl, hR1⟩
 obtain rfl := hR1.symm
 clear hR1
 obtain ⟨a2, c2, he, hf⟩ := o.freeze
 rw [he]
 refine Sy.heap (H' := _) (fun w h => hf h) ?_
 rw [show (hrows c.hs).length = c.hs.length from List.length_map _]
 clear he hf
 refine bg (fun w hs => ⟨trivial, trivial⟩) ?_
 exact sy_to (h11110100 (a1, c1, a2, c2, b8)) (by repeat' first | exact Sub.nil | apply Sub.cons | rfl | (simp [lk]; omega)) (fun _ h => St.sub (h.pull b8))
 refine sy_alt ?_ ?_
 refine alc rfl zl25 rfl (fun b7 => ?_)
 refine bg (fun w hs => ⟨((lhA (ctl c (c.sl ah ch)) ag28 rfl rfl rfl)) w hs, trivial⟩) ?_
 exact sy_to (h11101100 (a1, c1, b7, b8)) (by repeat' first | exact Sub.nil | apply Sub.cons | rfl | (simp [lk]; omega)) (fun _ h => St.sub ((h.pull b7).pull b8))
 exact sy_stop
 refine sy_have (β := Nat × Nat) pl9_3_10101100 (fun ⟨b7, b8⟩ => ([(8, .pointer (some ⟨b8, 0, none⟩)), (7, .pointer (some ⟨b7, 0, none⟩)), (3, .pointer (some ⟨b3, 0, none⟩)), (4, .pointer (some ⟨b4, 0, none⟩)), (5, .pointer (some ⟨b5, 0, none⟩)), (18, g.v (g.sl ag cg)), (20, c.v (c.sl ah ch))], (b8, cel 28 ([.int .i64 0, .int .i64 0, .slice none 0 0])) :: (b7, cel 25 ([.int .i64 0, .int .i64 0, .slice none 0 0])) :: (b5, cel 33 (hrow h)) :: (b4, cel 28 (ctl c (c.sl ah ch))) :: (b3, cel 25 (gtl g (g.sl ag cg))) :: H, R, [(2, Ld Tryz.prog 28 ⟨b4, 0, none⟩ (c.v (c.sl ah ch))), (0, Ld Tryz.prog 25 ⟨b3, 0, none⟩ (g.v (g.sl ag cg)))])) (fun v9 => ?_) (fun h10101100 => ?_)
 obtain ⟨b7, b8⟩ := v9
 dsimp only
 unfold pl9_3_10101100
 refine cl rfl cal36 rfl rfl (c_Own g ag cg (by omega) _ _) ?_
 rintro _ _ R1 ⟨o, rfl, ho, rfl, hR1⟩
 obtain rfl := hR1.symm
 clear hR1
 obtain ⟨a1, c1, he, hf⟩ := o.freeze
 rw [he]
 refine Sy.heap (H' := _) (fun w h => hf h) ?_
 rw [show (grows g.grs).length = g.grs.length from List.length_map _]
 clear he hf
 refine bg (fun w hs => ⟨((lhA (ctl c (c.sl ah ch)) ag28 rfl rfl rfl)) w hs, trivial, trivial⟩) ?_
 exact sy_to (h11101100 (a1, c1, b7, b8)) (by repeat' first | exact Sub.nil | apply Sub.cons | rfl | (simp [lk]; omega)) (fun _ h => St.sub ((h.pull b7).pull b8))
 refine sy_any ?_
 refine sy_alt ?_ ?_
 refine cl rfl cal36 rfl rfl (c_Own g ag cg (by omega) _ _) ?_
 rintro _ _ R1 ⟨o, rfl, ho, rfl, hR1⟩
 obtain rfl := hR1.symm
 clear hR1
 obtain ⟨a1, c1, he, hf⟩ := o.freeze
 rw [he]
 refine Sy.heap (H' := _) (fun w h => hf h) ?_
 rw [show (grows g.grs).length = g.grs.length from List.length_map _]
 clear he hf
 refine bg (fun w hs => ⟨(lhA [_, _, _] ag28 rfl rfl rfl) w hs, trivial, trivial⟩) ?_
 refine sy_any ?_
 refine sy_alt ?_ ?_
 refine cl rfl cal37 rfl rfl (c_Owned c ah ch (by omega) _ _) ?_
 rintro _ _ R1 ⟨o, rfl, ho, rfl, hR1⟩
 obtain rfl := hR1.symm
 clear hR1
 obtain ⟨a2, c2, he, hf⟩ := o.freeze
 rw [he]
 refine Sy.heap (H' := _) (fun w h => hf h) ?_
 rw [show (hrows c.hs).length = c.hs.length from List.length_map _]
 clear he hf
 refine bg (fun w hs => ⟨trivial, trivial⟩) ?_
 refine sy_any ?_
 refine sy_alt ?_ ?_
 refine alc rfl zl25 rfl (fun b7 => ?_)
 refine bg (fun w hs => trivial) ?_
 exact sy_to (h11111000 (a1, c1, a2, c2, b7)) (by repeat' first | exact Sub.nil | apply Sub.cons | rfl | (simp [lk]; omega)) (fun _ h => St.sub (h.pull b7))
 refine sy_alt ?_ ?_
 refine alc rfl zl28 rfl (fun b8 => ?_)
 refine bg (fun w hs => trivial) ?_
 exact sy_to (h11110100 (a1, c1, a2, c2, b8)) (by repeat' first | exact Sub.nil | apply Sub.cons | rfl | (simp [lk]; omega)) (fun _ h => St.sub (h.pull b8))
 exact sy_stop
 refine sy_alt ?_ ?_
 refine alc rfl zl25 rfl (fun b7 => ?_)
 refine bg (fun w hs => ⟨(lhA [_, _, _] ag28 rfl rfl rfl) w hs, trivial⟩) ?_
 exact sy_to (h11101000 (a1, c1, b7)) (by repeat' first | exact Sub.nil | apply Sub.cons | rfl | (simp [lk]; omega)) (fun _ h => St.sub (h.pull b7))
 refine sy_alt ?_ ?_
 refine alc rfl zl28 rfl (fun b8 => ?_)
 refine bg (fun w hs => ⟨(lhA [_, _, _] ag28 rfl rfl rfl) w hs, trivial⟩) ?_
 exact sy_to (h11100100 (a1, c1, b8)) (by repeat' first | exact Sub.nil | apply Sub.cons | rfl | (simp [lk]; omega)) (fun _ h => St.sub (h.pull b8))
 exact sy_stop
 refine sy_alt ?_ ?_
 refine alc rfl zl25 rfl (fun b7 => ?_)
 refine bg (fun w hs => ⟨(lhA [_, _, _] ag28 rfl rfl rfl) w hs, (lhA [_, _, _] ag25 rfl rfl rfl) w hs, trivial⟩) ?_
 refine sy_any ?_
 refine sy_alt ?_ ?_
 refine cl rfl cal36 rfl rfl (c_Own g ag cg (by omega) _ _) ?_
 rintro _ _ R1 ⟨o, rfl, ho, rfl, hR1⟩
 obtain rfl := hR1.symm
 clear hR1
 obtain ⟨a1, c1, he, hf⟩ := o.freeze
 rw [he]
 refine Sy.heap (H' := _) (fun w h => hf h) ?_
 rw [show (grows g.grs).length = g.grs.length from List.length_map _]
 clear he hf
 refine bg (fun w hs => ⟨(lhA [_, _, _] ag28 rfl rfl rfl) w hs, trivial, trivial⟩) ?_
 exact sy_to (h11101000 (a1, c1, b7)) (by repeat' first | exact Sub.nil | apply Sub.cons | rfl | (simp [lk]; omega)) (fun _ h => St.sub (h.pull b7))
 refine sy_alt ?_ ?_
 refine alc rfl zl28 rfl (fun b8 => ?_)
 refine bg (fun w hs => ⟨(lhA [_, _, _] ag28 rfl rfl rfl) w hs, (lhA [_, _, _] ag25 rfl rfl rfl) w hs, trivial⟩) ?_
 exact sy_to (h10101100 (b7, b8)) (by repeat' first | exact Sub.nil | apply Sub.cons | rfl | (simp [lk]; omega)) (fun _ h => St.sub ((h.pull b7).pull b8))
 exact sy_stop
 refine sy_alt ?_ ?_
 refine alc rfl zl28 rfl (fun b8 => ?_)
 refine bg (fun w hs => ⟨(lhA [_, _, _] ag28 rfl rfl rfl) w hs, (lhA [_, _, _] ag25 rfl rfl rfl) w hs, trivial⟩) ?_
 refine sy_any ?_
 refine sy_alt ?_ ?_
 refine cl rfl cal36 rfl rfl (c_Own g ag cg (by omega) _ _) ?_
 rintro _ _ R1 ⟨o, rfl, ho, rfl, hR1⟩
 obtain rfl := hR1.symm
 clear hR1
 obtain ⟨a1, c1, he, hf⟩ := o.freeze
 rw [he]
 refine Sy.heap (H' := _) (fun w h => hf h) ?_
 rw [show (grows g.grs).length = g.grs.length from List.length_map _]
 clear he hf
 refine bg (fun w hs => ⟨(lhA [_, _, _] ag28 rfl rfl rfl) w hs, trivial, trivial⟩) ?_
 exact sy_to (h11100100 (a1, c1, b8)) (by repeat' first | exact Sub.nil | apply Sub.cons | rfl | (simp [lk]; omega)) (fun _ h => St.sub (h.pull b8))
 refine sy_alt ?_ ?_
 refine alc rfl zl25 rfl (fun b7 => ?_)
 refine bg (fun w hs => ⟨(lhA [_, _, _] ag28 rfl rfl rfl) w hs, (lhA [_, _, _] ag25 rfl rfl rfl) w hs, trivial⟩) ?_
 exact sy_to (h10101100 (b7, b8)) (by repeat' first | exact Sub.nil | apply Sub.cons | rfl | (simp [lk]; omega)) (fun _ h => St.sub ((h.pull b7).pull b8))
 exact sy_stop
 exact sy_stop
end Go.Proofs.YtndhkpnaeocnhaaGreat
