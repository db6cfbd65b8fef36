/- Walks of the functions of the program, and the laws that join them: what the last theorem of this claim needs, in order. -/
import Derived.Test.YtknoaljnelfklaaDb3
namespace Go.Proofs.Ytknoaljnelfklaa
set_option linter.unusedSimpArgs false
set_option linter.unusedVariables false
open Go
theorem ag142 : aggN Try.prog 142 = some 5 := by kernel_rfl
theorem ag59 : aggN Try.prog 59 = some 3 := by kernel_rfl
theorem ag63 : aggN Try.prog 63 = some 3 := by kernel_rfl
theorem ag85 : aggN Try.prog 85 = some 5 := by kernel_rfl
theorem ap57 : apT Try.prog 57 = some (142, 5, 40) := by kernel_rfl
theorem ap61 : apT Try.prog 61 = some (85, 5, 40) := by kernel_rfl
theorem cal100 : cal Try.prog 100 = true := by kernel_rfl
theorem cal124 : cal Try.prog 124 = true := by kernel_rfl
theorem cal44 : cal Try.prog 44 = true := by kernel_rfl
theorem cal46 : cal Try.prog 46 = true := by kernel_rfl
theorem cal85 : cal Try.prog 85 = true := by kernel_rfl
theorem cal86 : cal Try.prog 86 = true := by kernel_rfl
theorem cal87 : cal Try.prog 87 = true := by kernel_rfl
theorem cn142 : cellN Try.prog 142 = some 5 := by kernel_rfl
theorem cn57 : cellN Try.prog 57 = some 1 := by kernel_rfl
theorem cn59 : cellN Try.prog 59 = some 3 := by kernel_rfl
theorem cn61 : cellN Try.prog 61 = some 1 := by kernel_rfl
theorem cn63 : cellN Try.prog 63 = some 3 := by kernel_rfl
theorem cn85 : cellN Try.prog 85 = some 5 := by kernel_rfl
theorem el57 : elN Try.prog 57 = some 5 := by kernel_rfl
theorem el61 : elN Try.prog 61 = some 5 := by kernel_rfl
theorem eqf45 : eqB Try.prog 10000 45 = some (true, 5) := by kernel_rfl
theorem eqg45 : Try.prog.eqGuardType Try.prog.depth 45 = false := by kernel_rfl
theorem fo142_0 : fOff Try.prog 142 0 = some 0 := by kernel_rfl
theorem fo142_1 : fOff Try.prog 142 1 = some 1 := by kernel_rfl
theorem fo142_2 : fOff Try.prog 142 2 = some 2 := by kernel_rfl
theorem fo142_3 : fOff Try.prog 142 3 = some 3 := by kernel_rfl
theorem fo142_4 : fOff Try.prog 142 4 = some 4 := by kernel_rfl
theorem fo59_0 : fOff Try.prog 59 0 = some 0 := by kernel_rfl
theorem fo59_1 : fOff Try.prog 59 1 = some 1 := by kernel_rfl
theorem fo59_2 : fOff Try.prog 59 2 = some 2 := by kernel_rfl
theorem fo63_0 : fOff Try.prog 63 0 = some 0 := by kernel_rfl
theorem fo63_1 : fOff Try.prog 63 1 = some 1 := by kernel_rfl
theorem fo63_2 : fOff Try.prog 63 2 = some 2 := by kernel_rfl
theorem fo85_0 : fOff Try.prog 85 0 = some 0 := by kernel_rfl
theorem fo85_1 : fOff Try.prog 85 1 = some 1 := by kernel_rfl
theorem isl57 : isSl Try.prog 57 = true := by kernel_rfl
theorem isl61 : isSl Try.prog 61 = true := by kernel_rfl
theorem pl59 : placeL Try.prog 59 = some [(0, 1), (1, 1), (2, 1)] := by kernel_rfl
theorem pl63 : placeL Try.prog 63 = some [(0, 1), (1, 1), (2, 1)] := by kernel_rfl
theorem sc57 : scal Try.prog 57 = true := by kernel_rfl
theorem sc61 : scal Try.prog 61 = true := by kernel_rfl
theorem sl57 : slE Try.prog 57 = some (142, 5) := by kernel_rfl
theorem sl61 : slE Try.prog 61 = some (85, 5) := by kernel_rfl
theorem zl142 : zeroL Try.prog 142 = some ([.int .i64 0, .int .i64 0, .int .i64 0, .int .i64 0, .int .i64 0]) := by kernel_rfl
theorem zl59 : zeroL Try.prog 59 = some ([.int .i64 0, .int .i64 0, .slice none 0 0]) := by kernel_rfl
theorem zl63 : zeroL Try.prog 63 = some ([.int .i64 0, .int .i64 0, .slice none 0 0]) := by kernel_rfl
theorem zl85 : zeroL Try.prog 85 = some ([.int .i64 0, .int .i64 0, .int .i64 0, .int .i64 0, .int .i64 0]) := by kernel_rfl
theorem fine_eq (x : Grd) : x.fine = (inb x.price 0 100 && (inb x.corn 0 40 && (inb x.chaff 0 40 && (inb x.stones 0 40 && inb x.damp 0 40)))) := by simp [Grd.fine, Grd.ns]
theorem all_bad {α : Type} {l : List α} {p : α → Bool} {i : Nat} {x : α} (hx : l[i]? = some x) (h : p x = false) : l.all p = false := by
  rw [List.all_eq_false]; exact ⟨x, List.mem_of_getElem? hx, by simp [h]⟩
theorem all_more {α : Type} {l : List α} {p : α → Bool} {i : Nat} {x : α} (hx : l[i]? = some x) (hn : (l.take i).all p = true) (h : p x = true) : (l.take (i + 1)).all p = true := by
  rw [List.take_add_one, hx, Option.toList_some, List.all_append, hn]; simp [h]
theorem chk_many {g : Gat} (h : 4 < g.grs.length) : g.check = 2 := by unfold Gat.check; rw [decide_eq_true h]; rfl
theorem chk_rng {g : Gat} (h : ¬ 4 < g.grs.length) (h1 : inb g.err 0 50 = false ∨ inb g.miss 0 20 = false) : g.check = 3 := by
  unfold Gat.check; rw [decide_eq_false h]
  rcases h1 with h1 | h1 <;> rw [h1] <;> simp
theorem chk_grd {g : Gat} (h : ¬ 4 < g.grs.length) (h1 : inb g.err 0 50 = true) (h2 : inb g.miss 0 20 = true) (h3 : g.grs.all Grd.fine = false) : g.check = 3 := by
  unfold Gat.check; rw [decide_eq_false h, h1, h2, h3]; rfl
theorem chk_ord {g : Gat} (h : ¬ 4 < g.grs.length) (h1 : inb g.err 0 50 = true) (h2 : inb g.miss 0 20 = true) (h3 : g.grs.all Grd.fine = true) : g.check = bif (List.range g.grs.length).any (grBad g.grs) then 4 else 0 := by
  unfold Gat.check; rw [decide_eq_false h, h1, h2, h3]; rfl
theorem cck_many {c : Crt} (h : 6 < c.hs.length) : c.check = 2 := by unfold Crt.check; rw [decide_eq_true h]; rfl
theorem cck_rng {c : Crt} (h : ¬ 6 < c.hs.length) (h1 : inb c.full 0 10000 = false ∨ inb c.empty 0 10000 = false) : c.check = 3 := by
  unfold Crt.check; rw [decide_eq_false h]
  rcases h1 with h1 | h1 <;> rw [h1] <;> simp
theorem cck_hnd {c : Crt} (h : ¬ 6 < c.hs.length) (h1 : inb c.full 0 10000 = true) (h2 : inb c.empty 0 10000 = true) (h3 : c.hs.all Hnd.fine = false) : c.check = 3 := by
  unfold Crt.check; rw [decide_eq_false h, h1, h2, h3]; rfl
theorem cck_tot {c : Crt} (h : ¬ 6 < c.hs.length) (h1 : inb c.full 0 10000 = true) (h2 : inb c.empty 0 10000 = true) (h3 : c.hs.all Hnd.fine = true) : c.check = bif !(c.hs.all fun h => inb h.tot 10 200) then 8 else 0 := by
  unfold Crt.check; rw [decide_eq_false h, h1, h2, h3]; rfl
theorem gs_all {h : Hnd} (hk : ∀ k < 4, inb (nn h.gs k) 0 200 = true) : (h.gs.all fun n => inb n 0 200) = true := by
  have h0 := hk 0 (by omega); have h1 := hk 1 (by omega); have h2 := hk 2 (by omega); have h3 := hk 3 (by omega)
  simp only [nn, Hnd.gs, List.getD_cons_zero, List.getD_cons_succ] at h0 h1 h2 h3
  simp only [Hnd.gs, List.all_cons, List.all_nil, h0, h1, h2, h3]; rfl
theorem gs_bad {h : Hnd} {k : Nat} (hk : k < 4) (hb : inb (nn h.gs k) 0 200 = false) : (h.gs.all fun n => inb n 0 200) = false := by
  rw [List.all_eq_false]
  refine ⟨nn h.gs k, ?_, by rw [hb]; simp⟩
  rcases lt4 hk with rfl | rfl | rfl | rfl <;> simp [nn, Hnd.gs]
theorem hfine_bd {h : Hnd} (hf : h.fine = true) : ∀ k < 4, 0 ≤ nn h.gs k ∧ nn h.gs k ≤ 200 := fun k hk => by
  unfold Hnd.fine at hf
  rw [Bool.and_eq_true] at hf
  have := hf.2
  cases hb : inb (nn h.gs k) 0 200 with
  | true => simpa [inb] using hb
  | false => rw [gs_bad hk hb] at this; cases this
def totN (h : Hnd) : Nat → Int
  | 0 => 0
  | k + 1 => totN h k + nn h.gs k
theorem totN_4 (h : Hnd) : totN h 4 = h.tot := by simp [totN, Hnd.tot, sum4]
theorem totN_bd {h : Hnd} {B : Int} (hb : ∀ k < 4, -B ≤ nn h.gs k ∧ nn h.gs k ≤ B) (hB : 0 ≤ B) : ∀ k, k ≤ 4 → -(4 * B) ≤ totN h k ∧ totN h k ≤ 4 * B := by
  obtain ⟨a, b, c, d⟩ := all4 hb
  intro k hk
  have : k = 0 ∨ k = 1 ∨ k = 2 ∨ k = 3 ∨ k = 4 := by omega
  rcases this with rfl | rfl | rfl | rfl | rfl <;> simp only [totN] <;> omega
theorem c_eq_grd (xs ys : List Grd) (a a2 : Option Addr) (c c2 : Nat) (hl : xs.length ≤ 9223372036854775807) (hl2 : ys.length ≤ 9223372036854775807) (H : Heap) (R : Facts) [hR : MemRows a 5 (grows xs) R] [hR2 : MemRows a2 5 (grows ys) R] :
    FnV Try.prog 124 [.slice a xs.length c, .slice a2 ys.length c2] H R (.bool (decide (xs = ys))) := by
 refine fn_of Try.func124 rfl Try.ntmps124 rfl ?_
 refine sy_seq ?_
 refine sy_tx' [0] rfl ?_
 refine sp rfl (PE.assign rfl) rfl ?_
 refine sy_seq ?_
 refine sy_seq ?_
 refine sy_tx' [0, 1, 2, 3, 4] rfl ?_
 refine sp rfl (PE.move rfl) rfl ?_
 refine sp rfl (PE.lenSl isl23 rfl) rfl ?_
 refine sp rfl (PE.move rfl) rfl ?_
 refine sp rfl (PE.lenSl isl23 rfl) rfl ?_
 refine sp rfl (PE.neq rfl rfl) rfl ?_
 refine sy_cond rfl (fun hc0 => ?_) (fun hc0 => ?_)
 have hne : xs ≠ ys := fun e => by subst e; simp at hc0
 refine sy_seq ?_
 refine sy_tx' [0] rfl ?_
 refine sp rfl (PE.assign rfl) rfl ?_
 refine sy_ret ?_
 exact sy_return (vs := [_]) rfl (.cons (RV.tmp rfl) .nil) rfl ⟨by first | (simp only [retV]; rw [decide_eq_true heq]; done) | (simp only [retV]; rw [decide_eq_false hne]), rfl, rfl⟩ (fun _ h => h)
 have hle : xs.length = ys.length := by simp only [decide_eq_true_eq, decide_eq_false_iff_not, Bool.and_eq_true, Bool.or_eq_true, Bool.not_eq_true', Int.not_le, Int.not_lt] at hc0; omega
 refine sy_skip ?_
 refine sy_seq ?_
 refine sy_seq ?_
 refine sy_tx' [0, 1, 2] rfl ?_
 refine sp rfl (PE.move rfl) rfl ?_
 refine sp rfl (PE.lenSl isl23 rfl) rfl ?_
 refine sp rfl (PE.move rfl) rfl ?_
 refine sy_block ?_
 refine sy_loop (ι := {k : Nat // k ≤ xs.length ∧ xs.take k = ys.take k}) (fun k => ⟨[(0, .slice a xs.length c), (1, .slice a2 ys.length c2), (12, .int .i64 xs.length), (13, .int .i64 k.1)], H, R⟩) (fun k => xs.length - k.1) ⟨0, by simp⟩ ?_ (fun k => ?_)
 exact sy_at (by repeat' first | exact Sub.nil | apply Sub.cons | rfl | (simp [lk]; omega)) (fun _ h => h)
 obtain ⟨k, hk, hn⟩ := k
 dsimp only
 refine sy_seq ?_
 refine sy_tx' [0] rfl ?_
 refine sp rfl (PE.lss rfl rfl) rfl ?_
 refine sy_seq ?_
 refine sy_cond rfl (fun hc1 => ?_) (fun hc1 => ?_)
 simp only [decide_eq_true_eq, decide_eq_false_iff_not, Bool.and_eq_true, Bool.or_eq_true, Bool.not_eq_true', Int.not_le, Int.not_lt] at hc1
 obtain ⟨x, hx⟩ : ∃ x, xs[k]? = some x := ⟨_, List.getElem?_eq_getElem (by omega)⟩
 obtain ⟨z, hz⟩ : ∃ z, ys[k]? = some z := ⟨_, List.getElem?_eq_getElem (by omega)⟩
 refine sy_addr (a := a) (sz := 5) (rows := grows xs) (by intro h0; simp [grows] at h0; simp [h0] at hx) (fun b off he => ?_)
 subst he
 refine sy_addr (a := a2) (sz := 5) (rows := grows ys) (by intro h0; simp [grows] at h0; simp [h0] at hz) (fun b2 off2 he => ?_)
 subst he
 refine sy_skip ?_
 refine sy_seq ?_
 refine sy_block ?_
 refine sy_seq ?_
 refine sy_tx' [0, 1] rfl ?_
 refine sp rfl (PE.move rfl) rfl ?_
 refine sp rfl (PE.assign rfl) rfl ?_
 refine sy_seq ?_
 refine sy_draw [0, 0, 3, 7, 0, 0, 48, 112, 255] (.tk 0 (.tk 1 (.tk 2 (.ld 3 (.tk 4 (.tk 5 (.tk 6 (.ld 7 (.tk 8 .done))))))))) mixed (by kernel_rfl) ?_
 refine tk rfl (PE.move rfl) rfl ?_
 refine tk rfl (PE.move rfl) rfl ?_
 refine tk rfl (PE.indexAddr el23 rfl rfl (by omega) (by omega)) rfl ?_
 refine ld rfl rfl (lfA ag45 (row := grow x) (by simp [grows, hx]) rfl) rfl ?_
 refine tk rfl (PE.move rfl) rfl ?_
 refine tk rfl (PE.move rfl) rfl ?_
 refine tk rfl (PE.indexAddr el23 rfl rfl (by omega) (by omega)) rfl ?_
 refine ld rfl rfl (lfA ag45 (row := grow z) (by simp [grows, hz]) rfl) rfl ?_
 refine tk rfl (PE.neqAgg [x.corn, x.chaff, x.stones, x.damp, x.price] [z.corn, z.chaff, z.stones, z.damp, z.price] (eqB_ok 10000 45 true 5 eqf45) eqg45 rfl rfl rfl rfl) rfl ?_
 refine sy_cond rfl (fun hc2 => ?_) (fun hc2 => ?_)
 have hne : xs ≠ ys := fun e => by subst e; rw [hx] at hz; cases hz; simp at hc2
 refine sy_seq ?_
 refine sy_tx' [0] rfl ?_
 refine sp rfl (PE.assign rfl) rfl ?_
 refine sy_ret ?_
 exact sy_return (vs := [_]) rfl (.cons (RV.tmp rfl) .nil) rfl ⟨by first | (simp only [retV]; rw [decide_eq_true heq]; done) | (simp only [retV]; rw [decide_eq_false hne]), rfl, rfl⟩ (fun _ h => h)
 have hxz : x = z := by cases x; cases z; simpa using hc2
 refine sy_skip ?_
 refine sy_tx' [0, 1] rfl ?_
 refine sp rfl (PE.add rfl rfl (by omega)) rfl ?_
 refine sp rfl (PE.move rfl) rfl ?_
 exact sy_next ⟨k + 1, by omega, by rw [List.take_add_one, List.take_add_one, hn, hx, hz, hxz]⟩ (by dsimp only; omega) (by repeat' first | exact Sub.nil | apply Sub.cons | rfl | (simp [lk]; omega)) (fun _ h => h)
 simp only [decide_eq_true_eq, decide_eq_false_iff_not, Bool.and_eq_true, Bool.or_eq_true, Bool.not_eq_true', Int.not_le, Int.not_lt] at hc1
 obtain rfl : k = xs.length := by omega
 have heq : xs = ys := by
   rw [List.take_length] at hn
   exact hn.trans (by rw [hle]; exact List.take_length)
 refine sy_exit ?_
 repeat refine sy_tx ?_
 refine sy_bx ?_
 refine sy_seq ?_
 refine sy_tx' [0] rfl ?_
 refine sp rfl (PE.assign rfl) rfl ?_
 refine sy_ret ?_
 exact sy_return (vs := [_]) rfl (.cons (RV.tmp rfl) .nil) rfl ⟨by first | (simp only [retV]; rw [decide_eq_true heq]; done) | (simp only [retV]; rw [decide_eq_false hne]), rfl, rfl⟩ (fun _ h => h)
theorem c_Eq_grd (xs ys : List Grd) (a a2 : Option Addr) (c c2 : Nat) (hl : xs.length ≤ 9223372036854775807) (hl2 : ys.length ≤ 9223372036854775807) (H : Heap) (R : Facts) [hR : MemRows a 5 (grows xs) R] [hR2 : MemRows a2 5 (grows ys) R] :
    FnV Try.prog 86 [.slice a xs.length c, .slice a2 ys.length c2] H R (.bool (decide (xs = ys))) := by
 refine fn_of Try.func86 rfl Try.ntmps86 rfl ?_
 refine sy_seq ?_
 refine sy_tx' [0] rfl ?_
 refine sp rfl (PE.assign rfl) rfl ?_
 refine sy_seq ?_
 refine sy_tx' [0, 1, 2, 3] rfl ?_
 refine sp rfl (PE.move rfl) rfl ?_
 refine sp rfl (PE.move rfl) rfl ?_
 refine clV rfl cal124 rfl rfl (c_eq_grd xs ys a a2 c c2 hl hl2 _ _) ?_
 refine sp rfl (PE.assign rfl) rfl ?_
 refine sy_ret ?_
 exact sy_return (vs := [_]) rfl (.cons (RV.tmp rfl) .nil) rfl ⟨rfl, rfl, rfl⟩ drp
theorem c_Eq_hnd (xs ys : List Hnd) (a a2 : Option Addr) (c c2 : Nat) (hl : xs.length ≤ 9223372036854775807) (hl2 : ys.length ≤ 9223372036854775807) (H : Heap) (R : Facts) [hR : MemRows a 5 (hrows xs) R] [hR2 : MemRows a2 5 (hrows ys) R] :
    FnV Try.prog 87 [.slice a xs.length c, .slice a2 ys.length c2] H R (.bool (decide (xs = ys))) := by
 refine fn_of Try.func87 rfl Try.ntmps87 rfl ?_
 refine sy_seq ?_
 refine sy_tx' [0] rfl ?_
 refine sp rfl (PE.assign rfl) rfl ?_
 refine sy_seq ?_
 refine sy_tx' [0, 1, 2, 3] rfl ?_
 refine sp rfl (PE.move rfl) rfl ?_
 refine sp rfl (PE.move rfl) rfl ?_
 refine clV rfl cal53 rfl rfl (c_eq_hnd xs ys a a2 c c2 hl hl2 _ _) ?_
 refine sp rfl (PE.assign rfl) rfl ?_
 refine sy_ret ?_
 exact sy_return (vs := [_]) rfl (.cons (RV.tmp rfl) .nil) rfl ⟨rfl, rfl, rfl⟩ drp
theorem c_same (g : Gat) (a a2 : Option Addr) (cy c2 : Nat) (hl : g.grs.length ≤ 1000) (H : Heap) (R : Facts) [hG : MemRows a 5 (grows g.grs) R] [hG2 : MemRows a2 5 (grows g.grs) R] :
    FnV Try.prog 39 [g.v (g.sl a cy), g.v (g.sl a2 c2)] H R (.bool true) := by
 refine fn_of Try.func39 rfl Try.ntmps39 rfl ?_
 refine sy_seq ?_
 refine sy_tx' [0, 1, 2] rfl ?_
 refine bx rfl rfl rfl (fun b2 => ?_)
 refine bx rfl rfl rfl (fun b3 => ?_)
 refine sp rfl (PE.assign rfl) rfl ?_
 refine sy_seq ?_
 refine sy_tx' [0, 1, 2, 3, 4, 5, 6, 7, 8, 9, 10, 11, 12, 13, 14, 15, 16, 17, 18, 19] rfl ?_
 refine sp rfl (PE.fieldAddr fo25_0 rfl) rfl ?_
 refine spL rfl rfl (lh sc3 rfl rfl) rfl ?_
 refine sp rfl (PE.fieldAddr fo25_0 rfl) rfl ?_
 refine spL rfl rfl (lh sc3 rfl rfl) rfl ?_
 refine sp rfl (PE.eql rfl rfl) rfl ?_
 refine sp rfl (PE.move rfl) rfl ?_
 refine sy_case (t := 10) rfl (fun g10 => ?_) (fun g10 => ?_)
 refine spG rfl rfl rfl rfl (PE.fieldAddr fo25_1 rfl) rfl ?_
 refine spLG rfl rfl rfl rfl rfl (lh sc3 rfl rfl) rfl ?_
 refine spG rfl rfl rfl rfl (PE.fieldAddr fo25_1 rfl) rfl ?_
 refine spLG rfl rfl rfl rfl rfl (lh sc3 rfl rfl) rfl ?_
 refine spG rfl rfl rfl rfl (PE.eql rfl rfl) rfl ?_
 refine sp rfl (PE.pick rfl rfl rfl) rfl ?_
 refine sp rfl (PE.move rfl) rfl ?_
 refine sy_case (t := 17) rfl (fun g17 => ?_) (fun g17 => ?_)
 refine spG rfl rfl rfl rfl (PE.fieldAddr fo25_2 rfl) rfl ?_
 refine spLG rfl rfl rfl rfl rfl (lh sc23 rfl rfl) rfl ?_
 refine spG rfl rfl rfl rfl (PE.fieldAddr fo25_2 rfl) rfl ?_
 refine spLG rfl rfl rfl rfl rfl (lh sc23 rfl rfl) rfl ?_
 refine clG rfl rfl rfl rfl cal86 rfl rfl (c_Eq_grd g.grs g.grs a a2 cy c2 (by omega) (by omega) _ _) ?_
 rintro _ _ _ ⟨rfl, rfl, rfl⟩
 rw [decide_eq_true (rfl : g.grs = g.grs)]
 refine sp rfl (PE.pick rfl rfl rfl) rfl ?_
 refine sp rfl (PE.assign rfl) rfl ?_
 refine sy_ret ?_
 exact sy_return (vs := [_]) rfl (.cons (RV.tmp rfl) .nil) rfl ⟨rfl, rfl, rfl⟩ drp
 exact absurd g17 (by simp)
 exact absurd g10 (by simp)
theorem c_alike (c : Crt) (a a2 : Option Addr) (cy c2 : Nat) (hl : c.hs.length ≤ 1000) (H : Heap) (R : Facts) [hG : MemRows a 5 (hrows c.hs) R] [hG2 : MemRows a2 5 (hrows c.hs) R] :
    FnV Try.prog 40 [c.v (c.sl a cy), c.v (c.sl a2 c2)] H R (.bool true) := by
 refine fn_of Try.func40 rfl Try.ntmps40 rfl ?_
 refine sy_seq ?_
 refine sy_tx' [0, 1, 2] rfl ?_
 refine bx rfl rfl rfl (fun b2 => ?_)
 refine bx rfl rfl rfl (fun b3 => ?_)
 refine sp rfl (PE.assign rfl) rfl ?_
 refine sy_seq ?_
 refine sy_tx' [0, 1, 2, 3, 4, 5, 6, 7, 8, 9, 10, 11, 12, 13, 14, 15, 16, 17, 18, 19] rfl ?_
 refine sp rfl (PE.fieldAddr fo28_0 rfl) rfl ?_
 refine spL rfl rfl (lh sc3 rfl rfl) rfl ?_
 refine sp rfl (PE.fieldAddr fo28_0 rfl) rfl ?_
 refine spL rfl rfl (lh sc3 rfl rfl) rfl ?_
 refine sp rfl (PE.eql rfl rfl) rfl ?_
 refine sp rfl (PE.move rfl) rfl ?_
 refine sy_case (t := 10) rfl (fun g10 => ?_) (fun g10 => ?_)
 refine spG rfl rfl rfl rfl (PE.fieldAddr fo28_1 rfl) rfl ?_
 refine spLG rfl rfl rfl rfl rfl (lh sc3 rfl rfl) rfl ?_
 refine spG rfl rfl rfl rfl (PE.fieldAddr fo28_1 rfl) rfl ?_
 refine spLG rfl rfl rfl rfl rfl (lh sc3 rfl rfl) rfl ?_
 refine spG rfl rfl rfl rfl (PE.eql rfl rfl) rfl ?_
 refine sp rfl (PE.pick rfl rfl rfl) rfl ?_
 refine sp rfl (PE.move rfl) rfl ?_
 refine sy_case (t := 17) rfl (fun g17 => ?_) (fun g17 => ?_)
 refine spG rfl rfl rfl rfl (PE.fieldAddr fo28_2 rfl) rfl ?_
 refine spLG rfl rfl rfl rfl rfl (lh sc26 rfl rfl) rfl ?_
 refine spG rfl rfl rfl rfl (PE.fieldAddr fo28_2 rfl) rfl ?_
 refine spLG rfl rfl rfl rfl rfl (lh sc26 rfl rfl) rfl ?_
 refine clG rfl rfl rfl rfl cal87 rfl rfl (c_Eq_hnd c.hs c.hs a a2 cy c2 (by omega) (by omega) _ _) ?_
 rintro _ _ _ ⟨rfl, rfl, rfl⟩
 rw [decide_eq_true (rfl : c.hs = c.hs)]
 refine sp rfl (PE.pick rfl rfl rfl) rfl ?_
 refine sp rfl (PE.assign rfl) rfl ?_
 refine sy_ret ?_
 exact sy_return (vs := [_]) rfl (.cons (RV.tmp rfl) .nil) rfl ⟨rfl, rfl, rfl⟩ drp
 exact absurd g17 (by simp)
 exact absurd g10 (by simp)
theorem c_grt (g : Gat) (ag : Option Addr) (cg : Nat) (hlg : g.grs.length ≤ 9223372036854775807) (c : Crt) (ah : Option Addr) (ch : Nat) (hlh : c.hs.length ≤ 9223372036854775807) (H : Heap) (R : Facts) :
    FnV Try.prog 24 [g.v (g.sl ag cg), c.v (c.sl ah ch)] H R (.bool (decide (7 < g.grs.length) || decide (9 < c.hs.length))) := by
 refine fn_of Try.func24 rfl Try.ntmps24 rfl ?_
 refine sy_seq ?_
 refine sy_tx' [0, 1, 2] rfl ?_
 refine bx rfl rfl rfl (fun b2 => ?_)
 refine bx rfl rfl rfl (fun b3 => ?_)
 refine sp rfl (PE.assign rfl) rfl ?_
 refine sy_seq ?_
 refine sy_tx' [0, 1, 2, 3, 4, 5, 6, 7, 8, 9, 10] rfl ?_
 refine sp rfl (PE.fieldAddr fo25_2 rfl) rfl ?_
 refine spL rfl rfl (lh sc23 rfl rfl) rfl ?_
 refine sp rfl (PE.lenSl isl23 rfl) rfl ?_
 refine sp rfl (PE.gtr rfl rfl) rfl ?_
 refine sp rfl (PE.move rfl) rfl ?_
 refine sy_case (t := 9) rfl (fun g9 => ?_) (fun g9 => ?_)
 try simp only [decide_eq_true_eq, decide_eq_false_iff_not, Bool.and_eq_true, Bool.or_eq_true, Bool.not_eq_true', Int.not_le, Int.not_lt] at g9
 have hq : (decide (7 < g.grs.length) || decide (9 < c.hs.length)) = true := by simp; omega
 repeat refine spN rfl rfl rfl rfl rfl rfl rfl rfl ?_
 refine sp rfl (PE.pick rfl rfl rfl) rfl ?_
 refine sp rfl (PE.assign rfl) rfl ?_
 refine sy_ret ?_
 exact sy_return (vs := [_]) rfl (.cons (RV.tmp rfl) .nil) rfl ⟨by rw [hq]; rfl, rfl, rfl⟩ drp
 try simp only [decide_eq_true_eq, decide_eq_false_iff_not, Bool.and_eq_true, Bool.or_eq_true, Bool.not_eq_true', Int.not_le, Int.not_lt] at g9
 have hq : (decide (7 < g.grs.length) || decide (9 < c.hs.length)) = decide ((9 : Int) < (c.hs.length : Nat)) := by rw [decide_eq_false (by omega), Bool.false_or]; exact decide_eq_decide.2 (by omega)
 refine spG rfl rfl rfl rfl (PE.fieldAddr fo28_2 rfl) rfl ?_
 refine spLG rfl rfl rfl rfl rfl (lh sc26 rfl rfl) rfl ?_
 refine spG rfl rfl rfl rfl (PE.lenSl isl26 rfl) rfl ?_
 refine spG rfl rfl rfl rfl (PE.gtr rfl rfl) rfl ?_
 refine sp rfl (PE.pick rfl rfl rfl) rfl ?_
 refine sp rfl (PE.assign rfl) rfl ?_
 refine sy_ret ?_
 exact sy_return (vs := [_]) rfl (.cons (RV.tmp rfl) .nil) rfl ⟨by rw [hq]; rfl, rfl, rfl⟩ drp
theorem c_theirs (g : Gat) (a : Option Addr) (cy : Nat) (hl : g.grs.length ≤ 1000) (H : Heap) (R : Facts) [hG : MemRows a 5 (grows g.grs) R] :
    Fn Try.prog 27 [g.v (g.sl a cy)] H R (fun v H' R' => ∃ a9 c9, v = g.v (g.sl a9 c9) ∧ H' = H ∧ R' = RowsA a9 5 (grows g.grs) :: R) := by
 refine fn_of Try.func27 rfl Try.ntmps27 rfl ?_
 refine sy_seq ?_
 refine sy_tx' [0, 1] rfl ?_
 refine bx rfl rfl rfl (fun b1 => ?_)
 refine alc rfl zl59 rfl (fun b2 => ?_)
 refine sy_seq ?_
 refine sy_tx' [0, 1, 2, 3, 4, 5, 6] rfl ?_
 refine sp rfl (PE.fieldAddr fo25_0 rfl) rfl ?_
 refine spL rfl rfl (lh sc3 rfl rfl) rfl ?_
 refine sp rfl (PE.fieldAddr fo25_1 rfl) rfl ?_
 refine spL rfl rfl (lh sc3 rfl rfl) rfl ?_
 refine sp rfl (PE.build (out := gtl ⟨g.err, g.miss, []⟩ (.slice none 0 0)) pl59 zl59 rfl rfl) rfl ?_
 refine alc rfl zl59 rfl (fun b3 => ?_)
 refine sto rfl rfl rfl cn59 rfl rfl rfl rfl ?_
 refine sy_seq ?_
 refine sy_seq ?_
 refine sy_tx' [0, 1, 2, 3] rfl ?_
 refine sp rfl (PE.fieldAddr fo25_2 rfl) rfl ?_
 refine spL rfl rfl (lh sc23 rfl rfl) rfl ?_
 refine sp rfl (PE.lenSl isl23 rfl) rfl ?_
 refine sp rfl (PE.move rfl) rfl ?_
 refine sy_block ?_
 refine sy_loop (ι := (k : {k : Nat // k ≤ g.grs.length}) × OSl 142 5 (grows (g.grs.take k.1))) (fun x => ⟨[(1, .pointer (some ⟨b1, 0, none⟩)), (2, .pointer (some ⟨b2, 0, none⟩)), (3, .pointer (some ⟨b3, 0, none⟩)), (12, (g.sl a cy)), (13, .int .i64 g.grs.length), (14, .int .i64 x.1.1)], x.2.G ++ (b3, cel 59 (gtl ⟨g.err, g.miss, g.grs.take x.1.1⟩ x.2.fs)) :: (b2, cel 59 [.int .i64 0, .int .i64 0, .slice none 0 0]) :: (b1, cel 25 (gtl g (g.sl a cy))) :: H, R⟩) (fun x => g.grs.length - x.1.1) ⟨⟨0, by omega⟩, OSl.nil _ _⟩ ?_ (fun x => ?_)
 exact sy_at (by repeat' first | exact Sub.nil | apply Sub.cons | rfl | (simp [lk]; omega)) (fun _ h => h)
 obtain ⟨⟨i, hi⟩, o⟩ := x
 dsimp only at hi o ⊢
 refine sy_seq ?_
 refine sy_tx' [0] rfl ?_
 refine sp rfl (PE.lss rfl rfl) rfl ?_
 refine sy_seq ?_
 refine sy_cond rfl (fun hc0 => ?_) (fun hc0 => ?_)
 try simp only [decide_eq_true_eq, decide_eq_false_iff_not, Bool.and_eq_true, Bool.or_eq_true, Bool.not_eq_true', Int.not_le, Int.not_lt] at hc0
 obtain ⟨x, hx⟩ : ∃ x, g.grs[i]? = some x := ⟨_, List.getElem?_eq_getElem (by omega)⟩
 refine sy_addr (a := a) (sz := 5) (rows := grows g.grs) (by intro h0; simp [grows] at h0; simp [h0] at hx) (fun ba oa he => ?_)
 subst he
 refine sy_skip ?_
 refine sy_seq ?_
 refine sy_block ?_
 refine sy_seq ?_
 refine sy_tx' [0, 1, 2, 3] rfl ?_
 refine sp rfl (PE.indexAddr el23 rfl rfl (by omega) (by omega)) rfl ?_
 refine spL rfl rfl (lfA ag45 (row := grow x) (gr_get (by simpa using hx)) rfl) rfl ?_
 refine alc rfl zl45 rfl (fun b5 => ?_)
 refine sto rfl rfl rfl cn45 rfl rfl rfl rfl ?_
 refine sy_tx' [0, 1, 2, 3, 4, 5, 6] rfl ?_
 refine sp rfl (PE.fieldAddr fo59_2 rfl) rfl ?_
 refine spL rfl rfl (lh sc57 rfl rfl) rfl ?_
 refine spL rfl rfl (lhA (grow x) ag45 rfl (rest := []) (by rw [List.append_nil]; rfl) rfl) rfl ?_
 refine bsl (out := [_, _, _, _, _]) rfl sl57 zl142 rfl rfl rfl rfl rfl rfl (fun b21 => ?_)
 refine apO (o) rfl ap57 rfl rfl (rowsH (row := grow x) rfl) rfl rfl ((by simp only [grows, List.length_map, List.length_singleton, List.length_take]; omega)) rfl (fun o22 => ?_)
 refine sp rfl (PE.fieldAddr fo59_2 rfl) rfl ?_
 refine stoE (l' := gtl ⟨g.err, g.miss, g.grs.take (i + 1)⟩ o22.fs) rfl rfl rfl cn57 rfl (by rw [o22.cells.1]; first | done | rfl) (by rw [o22.cells.1]; simp [o22.cells.2]) (by rw [o22.cells.1]; first | done | rfl) (by rw [o22.cells.1]; first | done | exact Nat.le_refl _) ?_
 refine sy_tx' [0, 1] rfl ?_
 refine sp rfl (PE.add rfl rfl (by omega)) rfl ?_
 refine sp rfl (PE.move rfl) rfl ?_
 exact sy_next ⟨⟨i + 1, by omega⟩, o22.cast (by rw [List.take_add_one, hx]; simp [grows])⟩ (by dsimp only; omega) (by repeat' first | exact Sub.nil | apply Sub.cons | rfl | (simp [lk]; omega)) (fun w h => (h.del b21).del b5)
 try simp only [decide_eq_true_eq, decide_eq_false_iff_not, Bool.and_eq_true, Bool.or_eq_true, Bool.not_eq_true', Int.not_le, Int.not_lt] at hc0
 obtain rfl : i = g.grs.length := by omega
 rw [show ⟨g.err, g.miss, g.grs.take g.grs.length⟩ = g from by rw [List.take_length]]
 obtain ⟨a9, c9, he, hf⟩ := o.freeze
 rw [he]
 refine Sy.heap (H' := _) (fun w h => hf h) ?_
 rw [show (grows (g.grs.take g.grs.length)) = grows g.grs from by rw [List.take_length], show (grows g.grs).length = g.grs.length from List.length_map _]
 refine sy_exit ?_
 repeat refine sy_tx ?_
 refine sy_bx ?_
 refine sy_seq ?_
 refine sy_tx' [0, 1] rfl ?_
 refine spL rfl rfl (lhA (gtl g (g.sl a9 c9)) ag59 rfl rfl rfl) rfl ?_
 refine sto rfl rfl rfl cn59 rfl rfl rfl rfl ?_
 refine sy_ret ?_
 exact sy_return (vs := [_]) rfl (.cons (RV.cell rfl (lhA [_, _, _] ag59 rfl rfl rfl)) .nil) rfl ⟨a9, c9, rfl, rfl, rfl⟩ (fun w h => ((h.del b3).del b2).del b1)
theorem c_come (c : Crt) (a : Option Addr) (cy : Nat) (hl : c.hs.length ≤ 1000) (H : Heap) (R : Facts) [hG : MemRows a 5 (hrows c.hs) R] :
    Fn Try.prog 28 [c.v (c.sl a cy)] H R (fun v H' R' => ∃ a9 c9, v = c.v (c.sl a9 c9) ∧ H' = H ∧ R' = RowsA a9 5 (hrows c.hs) :: R) := by
 refine fn_of Try.func28 rfl Try.ntmps28 rfl ?_
 refine sy_seq ?_
 refine sy_tx' [0, 1] rfl ?_
 refine bx rfl rfl rfl (fun b1 => ?_)
 refine alc rfl zl63 rfl (fun b2 => ?_)
 refine sy_seq ?_
 refine sy_tx' [0, 1, 2, 3, 4, 5, 6] rfl ?_
 refine sp rfl (PE.fieldAddr fo28_0 rfl) rfl ?_
 refine spL rfl rfl (lh sc3 rfl rfl) rfl ?_
 refine sp rfl (PE.fieldAddr fo28_1 rfl) rfl ?_
 refine spL rfl rfl (lh sc3 rfl rfl) rfl ?_
 refine sp rfl (PE.build (out := ctl ⟨c.full, c.empty, []⟩ (.slice none 0 0)) pl63 zl63 rfl rfl) rfl ?_
 refine alc rfl zl63 rfl (fun b3 => ?_)
 refine sto rfl rfl rfl cn63 rfl rfl rfl rfl ?_
 refine sy_seq ?_
 refine sy_seq ?_
 refine sy_tx' [0, 1, 2, 3] rfl ?_
 refine sp rfl (PE.fieldAddr fo28_2 rfl) rfl ?_
 refine spL rfl rfl (lh sc26 rfl rfl) rfl ?_
 refine sp rfl (PE.lenSl isl26 rfl) rfl ?_
 refine sp rfl (PE.move rfl) rfl ?_
 refine sy_block ?_
 refine sy_loop (ι := (k : {k : Nat // k ≤ c.hs.length}) × OSl 85 5 (hrows (c.hs.take k.1))) (fun x => ⟨[(1, .pointer (some ⟨b1, 0, none⟩)), (2, .pointer (some ⟨b2, 0, none⟩)), (3, .pointer (some ⟨b3, 0, none⟩)), (12, (c.sl a cy)), (13, .int .i64 c.hs.length), (14, .int .i64 x.1.1)], x.2.G ++ (b3, cel 63 (ctl ⟨c.full, c.empty, c.hs.take x.1.1⟩ x.2.fs)) :: (b2, cel 63 [.int .i64 0, .int .i64 0, .slice none 0 0]) :: (b1, cel 28 (ctl c (c.sl a cy))) :: H, R⟩) (fun x => c.hs.length - x.1.1) ⟨⟨0, by omega⟩, OSl.nil _ _⟩ ?_ (fun x => ?_)
 exact sy_at (by repeat' first | exact Sub.nil | apply Sub.cons | rfl | (simp [lk]; omega)) (fun _ h => h)
 obtain ⟨⟨i, hi⟩, o⟩ := x
 dsimp only at hi o ⊢
 refine sy_seq ?_
 refine sy_tx' [0] rfl ?_
 refine sp rfl (PE.lss rfl rfl) rfl ?_
 refine sy_seq ?_
 refine sy_cond rfl (fun hc0 => ?_) (fun hc0 => ?_)
 try simp only [decide_eq_true_eq, decide_eq_false_iff_not, Bool.and_eq_true, Bool.or_eq_true, Bool.not_eq_true', Int.not_le, Int.not_lt] at hc0
 obtain ⟨x, hx⟩ : ∃ x, c.hs[i]? = some x := ⟨_, List.getElem?_eq_getElem (by omega)⟩
 refine sy_addr (a := a) (sz := 5) (rows := hrows c.hs) (by intro h0; simp [hrows] at h0; simp [h0] at hx) (fun ba oa he => ?_)
 subst he
 refine sy_skip ?_
 refine sy_seq ?_
 refine sy_block ?_
 refine sy_seq ?_
 refine sy_tx' [0, 1, 2, 3] rfl ?_
 refine sp rfl (PE.indexAddr el26 rfl rfl (by omega) (by omega)) rfl ?_
 refine spL rfl rfl (lfA ag82 (row := hrow x) (hr_get (by simpa using hx)) rfl) rfl ?_
 refine alc rfl zl82 rfl (fun b5 => ?_)
 refine sto rfl rfl rfl cn82 rfl rfl rfl rfl ?_
 refine sy_tx' [0, 1, 2, 3, 4, 5, 6] rfl ?_
 refine sp rfl (PE.fieldAddr fo63_2 rfl) rfl ?_
 refine spL rfl rfl (lh sc61 rfl rfl) rfl ?_
 refine spL rfl rfl (lhA (hrow x) ag82 rfl (rest := []) (by rw [List.append_nil]; rfl) rfl) rfl ?_
 refine bsl (out := [_, _, _, _, _]) rfl sl61 zl85 rfl rfl rfl rfl rfl rfl (fun b21 => ?_)
 refine apO (o) rfl ap61 rfl rfl (rowsH (row := hrow x) rfl) rfl rfl ((by simp only [hrows, List.length_map, List.length_singleton, List.length_take]; omega)) rfl (fun o22 => ?_)
 refine sp rfl (PE.fieldAddr fo63_2 rfl) rfl ?_
 refine stoE (l' := ctl ⟨c.full, c.empty, c.hs.take (i + 1)⟩ o22.fs) rfl rfl rfl cn61 rfl (by rw [o22.cells.1]; first | done | rfl) (by rw [o22.cells.1]; simp [o22.cells.2]) (by rw [o22.cells.1]; first | done | rfl) (by rw [o22.cells.1]; first | done | exact Nat.le_refl _) ?_
 refine sy_tx' [0, 1] rfl ?_
 refine sp rfl (PE.add rfl rfl (by omega)) rfl ?_
 refine sp rfl (PE.move rfl) rfl ?_
 exact sy_next ⟨⟨i + 1, by omega⟩, o22.cast (by rw [List.take_add_one, hx]; simp [hrows])⟩ (by dsimp only; omega) (by repeat' first | exact Sub.nil | apply Sub.cons | rfl | (simp [lk]; omega)) (fun w h => (h.del b21).del b5)
 try simp only [decide_eq_true_eq, decide_eq_false_iff_not, Bool.and_eq_true, Bool.or_eq_true, Bool.not_eq_true', Int.not_le, Int.not_lt] at hc0
 obtain rfl : i = c.hs.length := by omega
 rw [show ⟨c.full, c.empty, c.hs.take c.hs.length⟩ = c from by rw [List.take_length]]
 obtain ⟨a9, c9, he, hf⟩ := o.freeze
 rw [he]
 refine Sy.heap (H' := _) (fun w h => hf h) ?_
 rw [show (hrows (c.hs.take c.hs.length)) = hrows c.hs from by rw [List.take_length], show (hrows c.hs).length = c.hs.length from List.length_map _]
 refine sy_exit ?_
 repeat refine sy_tx ?_
 refine sy_bx ?_
 refine sy_seq ?_
 refine sy_tx' [0, 1] rfl ?_
 refine spL rfl rfl (lhA (ctl c (c.sl a9 c9)) ag63 rfl rfl rfl) rfl ?_
 refine sto rfl rfl rfl cn63 rfl rfl rfl rfl ?_
 refine sy_ret ?_
 exact sy_return (vs := [_]) rfl (.cons (RV.cell rfl (lhA [_, _, _] ag63 rfl rfl rfl)) .nil) rfl ⟨a9, c9, rfl, rfl, rfl⟩ (fun w h => ((h.del b3).del b2).del b1)
theorem c_off (n lo hi : Int) (H : Heap) (R : Facts) :
    FnV Try.prog 85 [.int .i64 n, .int .i64 lo, .int .i64 hi] H R (.bool (!(inb n lo hi))) := by
 refine fn_of Try.func85 rfl Try.ntmps85 rfl ?_
 refine sy_seq ?_
 refine sy_tx' [0] rfl ?_
 refine sp rfl (PE.assign rfl) rfl ?_
 refine sy_seq ?_
 refine sy_tx' [0, 1, 2, 3, 4, 5, 6, 7, 8] rfl ?_
 refine sp rfl (PE.move rfl) rfl ?_
 refine sp rfl (PE.move rfl) rfl ?_
 refine sp rfl (PE.lss rfl rfl) rfl ?_
 refine sp rfl (PE.move rfl) rfl ?_
 refine sy_case (t := 10) rfl (fun g10 => ?_) (fun g10 => ?_)
 try simp only [decide_eq_true_eq, decide_eq_false_iff_not, Bool.and_eq_true, Bool.or_eq_true, Bool.not_eq_true', Int.not_le, Int.not_lt] at g10
 have e : (!(inb n lo hi)) = true := by simp [inb]; omega
 repeat refine spN rfl rfl rfl rfl rfl rfl rfl rfl ?_
 refine sp rfl (PE.pick rfl rfl rfl) rfl ?_
 refine sp rfl (PE.assign rfl) rfl ?_
 refine sy_ret ?_
 exact sy_return (vs := [_]) rfl (.cons (RV.tmp rfl) .nil) rfl ⟨by rw [e]; rfl, rfl, rfl⟩ drp
 try simp only [decide_eq_true_eq, decide_eq_false_iff_not, Bool.and_eq_true, Bool.or_eq_true, Bool.not_eq_true', Int.not_le, Int.not_lt] at g10
 have e : (!(inb n lo hi)) = decide (hi < n) := by rw [show inb n lo hi = decide (n ≤ hi) by simp [inb]; omega, ← decide_not]; exact decide_eq_decide.2 (by omega)
 refine spG rfl rfl rfl rfl (PE.move rfl) rfl ?_
 refine spG rfl rfl rfl rfl (PE.move rfl) rfl ?_
 refine spG rfl rfl rfl rfl (PE.gtr rfl rfl) rfl ?_
 refine sp rfl (PE.pick rfl rfl rfl) rfl ?_
 refine sp rfl (PE.assign rfl) rfl ?_
 refine sy_ret ?_
 exact sy_return (vs := [_]) rfl (.cons (RV.tmp rfl) .nil) rfl ⟨by rw [e]; rfl, rfl, rfl⟩ drp
theorem c_rCheck (g : Gat) (ag : Option Addr) (cg : Nat) (hlg : g.grs.length ≤ 9223372036854775807) (H : Heap) (R : Facts) [hG : MemRows ag 5 (grows g.grs) R] :
    FnV Try.prog 44 [g.v (g.sl ag cg)] H R (.int .i64 g.check) := by
 refine fn_of Try.func44 rfl Try.ntmps44 rfl ?_
 refine sy_seq ?_
 refine sy_tx' [0, 1] rfl ?_
 refine bx rfl rfl rfl (fun b1 => ?_)
 refine sp rfl (PE.assign rfl) rfl ?_
 refine sy_seq ?_
 refine sy_seq ?_
 refine sy_tx' [0, 1, 2, 3] rfl ?_
 refine sp rfl (PE.fieldAddr fo59_2 rfl) rfl ?_
 refine spL rfl rfl (lh sc57 rfl rfl) rfl ?_
 refine sp rfl (PE.lenSl isl57 rfl) rfl ?_
 refine sp rfl (PE.gtr rfl rfl) rfl ?_
 refine sy_cond rfl (fun hc0 => ?_) (fun hc0 => ?_)
 try simp only [decide_eq_true_eq, decide_eq_false_iff_not, Bool.and_eq_true, Bool.or_eq_true, Bool.not_eq_true', Int.not_le, Int.not_lt] at hc0
 have hres := chk_many (g := g) (by omega)
 refine sy_seq ?_
 refine sy_tx' [0] rfl ?_
 refine sp rfl (PE.assign rfl) rfl ?_
 refine sy_ret ?_
 exact sy_return (vs := [_]) rfl (.cons (RV.tmp rfl) .nil) rfl ⟨by rw [hres]; rfl, rfl, rfl⟩ drp
 try simp only [decide_eq_true_eq, decide_eq_false_iff_not, Bool.and_eq_true, Bool.or_eq_true, Bool.not_eq_true', Int.not_le, Int.not_lt] at hc0
 have h4 : ¬ 4 < g.grs.length := by omega
 refine sy_skip ?_
 refine sy_seq ?_
 refine sy_seq ?_
 refine sy_tx' [0, 1, 2, 3, 4, 5, 6, 7] rfl ?_
 refine sp rfl (PE.fieldAddr fo59_0 rfl) rfl ?_
 refine spL rfl rfl (lh sc3 rfl rfl) rfl ?_
 refine clV rfl cal85 rfl rfl (c_off _ _ _ _ _) ?_
 refine sp rfl (PE.move rfl) rfl ?_
 refine sy_case (t := 13) rfl (fun g13 => ?_) (fun g13 => ?_)
 have hb : inb g.err 0 50 = false := by rw [← Bool.not_eq_true']; exact g13
 have hres := chk_rng h4 (.inl hb)
 repeat refine spN rfl rfl rfl rfl rfl rfl rfl rfl ?_
 refine sp rfl (PE.pick rfl rfl rfl) rfl ?_
 refine sy_condT rfl ?_
 refine sy_seq ?_
 refine sy_tx' [0] rfl ?_
 refine sp rfl (PE.assign rfl) rfl ?_
 refine sy_ret ?_
 exact sy_return (vs := [_]) rfl (.cons (RV.tmp rfl) .nil) rfl ⟨by rw [hres]; rfl, rfl, rfl⟩ drp
 have he : inb g.err 0 50 = true := by rw [← Bool.not_eq_false']; exact g13
 refine spG rfl rfl rfl rfl (PE.fieldAddr fo59_1 rfl) rfl ?_
 refine spLG rfl rfl rfl rfl rfl (lh sc3 rfl rfl) rfl ?_
 refine clVG rfl rfl rfl rfl cal85 rfl rfl (c_off _ _ _ _ _) ?_
 refine sp rfl (PE.pick rfl rfl rfl) rfl ?_
 refine sy_cond rfl (fun hc1 => ?_) (fun hc1 => ?_)
 have hb : inb g.miss 0 20 = false := by rw [← Bool.not_eq_true']; exact hc1
 have hres := chk_rng h4 (.inr hb)
 refine sy_seq ?_
 refine sy_tx' [0] rfl ?_
 refine sp rfl (PE.assign rfl) rfl ?_
 refine sy_ret ?_
 exact sy_return (vs := [_]) rfl (.cons (RV.tmp rfl) .nil) rfl ⟨by rw [hres]; rfl, rfl, rfl⟩ drp
 have hm : inb g.miss 0 20 = true := by rw [← Bool.not_eq_false']; exact hc1
 refine sy_skip ?_
 refine sy_seq ?_
 refine sy_seq ?_
 refine sy_tx' [0] rfl ?_
 refine sp rfl (PE.assign rfl) rfl ?_
 refine sy_block ?_
 refine sy_loop (ι := {i : Nat // i ≤ g.grs.length ∧ (g.grs.take i).all Grd.fine = true}) (fun i => ⟨[(1, .pointer (some ⟨b1, 0, none⟩)), (3, .int .i64 i.1)], (b1, cel 59 (gtl g (g.sl ag cg))) :: H, R⟩) (fun i => g.grs.length - i.1) ⟨0, by simp⟩ ?_ (fun i => ?_)
 exact sy_at (by repeat' first | exact Sub.nil | apply Sub.cons | rfl | (simp [lk]; omega)) (fun _ h => h)
 obtain ⟨i, hi, hn⟩ := i
 dsimp only at hi hn ⊢
 refine sy_seq ?_
 refine sy_seq ?_
 refine sy_tx' [0, 1, 2, 3, 4] rfl ?_
 refine sp rfl (PE.move rfl) rfl ?_
 refine sp rfl (PE.fieldAddr fo59_2 rfl) rfl ?_
 refine spL rfl rfl (lh sc57 rfl rfl) rfl ?_
 refine sp rfl (PE.lenSl isl57 rfl) rfl ?_
 refine sp rfl (PE.lss rfl rfl) rfl ?_
 refine sy_cond rfl (fun hc2 => ?_) (fun hc2 => ?_)
 try simp only [decide_eq_true_eq, decide_eq_false_iff_not, Bool.and_eq_true, Bool.or_eq_true, Bool.not_eq_true', Int.not_le, Int.not_lt] at hc2
 obtain ⟨x, hx⟩ : ∃ x, g.grs[i]? = some x := ⟨_, List.getElem?_eq_getElem (by omega)⟩
 refine sy_addr (a := ag) (sz := 5) (rows := grows g.grs) (by intro h0; simp [grows] at h0; simp [h0] at hx) (fun ba oa hea => ?_)
 subst hea
 refine sy_skip ?_
 refine sy_seq ?_
 refine sy_block ?_
 refine sy_seq ?_
 refine sy_tx' [0, 1, 2, 3, 4, 5, 6] rfl ?_
 refine sp rfl (PE.fieldAddr fo59_2 rfl) rfl ?_
 refine spL rfl rfl (lh sc57 rfl rfl) rfl ?_
 refine sp rfl (PE.move rfl) rfl ?_
 refine sp rfl (PE.indexAddr el57 rfl rfl (by omega) (by omega)) rfl ?_
 refine spL rfl rfl (lfA ag142 (row := grow x) (gr_get (by simpa using hx)) rfl) rfl ?_
 refine alc rfl zl142 rfl (fun b4 => ?_)
 refine sto rfl rfl rfl cn142 rfl rfl rfl rfl ?_
 refine sy_seq ?_
 refine sy_tx' [0, 1, 2, 3, 4, 5, 6, 7, 8, 9, 10, 11, 12, 13, 14, 15, 16, 17, 18, 19, 20, 21, 22] rfl ?_
 refine sp rfl (PE.fieldAddr fo142_0 rfl) rfl ?_
 refine spL rfl rfl (lh sc3 rfl rfl) rfl ?_
 refine clV rfl cal85 rfl rfl (c_off _ _ _ _ _) ?_
 refine sp rfl (PE.move rfl) rfl ?_
 refine sy_case (t := 33) rfl (fun g33 => ?_) (fun g33 => ?_)
 have hb : inb x.corn 0 40 = false := by rw [← Bool.not_eq_true']; exact g33
 have hres : g.check = 3 := chk_grd h4 he hm (all_bad hx (by rw [fine_eq, hb]; simp only [Bool.false_and, Bool.and_false]))
 repeat refine spN rfl rfl rfl rfl rfl rfl rfl rfl ?_
 refine sp rfl (PE.pick rfl rfl rfl) rfl ?_
 refine sp rfl (PE.move rfl) rfl ?_
 repeat refine spN rfl rfl rfl rfl rfl rfl rfl rfl ?_
 refine sp rfl (PE.pick rfl rfl rfl) rfl ?_
 refine sp rfl (PE.move rfl) rfl ?_
 repeat refine spN rfl rfl rfl rfl rfl rfl rfl rfl ?_
 refine sp rfl (PE.pick rfl rfl rfl) rfl ?_
 refine sp rfl (PE.move rfl) rfl ?_
 repeat refine spN rfl rfl rfl rfl rfl rfl rfl rfl ?_
 refine sp rfl (PE.pick rfl rfl rfl) rfl ?_
 refine sy_condT rfl ?_
 refine sy_seq ?_
 refine sy_tx' [0] rfl ?_
 refine sp rfl (PE.assign rfl) rfl ?_
 refine sy_ret ?_
 exact sy_return (vs := [_]) rfl (.cons (RV.tmp rfl) .nil) rfl ⟨by rw [hres]; rfl, rfl, rfl⟩ drp
 have q1 : inb x.corn 0 40 = true := by rw [← Bool.not_eq_false']; exact g33
 refine spG rfl rfl rfl rfl (PE.fieldAddr fo142_1 rfl) rfl ?_
 refine spLG rfl rfl rfl rfl rfl (lh sc3 rfl rfl) rfl ?_
 refine clVG rfl rfl rfl rfl cal85 rfl rfl (c_off _ _ _ _ _) ?_
 refine sp rfl (PE.pick rfl rfl rfl) rfl ?_
 refine sp rfl (PE.move rfl) rfl ?_
 refine sy_case (t := 38) rfl (fun g38 => ?_) (fun g38 => ?_)
 have hb : inb x.chaff 0 40 = false := by rw [← Bool.not_eq_true']; exact g38
 have hres : g.check = 3 := chk_grd h4 he hm (all_bad hx (by rw [fine_eq, hb]; simp only [Bool.false_and, Bool.and_false]))
 repeat refine spN rfl rfl rfl rfl rfl rfl rfl rfl ?_
 refine sp rfl (PE.pick rfl rfl rfl) rfl ?_
 refine sp rfl (PE.move rfl) rfl ?_
 repeat refine spN rfl rfl rfl rfl rfl rfl rfl rfl ?_
 refine sp rfl (PE.pick rfl rfl rfl) rfl ?_
 refine sp rfl (PE.move rfl) rfl ?_
 repeat refine spN rfl rfl rfl rfl rfl rfl rfl rfl ?_
 refine sp rfl (PE.pick rfl rfl rfl) rfl ?_
 refine sy_condT rfl ?_
 refine sy_seq ?_
 refine sy_tx' [0] rfl ?_
 refine sp rfl (PE.assign rfl) rfl ?_
 refine sy_ret ?_
 exact sy_return (vs := [_]) rfl (.cons (RV.tmp rfl) .nil) rfl ⟨by rw [hres]; rfl, rfl, rfl⟩ drp
 have q2 : inb x.chaff 0 40 = true := by rw [← Bool.not_eq_false']; exact g38
 refine spG rfl rfl rfl rfl (PE.fieldAddr fo142_2 rfl) rfl ?_
 refine spLG rfl rfl rfl rfl rfl (lh sc3 rfl rfl) rfl ?_
 refine clVG rfl rfl rfl rfl cal85 rfl rfl (c_off _ _ _ _ _) ?_
 refine sp rfl (PE.pick rfl rfl rfl) rfl ?_
 refine sp rfl (PE.move rfl) rfl ?_
 refine sy_case (t := 43) rfl (fun g43 => ?_) (fun g43 => ?_)
 have hb : inb x.stones 0 40 = false := by rw [← Bool.not_eq_true']; exact g43
 have hres : g.check = 3 := chk_grd h4 he hm (all_bad hx (by rw [fine_eq, hb]; simp only [Bool.false_and, Bool.and_false]))
 repeat refine spN rfl rfl rfl rfl rfl rfl rfl rfl ?_
 refine sp rfl (PE.pick rfl rfl rfl) rfl ?_
 refine sp rfl (PE.move rfl) rfl ?_
 repeat refine spN rfl rfl rfl rfl rfl rfl rfl rfl ?_
 refine sp rfl (PE.pick rfl rfl rfl) rfl ?_
 refine sy_condT rfl ?_
 refine sy_seq ?_
 refine sy_tx' [0] rfl ?_
 refine sp rfl (PE.assign rfl) rfl ?_
 refine sy_ret ?_
 exact sy_return (vs := [_]) rfl (.cons (RV.tmp rfl) .nil) rfl ⟨by rw [hres]; rfl, rfl, rfl⟩ drp
 have q3 : inb x.stones 0 40 = true := by rw [← Bool.not_eq_false']; exact g43
 refine spG rfl rfl rfl rfl (PE.fieldAddr fo142_3 rfl) rfl ?_
 refine spLG rfl rfl rfl rfl rfl (lh sc3 rfl rfl) rfl ?_
 refine clVG rfl rfl rfl rfl cal85 rfl rfl (c_off _ _ _ _ _) ?_
 refine sp rfl (PE.pick rfl rfl rfl) rfl ?_
 refine sp rfl (PE.move rfl) rfl ?_
 refine sy_case (t := 48) rfl (fun g48 => ?_) (fun g48 => ?_)
 have hb : inb x.damp 0 40 = false := by rw [← Bool.not_eq_true']; exact g48
 have hres : g.check = 3 := chk_grd h4 he hm (all_bad hx (by rw [fine_eq, hb]; simp only [Bool.false_and, Bool.and_false]))
 repeat refine spN rfl rfl rfl rfl rfl rfl rfl rfl ?_
 refine sp rfl (PE.pick rfl rfl rfl) rfl ?_
 refine sy_condT rfl ?_
 refine sy_seq ?_
 refine sy_tx' [0] rfl ?_
 refine sp rfl (PE.assign rfl) rfl ?_
 refine sy_ret ?_
 exact sy_return (vs := [_]) rfl (.cons (RV.tmp rfl) .nil) rfl ⟨by rw [hres]; rfl, rfl, rfl⟩ drp
 have q4 : inb x.damp 0 40 = true := by rw [← Bool.not_eq_false']; exact g48
 refine spG rfl rfl rfl rfl (PE.fieldAddr fo142_4 rfl) rfl ?_
 refine spLG rfl rfl rfl rfl rfl (lh sc3 rfl rfl) rfl ?_
 refine clVG rfl rfl rfl rfl cal85 rfl rfl (c_off _ _ _ _ _) ?_
 refine sp rfl (PE.pick rfl rfl rfl) rfl ?_
 refine sy_cond rfl (fun hc3 => ?_) (fun hc3 => ?_)
 have hb : inb x.price 0 100 = false := by rw [← Bool.not_eq_true']; exact hc3
 have hres : g.check = 3 := chk_grd h4 he hm (all_bad hx (by rw [fine_eq, hb]; simp only [Bool.false_and, Bool.and_false]))
 refine sy_seq ?_
 refine sy_tx' [0] rfl ?_
 refine sp rfl (PE.assign rfl) rfl ?_
 refine sy_ret ?_
 exact sy_return (vs := [_]) rfl (.cons (RV.tmp rfl) .nil) rfl ⟨by rw [hres]; rfl, rfl, rfl⟩ drp
 have q5 : inb x.price 0 100 = true := by rw [← Bool.not_eq_false']; exact hc3
 have hxf : x.fine = true := by rw [fine_eq, q1, q2, q3, q4, q5]; rfl
 refine sy_skip ?_
 refine sy_tx' [0, 1, 2] rfl ?_
 refine sp rfl (PE.move rfl) rfl ?_
 refine sp rfl (PE.add rfl rfl (by omega)) rfl ?_
 refine sp rfl (PE.assign rfl) rfl ?_
 exact sy_next ⟨i + 1, by omega, all_more hx hn hxf⟩ (by dsimp only; omega) (by repeat' first | exact Sub.nil | apply Sub.cons | rfl | (simp [lk]; omega)) (fun w h => h.del b4)
 try simp only [decide_eq_true_eq, decide_eq_false_iff_not, Bool.and_eq_true, Bool.or_eq_true, Bool.not_eq_true', Int.not_le, Int.not_lt] at hc2
 obtain rfl : i = g.grs.length := by omega
 rw [List.take_length] at hn
 have hor := chk_ord h4 he hm hn
 refine sy_exit ?_
 repeat refine sy_tx ?_
 refine sy_bx ?_
 refine sy_seq ?_
 refine sy_seq ?_
 refine sy_tx' [0] rfl ?_
 refine sp rfl (PE.assign rfl) rfl ?_
 refine sy_block ?_
 refine sy_loop (ι := {i : Nat // 1 ≤ i ∧ i ≤ g.grs.length + 1 ∧ ∀ j, j + 1 < i → j + 1 < g.grs.length → grBad g.grs j = false}) (fun i => ⟨[(1, .pointer (some ⟨b1, 0, none⟩)), (5, .int .i64 i.1)], (b1, cel 59 (gtl g (g.sl ag cg))) :: H, R⟩) (fun i => g.grs.length - i.1) ⟨1, by omega, by omega, fun j h1 h2 => by omega⟩ ?_ (fun i => ?_)
 exact sy_at (by repeat' first | exact Sub.nil | apply Sub.cons | rfl | (simp [lk]; omega)) (fun _ h => h)
 obtain ⟨i, hi1, hi2, hno⟩ := i
 dsimp only at hi1 hi2 hno ⊢
 refine sy_seq ?_
 refine sy_seq ?_
 refine sy_tx' [0, 1, 2, 3, 4] rfl ?_
 refine sp rfl (PE.move rfl) rfl ?_
 refine sp rfl (PE.fieldAddr fo59_2 rfl) rfl ?_
 refine spL rfl rfl (lh sc57 rfl rfl) rfl ?_
 refine sp rfl (PE.lenSl isl57 rfl) rfl ?_
 refine sp rfl (PE.lss rfl rfl) rfl ?_
 refine sy_cond rfl (fun hc4 => ?_) (fun hc4 => ?_)
 try simp only [decide_eq_true_eq, decide_eq_false_iff_not, Bool.and_eq_true, Bool.or_eq_true, Bool.not_eq_true', Int.not_le, Int.not_lt] at hc4
 obtain ⟨y, hy⟩ : ∃ y, g.grs[i]? = some y := ⟨_, List.getElem?_eq_getElem (by omega)⟩
 obtain ⟨x, hx⟩ : ∃ x, g.grs[i - 1]? = some x := ⟨_, List.getElem?_eq_getElem (by omega)⟩
 refine sy_addr (a := ag) (sz := 5) (rows := grows g.grs) (by intro h0; simp [grows] at h0; simp [h0] at hx) (fun ba oa hea => ?_)
 subst hea
 refine sy_skip ?_
 refine sy_seq ?_
 refine sy_block ?_
 refine sy_seq ?_
 refine sy_draw [0, 1, 0, 7, 15, 31, 0, 64, 0, 256, 960, 1984, 4032, 8191] (.tk 0 (.ld 1 (.tk 2 (.tk 3 (.tk 4 (.ld 5 (.tk 6 (.ld 7 (.tk 8 (.tk 9 (.tk 10 (.tk 11 (.ld 12 (.tk 13 .done)))))))))))))) mixed (by kernel_rfl) ?_
 refine tk rfl (PE.fieldAddr fo59_2 rfl) rfl ?_
 refine ld rfl rfl (lh sc57 rfl rfl) rfl ?_
 refine tk rfl (PE.move rfl) rfl ?_
 refine tk rfl (PE.indexAddr el57 rfl rfl (by omega) (by omega)) rfl ?_
 refine tk rfl (PE.fieldAddr fo142_4 rfl) rfl ?_
 refine ld rfl rfl (lf (x := .int .i64 y.price) sc3 (gr_get (by simpa using hy)) rfl) rfl ?_
 refine tk rfl (PE.fieldAddr fo59_2 rfl) rfl ?_
 refine ld rfl rfl (lh sc57 rfl rfl) rfl ?_
 refine tk rfl (PE.move rfl) rfl ?_
 refine tk rfl (PE.sub rfl rfl (by omega)) rfl ?_
 rw [show (i : Int) - 1 = ((i - 1 : Nat) : Int) from by omega]
 refine tk rfl (PE.indexAddr el57 rfl rfl (by omega) (by omega)) rfl ?_
 refine tk rfl (PE.fieldAddr fo142_4 rfl) rfl ?_
 refine ld rfl rfl (lf (x := .int .i64 x.price) sc3 (gr_get (by simpa using hx)) rfl) rfl ?_
 refine tk rfl (PE.gtr rfl rfl) rfl ?_
 refine sy_cond rfl (fun hc5 => ?_) (fun hc5 => ?_)
 try simp only [decide_eq_true_eq, decide_eq_false_iff_not, Bool.and_eq_true, Bool.or_eq_true, Bool.not_eq_true', Int.not_le, Int.not_lt] at hc5
 have hres : g.check = 4 := by rw [hor, not_sorted hx (by rw [show i - 1 + 1 = i from by omega]; exact hy) (by omega)]; rfl
 refine sy_seq ?_
 refine sy_tx' [0] rfl ?_
 refine sp rfl (PE.assign rfl) rfl ?_
 refine sy_ret ?_
 exact sy_return (vs := [_]) rfl (.cons (RV.tmp rfl) .nil) rfl ⟨by rw [hres]; rfl, rfl, rfl⟩ drp
 try simp only [decide_eq_true_eq, decide_eq_false_iff_not, Bool.and_eq_true, Bool.or_eq_true, Bool.not_eq_true', Int.not_le, Int.not_lt] at hc5
 have hnb : grBad g.grs (i - 1) = false := by unfold grBad; rw [hx, show i - 1 + 1 = i from by omega, hy]; exact decide_eq_false (by omega)
 refine sy_skip ?_
 refine sy_tx' [0, 1, 2] rfl ?_
 refine sp rfl (PE.move rfl) rfl ?_
 refine sp rfl (PE.add rfl rfl (by omega)) rfl ?_
 refine sp rfl (PE.assign rfl) rfl ?_
 exact sy_next ⟨i + 1, by omega, by omega, fun j h1 h2 => by rcases Nat.lt_or_ge (j + 1) i with h3 | h3; exact hno j h3 h2; rw [show j = i - 1 from (by omega)]; exact hnb⟩ (by dsimp only; omega) (by repeat' first | exact Sub.nil | apply Sub.cons | rfl | (simp [lk]; omega)) (fun _ h => h)
 try simp only [decide_eq_true_eq, decide_eq_false_iff_not, Bool.and_eq_true, Bool.or_eq_true, Bool.not_eq_true', Int.not_le, Int.not_lt] at hc4
 have hres : g.check = 0 := by rw [hor, bad_none (fun j h1 => hno j (by omega) h1)]; rfl
 refine sy_exit ?_
 repeat refine sy_tx ?_
 refine sy_bx ?_
 refine sy_seq ?_
 refine sy_tx' [0] rfl ?_
 refine sp rfl (PE.assign rfl) rfl ?_
 refine sy_ret ?_
 exact sy_return (vs := [_]) rfl (.cons (RV.tmp rfl) .nil) rfl ⟨by rw [hres]; rfl, rfl, rfl⟩ drp
theorem c_total (h : Hnd) (hb : ∀ k < 4, -1000000000000000000 ≤ nn h.gs k ∧ nn h.gs k ≤ 1000000000000000000) (H : Heap) (R : Facts) :
    FnV Try.prog 100 [.agg (hrow h).toArray] H R (.int .i64 h.tot) := by
 refine fn_of Try.func100 rfl Try.ntmps100 rfl ?_
 refine sy_seq ?_
 refine sy_tx' [0, 1] rfl ?_
 refine bx rfl rfl rfl (fun b1 => ?_)
 refine sp rfl (PE.assign rfl) rfl ?_
 refine sy_seq ?_
 refine sy_tx' [0] rfl ?_
 refine sp rfl (PE.assign rfl) rfl ?_
 refine sy_seq ?_
 refine sy_seq ?_
 refine sy_tx' [0] rfl ?_
 refine sp rfl (PE.assign rfl) rfl ?_
 refine sy_block ?_
 refine sy_loop (ι := {k : Nat // k ≤ 4}) (fun k => ⟨[(1, .pointer (some ⟨b1, 0, none⟩)), (3, .int .i64 (totN h k.1)), (4, .int .i64 k.1)], (b1, cel 85 (hrow h)) :: H, R⟩) (fun k => 4 - k.1) ⟨0, by omega⟩ ?_ (fun k => ?_)
 exact sy_at (by repeat' first | exact Sub.nil | apply Sub.cons | rfl | (simp [lk]; omega)) (fun _ h => h)
 obtain ⟨k, hk⟩ := k
 dsimp only at hk ⊢
 have ht := totN_bd (h := h) (B := 1000000000000000000) hb (by omega) k hk
 refine sy_seq ?_
 refine sy_seq ?_
 refine sy_tx' [0, 1] rfl ?_
 refine sp rfl (PE.move rfl) rfl ?_
 refine sp rfl (PE.lss rfl rfl) rfl ?_
 refine sy_cond rfl (fun hc0 => ?_) (fun hc0 => ?_)
 try simp only [decide_eq_true_eq, decide_eq_false_iff_not, Bool.and_eq_true, Bool.or_eq_true, Bool.not_eq_true', Int.not_le, Int.not_lt] at hc0
 have hk4 : k < 4 := by omega
 have hbk := hb k hk4
 have ht2 := totN_bd (h := h) (B := 1000000000000000000) hb (by omega) (k + 1) (by omega)
 refine sy_skip ?_
 refine sy_seq ?_
 refine sy_block ?_
 refine sy_tx' [0, 1, 2, 3, 4, 5, 6] rfl ?_
 refine sp rfl (PE.move rfl) rfl ?_
 refine sp rfl (PE.move rfl) rfl ?_
 refine sp rfl (PE.fieldAddr fo85_1 rfl) rfl ?_
 refine sp rfl (PE.indexArr ar29 rfl rfl (by omega) (by omega)) rfl ?_
 refine spL rfl rfl (lh sc3 rfl (hrow_at hk4)) rfl ?_
 refine sp rfl (PE.add rfl rfl (by omega)) rfl ?_
 refine sp rfl (PE.assign rfl) rfl ?_
 refine sy_tx' [0, 1, 2] rfl ?_
 refine sp rfl (PE.move rfl) rfl ?_
 refine sp rfl (PE.add rfl rfl (by omega)) rfl ?_
 refine sp rfl (PE.assign rfl) rfl ?_
 exact sy_next ⟨k + 1, by omega⟩ (by dsimp only; omega) (by repeat' first | exact Sub.nil | apply Sub.cons | rfl | (simp [lk]; omega)) (fun _ h => h)
 try simp only [decide_eq_true_eq, decide_eq_false_iff_not, Bool.and_eq_true, Bool.or_eq_true, Bool.not_eq_true', Int.not_le, Int.not_lt] at hc0
 obtain rfl : k = 4 := by omega
 rw [totN_4]
 refine sy_exit ?_
 repeat refine sy_tx ?_
 refine sy_bx ?_
 refine sy_seq ?_
 refine sy_tx' [0, 1] rfl ?_
 refine sp rfl (PE.move rfl) rfl ?_
 refine sp rfl (PE.assign rfl) rfl ?_
 refine sy_ret ?_
 exact sy_return (vs := [_]) rfl (.cons (RV.tmp rfl) .nil) rfl ⟨rfl, rfl, rfl⟩ drp
theorem c_rCart (c : Crt) (ah : Option Addr) (ch : Nat) (hlh : c.hs.length ≤ 9223372036854775807) (H : Heap) (R : Facts) [hA : MemRows ah 5 (hrows c.hs) R] :
    FnV Try.prog 46 [c.v (c.sl ah ch)] H R (.int .i64 c.check) := by
 refine fn_of Try.func46 rfl Try.ntmps46 rfl ?_
 refine sy_seq ?_
 refine sy_tx' [0, 1] rfl ?_
 refine bx rfl rfl rfl (fun b1 => ?_)
 refine sp rfl (PE.assign rfl) rfl ?_
 refine sy_seq ?_
 refine sy_seq ?_
 refine sy_tx' [0, 1, 2, 3] rfl ?_
 refine sp rfl (PE.fieldAddr fo63_2 rfl) rfl ?_
 refine spL rfl rfl (lh sc61 rfl rfl) rfl ?_
 refine sp rfl (PE.lenSl isl61 rfl) rfl ?_
 refine sp rfl (PE.gtr rfl rfl) rfl ?_
 refine sy_cond rfl (fun hc0 => ?_) (fun hc0 => ?_)
 try simp only [decide_eq_true_eq, decide_eq_false_iff_not, Bool.and_eq_true, Bool.or_eq_true, Bool.not_eq_true', Int.not_le, Int.not_lt] at hc0
 have hres := cck_many (c := c) (by omega)
 refine sy_seq ?_
 refine sy_tx' [0] rfl ?_
 refine sp rfl (PE.assign rfl) rfl ?_
 refine sy_ret ?_
 exact sy_return (vs := [_]) rfl (.cons (RV.tmp rfl) .nil) rfl ⟨by rw [hres]; rfl, rfl, rfl⟩ drp
 try simp only [decide_eq_true_eq, decide_eq_false_iff_not, Bool.and_eq_true, Bool.or_eq_true, Bool.not_eq_true', Int.not_le, Int.not_lt] at hc0
 have h6 : ¬ 6 < c.hs.length := by omega
 refine sy_skip ?_
 refine sy_seq ?_
 refine sy_seq ?_
 refine sy_tx' [0, 1, 2, 3, 4, 5, 6, 7] rfl ?_
 refine sp rfl (PE.fieldAddr fo63_0 rfl) rfl ?_
 refine spL rfl rfl (lh sc3 rfl rfl) rfl ?_
 refine clV rfl cal85 rfl rfl (c_off _ _ _ _ _) ?_
 refine sp rfl (PE.move rfl) rfl ?_
 refine sy_case (t := 14) rfl (fun g14 => ?_) (fun g14 => ?_)
 have hb : inb c.full 0 10000 = false := by rw [← Bool.not_eq_true']; exact g14
 have hres := cck_rng h6 (.inl hb)
 repeat refine spN rfl rfl rfl rfl rfl rfl rfl rfl ?_
 refine sp rfl (PE.pick rfl rfl rfl) rfl ?_
 refine sy_condT rfl ?_
 refine sy_seq ?_
 refine sy_tx' [0] rfl ?_
 refine sp rfl (PE.assign rfl) rfl ?_
 refine sy_ret ?_
 exact sy_return (vs := [_]) rfl (.cons (RV.tmp rfl) .nil) rfl ⟨by rw [hres]; rfl, rfl, rfl⟩ drp
 have hf : inb c.full 0 10000 = true := by rw [← Bool.not_eq_false']; exact g14
 refine spG rfl rfl rfl rfl (PE.fieldAddr fo63_1 rfl) rfl ?_
 refine spLG rfl rfl rfl rfl rfl (lh sc3 rfl rfl) rfl ?_
 refine clVG rfl rfl rfl rfl cal85 rfl rfl (c_off _ _ _ _ _) ?_
 refine sp rfl (PE.pick rfl rfl rfl) rfl ?_
 refine sy_cond rfl (fun hc1 => ?_) (fun hc1 => ?_)
 have hb : inb c.empty 0 10000 = false := by rw [← Bool.not_eq_true']; exact hc1
 have hres := cck_rng h6 (.inr hb)
 refine sy_seq ?_
 refine sy_tx' [0] rfl ?_
 refine sp rfl (PE.assign rfl) rfl ?_
 refine sy_ret ?_
 exact sy_return (vs := [_]) rfl (.cons (RV.tmp rfl) .nil) rfl ⟨by rw [hres]; rfl, rfl, rfl⟩ drp
 have he : inb c.empty 0 10000 = true := by rw [← Bool.not_eq_false']; exact hc1
 refine sy_skip ?_
 refine sy_seq ?_
 refine sy_seq ?_
 refine sy_tx' [0] rfl ?_
 refine sp rfl (PE.assign rfl) rfl ?_
 refine sy_block ?_
 refine sy_loop (ι := {i : Nat // i ≤ c.hs.length ∧ (c.hs.take i).all Hnd.fine = true}) (fun i => ⟨[(1, .pointer (some ⟨b1, 0, none⟩)), (3, .int .i64 i.1)], (b1, cel 63 (ctl c (c.sl ah ch))) :: H, R⟩) (fun i => c.hs.length - i.1) ⟨0, by simp⟩ ?_ (fun i => ?_)
 exact sy_at (by repeat' first | exact Sub.nil | apply Sub.cons | rfl | (simp [lk]; omega)) (fun _ h => h)
 obtain ⟨i, hi, hn⟩ := i
 dsimp only at hi hn ⊢
 refine sy_seq ?_
 refine sy_seq ?_
 refine sy_tx' [0, 1, 2, 3, 4] rfl ?_
 refine sp rfl (PE.move rfl) rfl ?_
 refine sp rfl (PE.fieldAddr fo63_2 rfl) rfl ?_
 refine spL rfl rfl (lh sc61 rfl rfl) rfl ?_
 refine sp rfl (PE.lenSl isl61 rfl) rfl ?_
 refine sp rfl (PE.lss rfl rfl) rfl ?_
 refine sy_cond rfl (fun hc2 => ?_) (fun hc2 => ?_)
 try simp only [decide_eq_true_eq, decide_eq_false_iff_not, Bool.and_eq_true, Bool.or_eq_true, Bool.not_eq_true', Int.not_le, Int.not_lt] at hc2
 obtain ⟨x, hx⟩ : ∃ x, c.hs[i]? = some x := ⟨_, List.getElem?_eq_getElem (by omega)⟩
 refine sy_addr (a := ah) (sz := 5) (rows := hrows c.hs) (by intro h0; simp [hrows] at h0; simp [h0] at hx) (fun ba oa hea => ?_)
 subst hea
 refine sy_skip ?_
 refine sy_seq ?_
 refine sy_block ?_
 refine sy_seq ?_
 refine sy_tx' [0, 1, 2, 3, 4, 5, 6] rfl ?_
 refine sp rfl (PE.fieldAddr fo63_2 rfl) rfl ?_
 refine spL rfl rfl (lh sc61 rfl rfl) rfl ?_
 refine sp rfl (PE.move rfl) rfl ?_
 refine sp rfl (PE.indexAddr el61 rfl rfl (by omega) (by omega)) rfl ?_
 refine spL rfl rfl (lfA ag85 (row := hrow x) (hr_get (by simpa using hx)) rfl) rfl ?_
 refine alc rfl zl85 rfl (fun b4 => ?_)
 refine sto rfl rfl rfl cn85 rfl rfl rfl rfl ?_
 refine sy_seq ?_
 refine sy_seq ?_
 refine sy_tx' [0, 1, 2] rfl ?_
 refine sp rfl (PE.fieldAddr fo85_0 rfl) rfl ?_
 refine spL rfl rfl (lh sc3 rfl rfl) rfl ?_
 refine clV rfl cal85 rfl rfl (c_off _ _ _ _ _) ?_
 refine sy_cond rfl (fun hc3 => ?_) (fun hc3 => ?_)
 have hb : inb x.spot 0 2 = false := by rw [← Bool.not_eq_true']; exact hc3
 have hres := cck_hnd h6 hf he (all_bad hx (by unfold Hnd.fine; rw [hb]; rfl))
 refine sy_seq ?_
 refine sy_tx' [0] rfl ?_
 refine sp rfl (PE.assign rfl) rfl ?_
 refine sy_ret ?_
 exact sy_return (vs := [_]) rfl (.cons (RV.tmp rfl) .nil) rfl ⟨by rw [hres]; rfl, rfl, rfl⟩ drp
 have q1 : inb x.spot 0 2 = true := by rw [← Bool.not_eq_false']; exact hc3
 refine sy_skip ?_
 refine sy_seq ?_
 refine sy_tx' [0] rfl ?_
 refine sp rfl (PE.assign rfl) rfl ?_
 refine sy_block ?_
 refine sy_loop (ι := {k : Nat // k ≤ 4 ∧ ∀ j < k, inb (nn x.gs j) 0 200 = true}) (fun k => ⟨[(1, .pointer (some ⟨b1, 0, none⟩)), (3, .int .i64 i), (4, .pointer (some ⟨b4, 0, none⟩)), (5, .int .i64 k.1)], (b4, cel 85 (hrow x)) :: (b1, cel 63 (ctl c (c.sl (some ⟨ba, oa, none⟩) ch))) :: H, R⟩) (fun k => 4 - k.1) ⟨0, by omega, fun j h => by omega⟩ ?_ (fun k => ?_)
 exact sy_at (by repeat' first | exact Sub.nil | apply Sub.cons | rfl | (simp [lk]; omega)) (fun _ h => h)
 obtain ⟨k, hk, hkn⟩ := k
 dsimp only at hk hkn ⊢
 refine sy_seq ?_
 refine sy_seq ?_
 refine sy_tx' [0, 1] rfl ?_
 refine sp rfl (PE.move rfl) rfl ?_
 refine sp rfl (PE.lss rfl rfl) rfl ?_
 refine sy_cond rfl (fun hc4 => ?_) (fun hc4 => ?_)
 try simp only [decide_eq_true_eq, decide_eq_false_iff_not, Bool.and_eq_true, Bool.or_eq_true, Bool.not_eq_true', Int.not_le, Int.not_lt] at hc4
 have hk4 : k < 4 := by omega
 refine sy_skip ?_
 refine sy_seq ?_
 refine sy_block ?_
 refine sy_seq ?_
 refine sy_tx' [0, 1, 2, 3, 4] rfl ?_
 refine sp rfl (PE.move rfl) rfl ?_
 refine sp rfl (PE.fieldAddr fo85_1 rfl) rfl ?_
 refine sp rfl (PE.indexArr ar29 rfl rfl (by omega) (by omega)) rfl ?_
 refine spL rfl rfl (lh sc3 rfl (hrow_at hk4)) rfl ?_
 refine clV rfl cal85 rfl rfl (c_off _ _ _ _ _) ?_
 refine sy_cond rfl (fun hc5 => ?_) (fun hc5 => ?_)
 have hb : inb (nn x.gs k) 0 200 = false := by rw [← Bool.not_eq_true']; exact hc5
 have hres := cck_hnd h6 hf he (all_bad hx (by unfold Hnd.fine; rw [gs_bad hk4 hb, Bool.and_false]))
 refine sy_seq ?_
 refine sy_tx' [0] rfl ?_
 refine sp rfl (PE.assign rfl) rfl ?_
 refine sy_ret ?_
 exact sy_return (vs := [_]) rfl (.cons (RV.tmp rfl) .nil) rfl ⟨by rw [hres]; rfl, rfl, rfl⟩ drp
 have q2 : inb (nn x.gs k) 0 200 = true := by rw [← Bool.not_eq_false']; exact hc5
 refine sy_skip ?_
 refine sy_tx' [0, 1, 2] rfl ?_
 refine sp rfl (PE.move rfl) rfl ?_
 refine sp rfl (PE.add rfl rfl (by omega)) rfl ?_
 refine sp rfl (PE.assign rfl) rfl ?_
 exact sy_next ⟨k + 1, by omega, fun j hj => by rcases Nat.lt_succ_iff_lt_or_eq.1 hj with h1 | rfl; exact hkn j h1; exact q2⟩ (by dsimp only; omega) (by repeat' first | exact Sub.nil | apply Sub.cons | rfl | (simp [lk]; omega)) (fun _ h => h)
 try simp only [decide_eq_true_eq, decide_eq_false_iff_not, Bool.and_eq_true, Bool.or_eq_true, Bool.not_eq_true', Int.not_le, Int.not_lt] at hc4
 obtain rfl : k = 4 := by omega
 have hxf : x.fine = true := by unfold Hnd.fine; rw [q1, gs_all hkn]; rfl
 refine sy_exit ?_
 repeat refine sy_tx ?_
 refine sy_bx ?_
 refine sy_tx' [0, 1, 2] rfl ?_
 refine sp rfl (PE.move rfl) rfl ?_
 refine sp rfl (PE.add rfl rfl (by omega)) rfl ?_
 refine sp rfl (PE.assign rfl) rfl ?_
 exact sy_next ⟨i + 1, by omega, all_more hx hn hxf⟩ (by dsimp only; omega) (by repeat' first | exact Sub.nil | apply Sub.cons | rfl | (simp [lk]; omega)) (fun w h => h.del b4)
 try simp only [decide_eq_true_eq, decide_eq_false_iff_not, Bool.and_eq_true, Bool.or_eq_true, Bool.not_eq_true', Int.not_le, Int.not_lt] at hc2
 obtain rfl : i = c.hs.length := by omega
 rw [List.take_length] at hn
 have hto := cck_tot h6 hf he hn
 refine sy_exit ?_
 repeat refine sy_tx ?_
 refine sy_bx ?_
 refine sy_seq ?_
 refine sy_seq ?_
 refine sy_tx' [0] rfl ?_
 refine sp rfl (PE.assign rfl) rfl ?_
 refine sy_block ?_
 refine sy_loop (ι := {i : Nat // i ≤ c.hs.length ∧ ((c.hs.take i).all fun h => inb h.tot 10 200) = true}) (fun i => ⟨[(1, .pointer (some ⟨b1, 0, none⟩)), (6, .int .i64 i.1)], (b1, cel 63 (ctl c (c.sl ah ch))) :: H, R⟩) (fun i => c.hs.length - i.1) ⟨0, by simp⟩ ?_ (fun i => ?_)
 exact sy_at (by repeat' first | exact Sub.nil | apply Sub.cons | rfl | (simp [lk]; omega)) (fun _ h => h)
 obtain ⟨i, hi, hm⟩ := i
 dsimp only at hi hm ⊢
 refine sy_seq ?_
 refine sy_seq ?_
 refine sy_tx' [0, 1, 2, 3, 4] rfl ?_
 refine sp rfl (PE.move rfl) rfl ?_
 refine sp rfl (PE.fieldAddr fo63_2 rfl) rfl ?_
 refine spL rfl rfl (lh sc61 rfl rfl) rfl ?_
 refine sp rfl (PE.lenSl isl61 rfl) rfl ?_
 refine sp rfl (PE.lss rfl rfl) rfl ?_
 refine sy_cond rfl (fun hc6 => ?_) (fun hc6 => ?_)
 try simp only [decide_eq_true_eq, decide_eq_false_iff_not, Bool.and_eq_true, Bool.or_eq_true, Bool.not_eq_true', Int.not_le, Int.not_lt] at hc6
 obtain ⟨x, hx⟩ : ∃ x, c.hs[i]? = some x := ⟨_, List.getElem?_eq_getElem (by omega)⟩
 have hxb := hfine_bd (List.all_eq_true.1 hn x (List.mem_of_getElem? hx))
 refine sy_addr (a := ah) (sz := 5) (rows := hrows c.hs) (by intro h0; simp [hrows] at h0; simp [h0] at hx) (fun ba oa hea => ?_)
 subst hea
 refine sy_skip ?_
 refine sy_seq ?_
 refine sy_block ?_
 refine sy_seq ?_
 refine sy_tx' [0, 1, 2, 3, 4, 5, 6] rfl ?_
 refine sp rfl (PE.fieldAddr fo63_2 rfl) rfl ?_
 refine spL rfl rfl (lh sc61 rfl rfl) rfl ?_
 refine sp rfl (PE.move rfl) rfl ?_
 refine sp rfl (PE.indexAddr el61 rfl rfl (by omega) (by omega)) rfl ?_
 refine spL rfl rfl (lfA ag85 (row := hrow x) (hr_get (by simpa using hx)) rfl) rfl ?_
 refine clV rfl cal100 rfl rfl (c_total x (fun k hk => by have := hxb k hk; omega) _ _) ?_
 refine clV rfl cal85 rfl rfl (c_off _ _ _ _ _) ?_
 refine sy_cond rfl (fun hc7 => ?_) (fun hc7 => ?_)
 have hb : inb x.tot 10 200 = false := by rw [← Bool.not_eq_true']; exact hc7
 have hres : c.check = 8 := by rw [hto, all_bad hx (p := fun h => inb h.tot 10 200) hb]; rfl
 refine sy_seq ?_
 refine sy_tx' [0] rfl ?_
 refine sp rfl (PE.assign rfl) rfl ?_
 refine sy_ret ?_
 exact sy_return (vs := [_]) rfl (.cons (RV.tmp rfl) .nil) rfl ⟨by rw [hres]; rfl, rfl, rfl⟩ drp
 have q3 : inb x.tot 10 200 = true := by rw [← Bool.not_eq_false']; exact hc7
 refine sy_skip ?_
 refine sy_tx' [0, 1, 2] rfl ?_
 refine sp rfl (PE.move rfl) rfl ?_
 refine sp rfl (PE.add rfl rfl (by omega)) rfl ?_
 refine sp rfl (PE.assign rfl) rfl ?_
 exact sy_next ⟨i + 1, by omega, all_more hx hm q3⟩ (by dsimp only; omega) (by repeat' first | exact Sub.nil | apply Sub.cons | rfl | (simp [lk]; omega)) (fun _ h => h)
 try simp only [decide_eq_true_eq, decide_eq_false_iff_not, Bool.and_eq_true, Bool.or_eq_true, Bool.not_eq_true', Int.not_le, Int.not_lt] at hc6
 obtain rfl : i = c.hs.length := by omega
 rw [List.take_length] at hm
 have hres : c.check = 0 := by rw [hto, hm]; rfl
 refine sy_exit ?_
 repeat refine sy_tx ?_
 refine sy_bx ?_
 refine sy_seq ?_
 refine sy_tx' [0] rfl ?_
 refine sp rfl (PE.assign rfl) rfl ?_
 refine sy_ret ?_
 exact sy_return (vs := [_]) rfl (.cons (RV.tmp rfl) .nil) rfl ⟨by rw [hres]; rfl, rfl, rfl⟩ drp
theorem c_rBoth (g : Gat) (ag : Option Addr) (cg : Nat) (hlg : g.grs.length ≤ 9223372036854775807) (c : Crt) (ah : Option Addr) (ch : Nat) (hlh : c.hs.length ≤ 9223372036854775807) (H : Heap) (R : Facts) [hG : MemRows ag 5 (grows g.grs) R] [hA : MemRows ah 5 (hrows c.hs) R] :
    FnV Try.prog 29 [g.v (g.sl ag cg), c.v (c.sl ah ch)] H R (.int .i64 (bothE g c)) := by
 refine fn_of Try.func29 rfl Try.ntmps29 rfl ?_
 refine sy_seq ?_
 refine sy_tx' [0, 1, 2] rfl ?_
 refine bx rfl rfl rfl (fun b2 => ?_)
 refine bx rfl rfl rfl (fun b3 => ?_)
 refine sp rfl (PE.assign rfl) rfl ?_
 refine sy_seq ?_
 refine sy_seq ?_
 refine sy_tx' [0, 1, 2] rfl ?_
 refine spL rfl rfl (lhA [_, _, _] ag59 rfl rfl rfl) rfl ?_
 refine clV rfl cal44 rfl rfl (c_rCheck g ag cg hlg _ _) ?_
 refine sp rfl (PE.assign rfl) rfl ?_
 refine sy_seq ?_
 refine sy_tx' [0, 1] rfl ?_
 refine sp rfl (PE.move rfl) rfl ?_
 refine sp rfl (PE.neq rfl rfl) rfl ?_
 refine sy_cond rfl (fun hc0 => ?_) (fun hc0 => ?_)
 try simp only [decide_eq_true_eq, decide_eq_false_iff_not, Bool.and_eq_true, Bool.or_eq_true, Bool.not_eq_true', Int.not_le, Int.not_lt] at hc0
 have hres : bothE g c = g.check := by simp [bothE, hc0]
 refine sy_seq ?_
 refine sy_tx' [0, 1] rfl ?_
 refine sp rfl (PE.move rfl) rfl ?_
 refine sp rfl (PE.assign rfl) rfl ?_
 refine sy_ret ?_
 exact sy_return (vs := [_]) rfl (.cons (RV.tmp rfl) .nil) rfl ⟨by rw [hres]; rfl, rfl, rfl⟩ drp
 try simp only [decide_eq_true_eq, decide_eq_false_iff_not, Bool.and_eq_true, Bool.or_eq_true, Bool.not_eq_true', Int.not_le, Int.not_lt] at hc0
 have hres : bothE g c = c.check := by simp [bothE, hc0]
 refine sy_skip ?_
 refine sy_seq ?_
 refine sy_tx' [0, 1, 2] rfl ?_
 refine spL rfl rfl (lhA [_, _, _] ag63 rfl rfl rfl) rfl ?_
 refine clV rfl cal46 rfl rfl (c_rCart c ah ch hlh _ _) ?_
 refine sp rfl (PE.assign rfl) rfl ?_
 refine sy_ret ?_
 exact sy_return (vs := [_]) rfl (.cons (RV.tmp rfl) .nil) rfl ⟨by rw [hres]; rfl, rfl, rfl⟩ drp
end Go.Proofs.Ytknoaljnelfklaa
namespace Go.Proofs.Ytknoaljnelfklaa
set_option linter.unusedSimpArgs false
set_option linter.unusedVariables false
open Go
theorem cal24 : cal Try.prog 24 = true := by kernel_rfl
theorem cal27 : cal Try.prog 27 = true := by kernel_rfl
theorem cal28 : cal Try.prog 28 = true := by kernel_rfl
theorem cal39 : cal Try.prog 39 = true := by kernel_rfl
theorem cal40 : cal Try.prog 40 = true := by kernel_rfl
theorem OSl.mk1 {e b n : Nat} {hs : List Hnd} (hn : hs.length = n) (hm : n ≤ 1000) : ∃ o : OSl e 5 (hrows hs), o.fs = .slice (some ⟨b, 0, none⟩) n n ∧ o.G = [(b, cel e ((hrows hs).flatten ++ []))] := by
  subst hn
  exact ⟨⟨.slice (some ⟨b, 0, none⟩) hs.length hs.length, [(b, cel e ((hrows hs).flatten ++ []))], hrows_len _, .inr ⟨b, hs.length, [], by rw [hr_len], rfl, by rw [hr_len]; rfl, by rw [hr_len]; exact Nat.le_refl _, by omega⟩⟩, rfl, rfl⟩
end Go.Proofs.Ytknoaljnelfklaa
namespace Go.Proofs.Ytknoaljnelfklaa
set_option linter.unusedSimpArgs false
set_option linter.unusedVariables false
open Go
theorem cal104 : cal Try.prog 104 = true := by kernel_rfl
theorem cal82 : cal Try.prog 82 = true := by kernel_rfl
theorem sumT_part {m : Mix} : ∀ {k : Nat}, k ≤ 4 → (∀ j < k, 0 ≤ nn m j ∧ nn m j ≤ 40) → 0 ≤ sumT m k ∧ sumT m k ≤ 40 * k
  | 0, _, _ => by simp [sumT]
  | k + 1, hk, h => by
    have h1 := sumT_part (k := k) (by omega) (fun j hj => h j (by omega))
    have h2 := h k (by omega)
    simp only [sumT]; omega
theorem fit_at {miss : Int} {h : Hnd} {m : Mix} {k : Nat} (hk : k < 4) (hb : letB miss h k (nn m k) = false) : fitB miss h m = false := by
  unfold fitB; rw [List.all_eq_false]; exact ⟨k, List.mem_range.2 hk, by rw [hb]; simp⟩
theorem fit_of {miss : Int} {h : Hnd} {m : Mix} (hb : ∀ k < 4, letB miss h k (nn m k) = true) : fitB miss h m = true := by
  unfold fitB; rw [List.all_eq_true]; exact fun k hk => hb k (List.mem_range.1 hk)
theorem mix_rng {m : Mix} (hm : m.length = 4) {k : Nat} (hk : k < 4) (hb : inb (nn m k) 0 40 = false) : mixE m = 3 := by
  unfold mixE
  rw [show (m.all fun n => inb n 0 40) = false from by
    rw [List.all_eq_false]
    refine ⟨nn m k, ?_, by rw [hb]; simp⟩
    obtain ⟨a, b, c, d, rfl⟩ := list4 hm
    rcases lt4 hk with rfl | rfl | rfl | rfl <;> simp [nn]]
  rfl
theorem mix_all {m : Mix} (hm : m.length = 4) (hb : ∀ k < 4, inb (nn m k) 0 40 = true) : mixE m = bif decide (sumT m 4 ≠ 40) then 8 else 0 := by
  unfold mixE
  have e : sum4 m = sumT m 4 := by simp [sum4, sumT]
  rw [show (m.all fun n => inb n 0 40) = true from by
    obtain ⟨a, b, c, d, rfl⟩ := list4 hm
    have h0 := hb 0 (by omega); have h1 := hb 1 (by omega); have h2 := hb 2 (by omega); have h3 := hb 3 (by omega)
    simp only [nn, List.getD_cons_zero, List.getD_cons_succ] at h0 h1 h2 h3
    simp only [List.all_cons, List.all_nil, h0, h1, h2, h3]; rfl, e]
  rfl
theorem c_rNet (g : Gat) (hg : g.ok) (sg : Value) (c : Crt) (hc : c.ok) (sc : Value) (H : Heap) (R : Facts) :
    FnV Try.prog 49 [g.v sg, c.v sc] H R (spv (netP g c).1 (netP g c).2) := by
 refine fn_of Try.func49 rfl Try.ntmps49 rfl ?_
 refine sy_seq ?_
 refine sy_tx' [0, 1, 2] rfl ?_
 refine bx rfl rfl rfl (fun b2 => ?_)
 refine bx rfl rfl rfl (fun b3 => ?_)
 refine alc rfl zl41 rfl (fun b4 => ?_)
 refine sy_seq ?_
 refine sy_tx' [0, 1, 2, 3, 4, 5, 6, 7, 8, 9, 10, 11, 12, 13, 14, 15, 16, 17, 18, 19, 20, 21] rfl ?_
 refine sp rfl (PE.fieldAddr fo63_0 rfl) rfl ?_
 refine spL rfl rfl (lh sc3 rfl rfl) rfl ?_
 refine sp rfl (PE.fieldAddr fo63_1 rfl) rfl ?_
 refine spL rfl rfl (lh sc3 rfl rfl) rfl ?_
 refine sp rfl (PE.sub rfl rfl (by have := hc.full; have := hc.empty; have := hg.err; omega)) rfl ?_
 refine sp rfl (PE.fieldAddr fo59_0 rfl) rfl ?_
 refine spL rfl rfl (lh sc3 rfl rfl) rfl ?_
 refine sp rfl (PE.mul rfl rfl (by have := hc.full; have := hc.empty; have := hg.err; omega)) rfl ?_
 refine sp rfl (PE.sub rfl rfl (by have := hc.full; have := hc.empty; have := hg.err; omega)) rfl ?_
 refine sp rfl (PE.max rfl rfl) rfl ?_
 refine sp rfl (PE.fieldAddr fo63_0 rfl) rfl ?_
 refine spL rfl rfl (lh sc3 rfl rfl) rfl ?_
 refine sp rfl (PE.fieldAddr fo63_1 rfl) rfl ?_
 refine spL rfl rfl (lh sc3 rfl rfl) rfl ?_
 refine sp rfl (PE.sub rfl rfl (by have := hc.full; have := hc.empty; have := hg.err; omega)) rfl ?_
 refine sp rfl (PE.fieldAddr fo59_0 rfl) rfl ?_
 refine spL rfl rfl (lh sc3 rfl rfl) rfl ?_
 refine sp rfl (PE.mul rfl rfl (by have := hc.full; have := hc.empty; have := hg.err; omega)) rfl ?_
 refine sp rfl (PE.add rfl rfl (by have := hc.full; have := hc.empty; have := hg.err; omega)) rfl ?_
 refine sp rfl (PE.max rfl rfl) rfl ?_
 refine sp rfl (PE.build (out := [_, _]) pl41 zl41 rfl rfl) rfl ?_
 refine sto rfl rfl rfl cn41 rfl rfl rfl rfl ?_
 refine sy_ret ?_
 exact sy_return (vs := [_]) rfl (.cons (RV.cell rfl (lhA [_, _] ag41 rfl rfl rfl)) .nil) rfl ⟨rfl, rfl, rfl⟩ drp
theorem c_rlet (g : Gat) (hg : 0 ≤ g.miss ∧ g.miss ≤ 20) (sg : Value) (h : Hnd) (hh : h.ok) (k : Nat) (hk : k < 4) (x : Int) (hx : 0 ≤ x ∧ x ≤ 40) (H : Heap) (R : Facts) :
    FnV Try.prog 104 [g.v sg, .agg (hrow h).toArray, .int .i64 k, .int .i64 x] H R (.bool (letB g.miss h k x)) := by
 have ht := hh.tot
 have hat := hh.at_ k hk
 have hmu := mul_b hx.1 hx.2 (show 0 ≤ h.tot by omega) ht.2
 refine fn_of Try.func104 rfl Try.ntmps104 rfl ?_
 refine sy_seq ?_
 refine sy_tx' [0, 1, 2] rfl ?_
 refine bx rfl rfl rfl (fun b4 => ?_)
 refine bx rfl rfl rfl (fun b5 => ?_)
 refine sp rfl (PE.assign rfl) rfl ?_
 refine sy_seq ?_
 refine sy_draw [0, 0, 2, 7, 0, 0, 48, 112, 240, 511, 1023] (.tk 0 (.ld 1 (.tk 4 (.tk 5 (.tk 6 (.ld 7 (.tk 8 (.big 2 (.tk 3 (.tk 9 (.tk 10 .done))))))))))) mixed (by kernel_rfl) ?_
 refine tk rfl (PE.move rfl) rfl ?_
 refine ld rfl rfl (lhA (hrow h) ag85 rfl (rest := []) (by rw [List.append_nil]; rfl) rfl) rfl ?_
 refine tk rfl (PE.move rfl) rfl ?_
 refine tk rfl (PE.fieldAddr fo85_1 rfl) rfl ?_
 refine tk rfl (PE.indexArr ar29 rfl rfl (by omega) (by omega)) rfl ?_
 refine ld rfl rfl (lh sc3 rfl (hrow_at hk)) rfl ?_
 refine tk rfl (PE.mul rfl rfl (by omega)) rfl ?_
 refine clV rfl cal100 rfl rfl (c_total h (fun k hk => by have := hh.at_ k hk; omega) _ _) ?_
 refine bg (fun w hs => ⟨(lh sc3 rfl (hrow_at hk)) w hs, trivial, trivial⟩) ?_
 refine tk rfl (PE.mul rfl rfl (by omega)) rfl ?_
 refine tk rfl (PE.sub rfl rfl (by omega)) rfl ?_
 refine tk rfl (PE.assign rfl) rfl ?_
 refine sy_seq ?_
 refine sy_tx' [0, 1, 2, 3, 4, 5, 6, 7, 8, 9, 10, 11, 12, 13] rfl ?_
 refine sp rfl (PE.move rfl) rfl ?_
 refine sp rfl (PE.fieldAddr fo59_1 rfl) rfl ?_
 refine spL rfl rfl (lh sc3 rfl rfl) rfl ?_
 refine sp rfl (PE.mul rfl rfl (by omega)) rfl ?_
 refine sp rfl (PE.leq rfl rfl) rfl ?_
 refine sp rfl (PE.move rfl) rfl ?_
 refine sy_case (t := 25) rfl (fun g25 => ?_) (fun g25 => ?_)
 try simp only [decide_eq_true_eq, decide_eq_false_iff_not, Bool.and_eq_true, Bool.or_eq_true, Bool.not_eq_true', Int.not_le, Int.not_lt] at g25
 have e : letB g.miss h k x = decide (-(x * h.tot - 40 * nn h.gs k) ≤ 40 * g.miss) := by unfold letB; rw [decide_eq_true (by omega), Bool.true_and]
 rw [← Int.zero_sub] at e
 refine spG rfl rfl rfl rfl (PE.move rfl) rfl ?_
 refine spG rfl rfl rfl rfl ((PE.negW rfl).to (by rw [wrap_i64_id (by omega) (by omega)])) rfl ?_
 refine spG rfl rfl rfl rfl (PE.fieldAddr fo59_1 rfl) rfl ?_
 refine spLG rfl rfl rfl rfl rfl (lh sc3 rfl rfl) rfl ?_
 refine spG rfl rfl rfl rfl (PE.mul rfl rfl (by omega)) rfl ?_
 refine spG rfl rfl rfl rfl (PE.leq rfl rfl) rfl ?_
 refine sp rfl (PE.pick rfl rfl rfl) rfl ?_
 refine sp rfl (PE.assign rfl) rfl ?_
 refine sy_ret ?_
 exact sy_return (vs := [_]) rfl (.cons (RV.tmp rfl) .nil) rfl ⟨by rw [e]; rfl, rfl, rfl⟩ drp
 try simp only [decide_eq_true_eq, decide_eq_false_iff_not, Bool.and_eq_true, Bool.or_eq_true, Bool.not_eq_true', Int.not_le, Int.not_lt] at g25
 have e : letB g.miss h k x = false := by unfold letB; rw [decide_eq_false (by omega), Bool.false_and]
 repeat refine spN rfl rfl rfl rfl rfl rfl rfl rfl ?_
 refine sp rfl (PE.pick rfl rfl rfl) rfl ?_
 refine sp rfl (PE.assign rfl) rfl ?_
 refine sy_ret ?_
 exact sy_return (vs := [_]) rfl (.cons (RV.tmp rfl) .nil) rfl ⟨by rw [e]; rfl, rfl, rfl⟩ drp
theorem c_rMixed (m : Mix) (hm : m.length = 4) (H : Heap) (R : Facts) :
    FnV Try.prog 36 [.agg (ints m).toArray] H R (.int .i64 (mixE m)) := by
 refine fn_of Try.func36 rfl Try.ntmps36 rfl ?_
 refine sy_seq ?_
 refine sy_tx' [0, 1] rfl ?_
 refine bx rfl rfl rfl (fun b1 => ?_)
 refine sp rfl (PE.assign rfl) rfl ?_
 refine sy_seq ?_
 refine sy_tx' [0] rfl ?_
 refine sp rfl (PE.assign rfl) rfl ?_
 refine sy_seq ?_
 refine sy_seq ?_
 refine sy_tx' [0] rfl ?_
 refine sp rfl (PE.assign rfl) rfl ?_
 refine sy_block ?_
 refine sy_loop (ι := {k : Nat // k ≤ 4 ∧ ∀ j < k, inb (nn m j) 0 40 = true}) (fun k => ⟨[(1, .pointer (some ⟨b1, 0, none⟩)), (3, .int .i64 (sumT m k.1)), (4, .int .i64 k.1)], (b1, cel 29 (ints m)) :: H, R⟩) (fun k => 4 - k.1) ⟨0, by omega, fun j h => by omega⟩ ?_ (fun k => ?_)
 exact sy_at (by repeat' first | exact Sub.nil | apply Sub.cons | rfl | (simp [lk]; omega)) (fun _ h => h)
 obtain ⟨k, hk, hn⟩ := k
 dsimp only at hk hn ⊢
 have hsb : 0 ≤ sumT m k ∧ sumT m k ≤ 40 * k := sumT_part hk (fun j hj => by simpa [inb] using hn j hj)
 refine sy_seq ?_
 refine sy_seq ?_
 refine sy_tx' [0, 1] rfl ?_
 refine sp rfl (PE.move rfl) rfl ?_
 refine sp rfl (PE.lss rfl rfl) rfl ?_
 refine sy_cond rfl (fun hc0 => ?_) (fun hc0 => ?_)
 try simp only [decide_eq_true_eq, decide_eq_false_iff_not, Bool.and_eq_true, Bool.or_eq_true, Bool.not_eq_true', Int.not_le, Int.not_lt] at hc0
 have hk4 : k < 4 := by omega
 refine sy_skip ?_
 refine sy_seq ?_
 refine sy_block ?_
 refine sy_seq ?_
 refine sy_seq ?_
 refine sy_tx' [0, 1, 2, 3] rfl ?_
 refine sp rfl (PE.move rfl) rfl ?_
 refine sp rfl (PE.indexArr ar29 rfl rfl (by omega) (by omega)) rfl ?_
 refine spL rfl rfl (lh sc3 rfl (mix_at hm hk4)) rfl ?_
 refine clV rfl cal85 rfl rfl (c_off _ _ _ _ _) ?_
 refine sy_cond rfl (fun hc1 => ?_) (fun hc1 => ?_)
 have hb : inb (nn m k) 0 40 = false := by rw [← Bool.not_eq_true']; exact hc1
 have hres := mix_rng hm hk4 hb
 refine sy_seq ?_
 refine sy_tx' [0] rfl ?_
 refine sp rfl (PE.assign rfl) rfl ?_
 refine sy_ret ?_
 exact sy_return (vs := [_]) rfl (.cons (RV.tmp rfl) .nil) rfl ⟨by rw [hres]; rfl, rfl, rfl⟩ drp
 have q1 : inb (nn m k) 0 40 = true := by rw [← Bool.not_eq_false']; exact hc1
 have q2 : 0 ≤ nn m k ∧ nn m k ≤ 40 := by simpa [inb] using q1
 refine sy_skip ?_
 refine sy_tx' [0, 1, 2, 3, 4, 5] rfl ?_
 refine sp rfl (PE.move rfl) rfl ?_
 refine sp rfl (PE.move rfl) rfl ?_
 refine sp rfl (PE.indexArr ar29 rfl rfl (by omega) (by omega)) rfl ?_
 refine spL rfl rfl (lh sc3 rfl (mix_at hm hk4)) rfl ?_
 refine sp rfl (PE.add rfl rfl (by omega)) rfl ?_
 refine sp rfl (PE.assign rfl) rfl ?_
 refine sy_tx' [0, 1, 2] rfl ?_
 refine sp rfl (PE.move rfl) rfl ?_
 refine sp rfl (PE.add rfl rfl (by omega)) rfl ?_
 refine sp rfl (PE.assign rfl) rfl ?_
 exact sy_next ⟨k + 1, by omega, fun j hj => by rcases Nat.lt_succ_iff_lt_or_eq.1 hj with h1 | rfl; exact hn j h1; exact q1⟩ (by dsimp only; omega) (by repeat' first | exact Sub.nil | apply Sub.cons | rfl | (simp [lk]; omega)) (fun _ h => h)
 try simp only [decide_eq_true_eq, decide_eq_false_iff_not, Bool.and_eq_true, Bool.or_eq_true, Bool.not_eq_true', Int.not_le, Int.not_lt] at hc0
 obtain rfl : k = 4 := by omega
 have hma := mix_all hm hn
 refine sy_exit ?_
 repeat refine sy_tx ?_
 refine sy_bx ?_
 refine sy_seq ?_
 refine sy_seq ?_
 refine sy_tx' [0, 1] rfl ?_
 refine sp rfl (PE.move rfl) rfl ?_
 refine sp rfl (PE.neq rfl rfl) rfl ?_
 refine sy_cond rfl (fun hc2 => ?_) (fun hc2 => ?_)
 try simp only [decide_eq_true_eq, decide_eq_false_iff_not, Bool.and_eq_true, Bool.or_eq_true, Bool.not_eq_true', Int.not_le, Int.not_lt] at hc2
 have hres : mixE m = 8 := by rw [hma, decide_eq_true (by omega)]; rfl
 refine sy_seq ?_
 refine sy_tx' [0] rfl ?_
 refine sp rfl (PE.assign rfl) rfl ?_
 refine sy_ret ?_
 exact sy_return (vs := [_]) rfl (.cons (RV.tmp rfl) .nil) rfl ⟨by rw [hres]; rfl, rfl, rfl⟩ drp
 try simp only [decide_eq_true_eq, decide_eq_false_iff_not, Bool.and_eq_true, Bool.or_eq_true, Bool.not_eq_true', Int.not_le, Int.not_lt] at hc2
 have hres : mixE m = 0 := by rw [hma, decide_eq_false (by omega)]; rfl
 refine sy_skip ?_
 refine sy_seq ?_
 refine sy_tx' [0] rfl ?_
 refine sp rfl (PE.assign rfl) rfl ?_
 refine sy_ret ?_
 exact sy_return (vs := [_]) rfl (.cons (RV.tmp rfl) .nil) rfl ⟨by rw [hres]; rfl, rfl, rfl⟩ drp
theorem c_rFit (g : Gat) (hg : 0 ≤ g.miss ∧ g.miss ≤ 20) (sg : Value) (h : Hnd) (hh : h.ok) (m : Mix) (hm : Mxt m) (H : Heap) (R : Facts) :
    FnV Try.prog 82 [g.v sg, .agg (hrow h).toArray, .agg (ints m).toArray] H R (.bool (fitB g.miss h m)) := by
 refine fn_of Try.func82 rfl Try.ntmps82 rfl ?_
 refine sy_seq ?_
 refine sy_tx' [0, 1, 2, 3] rfl ?_
 refine bx rfl rfl rfl (fun b3 => ?_)
 refine bx rfl rfl rfl (fun b4 => ?_)
 refine bx rfl rfl rfl (fun b5 => ?_)
 refine sp rfl (PE.assign rfl) rfl ?_
 refine sy_seq ?_
 refine sy_seq ?_
 refine sy_tx' [0] rfl ?_
 refine sp rfl (PE.assign rfl) rfl ?_
 refine sy_block ?_
 refine sy_loop (ι := {k : Nat // k ≤ 4 ∧ ∀ j < k, letB g.miss h j (nn m j) = true}) (fun k => ⟨[(3, .pointer (some ⟨b3, 0, none⟩)), (4, .pointer (some ⟨b4, 0, none⟩)), (5, .pointer (some ⟨b5, 0, none⟩)), (7, .int .i64 k.1)], (b5, cel 29 (ints m)) :: (b4, cel 85 (hrow h)) :: (b3, cel 59 (gtl g sg)) :: H, R⟩) (fun k => 4 - k.1) ⟨0, by omega, fun j h => by omega⟩ ?_ (fun k => ?_)
 exact sy_at (by repeat' first | exact Sub.nil | apply Sub.cons | rfl | (simp [lk]; omega)) (fun _ h => h)
 obtain ⟨k, hk, hn⟩ := k
 dsimp only at hk hn ⊢
 refine sy_seq ?_
 refine sy_seq ?_
 refine sy_tx' [0, 1] rfl ?_
 refine sp rfl (PE.move rfl) rfl ?_
 refine sp rfl (PE.lss rfl rfl) rfl ?_
 refine sy_cond rfl (fun hc0 => ?_) (fun hc0 => ?_)
 try simp only [decide_eq_true_eq, decide_eq_false_iff_not, Bool.and_eq_true, Bool.or_eq_true, Bool.not_eq_true', Int.not_le, Int.not_lt] at hc0
 have hk4 : k < 4 := by omega
 refine sy_skip ?_
 refine sy_seq ?_
 refine sy_block ?_
 refine sy_seq ?_
 refine sy_draw [0, 0, 0, 0, 8, 24, 63, 127] (.ld 0 (.ld 1 (.tk 2 (.tk 3 (.tk 4 (.ld 5 (.big 6 (.tk 7 .done)))))))) mixed (by kernel_rfl) ?_
 refine ld rfl rfl (lhA [_, _, _] ag59 rfl rfl rfl) rfl ?_
 refine ld rfl rfl (lhA (hrow h) ag85 rfl (rest := []) (by rw [List.append_nil]; rfl) rfl) rfl ?_
 refine tk rfl (PE.move rfl) rfl ?_
 refine tk rfl (PE.move rfl) rfl ?_
 refine tk rfl (PE.indexArr ar29 rfl rfl (by omega) (by omega)) rfl ?_
 refine ld rfl rfl (lh sc3 rfl (mix_at hm.len hk4)) rfl ?_
 refine clV rfl cal104 rfl rfl (c_rlet g hg sg h hh k hk4 (nn m k) (hm.at_ k hk4) _ _) ?_
 refine bg (fun w hs => ⟨trivial, trivial, trivial, trivial⟩) ?_
 refine tk rfl (PE.not rfl) rfl ?_
 refine sy_cond rfl (fun hc1 => ?_) (fun hc1 => ?_)
 have hb : letB g.miss h k (nn m k) = false := by simpa using hc1
 have hres := fit_at hk4 hb
 refine sy_seq ?_
 refine sy_tx' [0] rfl ?_
 refine sp rfl (PE.assign rfl) rfl ?_
 refine sy_ret ?_
 exact sy_return (vs := [_]) rfl (.cons (RV.tmp rfl) .nil) rfl ⟨by rw [hres]; rfl, rfl, rfl⟩ drp
 have q1 : letB g.miss h k (nn m k) = true := by simpa using hc1
 refine sy_skip ?_
 refine sy_tx' [0, 1, 2] rfl ?_
 refine sp rfl (PE.move rfl) rfl ?_
 refine sp rfl (PE.add rfl rfl (by omega)) rfl ?_
 refine sp rfl (PE.assign rfl) rfl ?_
 exact sy_next ⟨k + 1, by omega, fun j hj => by rcases Nat.lt_succ_iff_lt_or_eq.1 hj with h1 | rfl; exact hn j h1; exact q1⟩ (by dsimp only; omega) (by repeat' first | exact Sub.nil | apply Sub.cons | rfl | (simp [lk]; omega)) (fun _ h => h)
 try simp only [decide_eq_true_eq, decide_eq_false_iff_not, Bool.and_eq_true, Bool.or_eq_true, Bool.not_eq_true', Int.not_le, Int.not_lt] at hc0
 obtain rfl : k = 4 := by omega
 have hres := fit_of hn
 refine sy_exit ?_
 repeat refine sy_tx ?_
 refine sy_bx ?_
 refine sy_seq ?_
 refine sy_tx' [0] rfl ?_
 refine sp rfl (PE.assign rfl) rfl ?_
 refine sy_ret ?_
 exact sy_return (vs := [_]) rfl (.cons (RV.tmp rfl) .nil) rfl ⟨by rw [hres]; rfl, rfl, rfl⟩ drp
theorem c_rFits (g : Gat) (hg : 0 ≤ g.miss ∧ g.miss ≤ 20) (sg : Value) (c : Crt) (hc : c.ok) (ah : Option Addr) (ch : Nat) (m : Mix) (hm : Mxt m) (H : Heap) (R : Facts) [hA : MemRows ah 5 (hrows c.hs) R] :
    FnV Try.prog 37 [g.v sg, c.v (c.sl ah ch), .agg (ints m).toArray] H R (.bool (c.hs.all fun h => fitB g.miss h m)) := by
 refine fn_of Try.func37 rfl Try.ntmps37 rfl ?_
 refine sy_seq ?_
 refine sy_tx' [0, 1, 2, 3] rfl ?_
 refine bx rfl rfl rfl (fun b3 => ?_)
 refine bx rfl rfl rfl (fun b4 => ?_)
 refine bx rfl rfl rfl (fun b5 => ?_)
 refine sp rfl (PE.assign rfl) rfl ?_
 refine sy_seq ?_
 refine sy_seq ?_
 refine sy_tx' [0] rfl ?_
 refine sp rfl (PE.assign rfl) rfl ?_
 refine sy_block ?_
 refine sy_loop (ι := {i : Nat // i ≤ c.hs.length ∧ ((c.hs.take i).all fun h => fitB g.miss h m) = true}) (fun i => ⟨[(3, .pointer (some ⟨b3, 0, none⟩)), (4, .pointer (some ⟨b4, 0, none⟩)), (5, .pointer (some ⟨b5, 0, none⟩)), (7, .int .i64 i.1)], (b5, cel 29 (ints m)) :: (b4, cel 63 (ctl c (c.sl ah ch))) :: (b3, cel 59 (gtl g sg)) :: H, R⟩) (fun i => c.hs.length - i.1) ⟨0, by simp⟩ ?_ (fun i => ?_)
 exact sy_at (by repeat' first | exact Sub.nil | apply Sub.cons | rfl | (simp [lk]; omega)) (fun _ h => h)
 obtain ⟨i, hi, hn⟩ := i
 dsimp only at hi hn ⊢
 have hmany := hc.many
 refine sy_seq ?_
 refine sy_seq ?_
 refine sy_tx' [0, 1, 2, 3, 4] rfl ?_
 refine sp rfl (PE.move rfl) rfl ?_
 refine sp rfl (PE.fieldAddr fo63_2 rfl) rfl ?_
 refine spL rfl rfl (lh sc61 rfl rfl) rfl ?_
 refine sp rfl (PE.lenSl isl61 rfl) rfl ?_
 refine sp rfl (PE.lss rfl rfl) rfl ?_
 refine sy_cond rfl (fun hc0 => ?_) (fun hc0 => ?_)
 try simp only [decide_eq_true_eq, decide_eq_false_iff_not, Bool.and_eq_true, Bool.or_eq_true, Bool.not_eq_true', Int.not_le, Int.not_lt] at hc0
 obtain ⟨x, hx⟩ : ∃ x, c.hs[i]? = some x := ⟨_, List.getElem?_eq_getElem (by omega)⟩
 refine sy_addr (a := ah) (sz := 5) (rows := hrows c.hs) (by intro h0; simp [hrows] at h0; simp [h0] at hx) (fun ba oa hea => ?_)
 subst hea
 refine sy_skip ?_
 refine sy_seq ?_
 refine sy_block ?_
 refine sy_seq ?_
 refine sy_draw [0, 0, 2, 0, 14, 30, 0, 127, 255] (.ld 0 (.tk 1 (.ld 2 (.tk 3 (.tk 4 (.ld 5 (.ld 6 (.big 7 (.tk 8 .done))))))))) mixed (by kernel_rfl) ?_
 refine ld rfl rfl (lhA [_, _, _] ag59 rfl rfl rfl) rfl ?_
 refine tk rfl (PE.fieldAddr fo63_2 rfl) rfl ?_
 refine ld rfl rfl (lh sc61 rfl rfl) rfl ?_
 refine tk rfl (PE.move rfl) rfl ?_
 refine tk rfl (PE.indexAddr el61 rfl rfl (by omega) (by omega)) rfl ?_
 refine ld rfl rfl (lfA ag85 (row := hrow x) (hr_get (by simpa using hx)) rfl) rfl ?_
 refine ld rfl rfl (lhA (ints (m)) ag29 rfl (rest := []) (by rw [List.append_nil]; rfl) (by rw [ints_length]; exact hm.len)) rfl ?_
 refine clV rfl cal82 rfl rfl (c_rFit g hg sg x (hc.hs x (List.mem_of_getElem? hx)) m hm _ _) ?_
 refine bg (fun w hs => ⟨trivial, trivial, trivial, trivial, trivial⟩) ?_
 refine tk rfl (PE.not rfl) rfl ?_
 refine sy_cond rfl (fun hc1 => ?_) (fun hc1 => ?_)
 have hb : fitB g.miss x m = false := by simpa using hc1
 have hres := all_bad hx (p := fun h => fitB g.miss h m) hb
 refine sy_seq ?_
 refine sy_tx' [0] rfl ?_
 refine sp rfl (PE.assign rfl) rfl ?_
 refine sy_ret ?_
 exact sy_return (vs := [_]) rfl (.cons (RV.tmp rfl) .nil) rfl ⟨by rw [hres]; rfl, rfl, rfl⟩ drp
 have q1 : fitB g.miss x m = true := by simpa using hc1
 refine sy_skip ?_
 refine sy_tx' [0, 1, 2] rfl ?_
 refine sp rfl (PE.move rfl) rfl ?_
 refine sp rfl (PE.add rfl rfl (by omega)) rfl ?_
 refine sp rfl (PE.assign rfl) rfl ?_
 exact sy_next ⟨i + 1, by omega, all_more hx hn q1⟩ (by dsimp only; omega) (by repeat' first | exact Sub.nil | apply Sub.cons | rfl | (simp [lk]; omega)) (fun _ h => h)
 try simp only [decide_eq_true_eq, decide_eq_false_iff_not, Bool.and_eq_true, Bool.or_eq_true, Bool.not_eq_true', Int.not_le, Int.not_lt] at hc0
 obtain rfl : i = c.hs.length := by omega
 rw [List.take_length] at hn
 have hres := hn
 refine sy_exit ?_
 repeat refine sy_tx ?_
 refine sy_bx ?_
 refine sy_seq ?_
 refine sy_tx' [0] rfl ?_
 refine sp rfl (PE.assign rfl) rfl ?_
 refine sy_ret ?_
 exact sy_return (vs := [_]) rfl (.cons (RV.tmp rfl) .nil) rfl ⟨by rw [hres]; rfl, rfl, rfl⟩ drp
theorem c_rHas (g : Gat) (ag : Option Addr) (cg : Nat) (hlg : g.grs.length ≤ 9223372036854775807) (hml : g.grs.length ≤ 1000) (m : Mix) (hm : Mxt m) (H : Heap) (R : Facts) [hG : MemRows ag 5 (grows g.grs) R] :
    FnV Try.prog 38 [g.v (g.sl ag cg), .agg (ints m).toArray] H R (.int .i64 (hasG g.grs m)) := by
 refine fn_of Try.func38 rfl Try.ntmps38 rfl ?_
 refine sy_seq ?_
 refine sy_tx' [0, 1, 2] rfl ?_
 refine bx rfl rfl rfl (fun b2 => ?_)
 refine bx rfl rfl rfl (fun b3 => ?_)
 refine sp rfl (PE.assign rfl) rfl ?_
 refine sy_seq ?_
 refine sy_seq ?_
 refine sy_tx' [0] rfl ?_
 refine sp rfl (PE.assign rfl) rfl ?_
 refine sy_block ?_
 refine sy_loop (ι := {i : Nat // i ≤ g.grs.length ∧ ∀ y ∈ g.grs.take i, y.kept m = false}) (fun i => ⟨[(2, .pointer (some ⟨b2, 0, none⟩)), (3, .pointer (some ⟨b3, 0, none⟩)), (5, .int .i64 i.1)], (b3, cel 29 (ints m)) :: (b2, cel 59 (gtl g (g.sl ag cg))) :: H, R⟩) (fun i => g.grs.length - i.1) ⟨0, by simp⟩ ?_ (fun i => ?_)
 exact sy_at (by repeat' first | exact Sub.nil | apply Sub.cons | rfl | (simp [lk]; omega)) (fun _ h => h)
 obtain ⟨i, hi, hn⟩ := i
 dsimp only at hi hn ⊢
 refine sy_seq ?_
 refine sy_seq ?_
 refine sy_tx' [0, 1, 2, 3, 4] rfl ?_
 refine sp rfl (PE.move rfl) rfl ?_
 refine sp rfl (PE.fieldAddr fo59_2 rfl) rfl ?_
 refine spL rfl rfl (lh sc57 rfl rfl) rfl ?_
 refine sp rfl (PE.lenSl isl57 rfl) rfl ?_
 refine sp rfl (PE.lss rfl rfl) rfl ?_
 refine sy_cond rfl (fun hc0 => ?_) (fun hc0 => ?_)
 try simp only [decide_eq_true_eq, decide_eq_false_iff_not, Bool.and_eq_true, Bool.or_eq_true, Bool.not_eq_true', Int.not_le, Int.not_lt] at hc0
 obtain ⟨x, hx⟩ : ∃ x, g.grs[i]? = some x := ⟨_, List.getElem?_eq_getElem (by omega)⟩
 refine sy_addr (a := ag) (sz := 5) (rows := grows g.grs) (by intro h0; simp [grows] at h0; simp [h0] at hx) (fun ba oa hea => ?_)
 subst hea
 have hkq := kept_eq (x := x) hm
 refine sy_skip ?_
 refine sy_seq ?_
 refine sy_block ?_
 refine sy_seq ?_
 refine sy_tx' [0, 1, 2, 3, 4, 5, 6] rfl ?_
 refine sp rfl (PE.fieldAddr fo59_2 rfl) rfl ?_
 refine spL rfl rfl (lh sc57 rfl rfl) rfl ?_
 refine sp rfl (PE.move rfl) rfl ?_
 refine sp rfl (PE.indexAddr el57 rfl rfl (by omega) (by omega)) rfl ?_
 refine spL rfl rfl (lfA ag142 (row := grow x) (gr_get (by simpa using hx)) rfl) rfl ?_
 refine alc rfl zl142 rfl (fun b6 => ?_)
 refine sto rfl rfl rfl cn142 rfl rfl rfl rfl ?_
 refine sy_seq ?_
 refine sy_tx' [0, 1, 2, 3, 4, 5, 6, 7, 8, 9, 10, 11, 12, 13, 14, 15, 16, 17, 18, 19, 20, 21, 22, 23, 24, 25] rfl ?_
 refine sp rfl (PE.indexArr ar29 rfl rfl (by omega) (by omega)) rfl ?_
 refine spL rfl rfl (lh sc3 rfl (mix_at hm.len (k := 0) (by omega))) rfl ?_
 refine sp rfl (PE.fieldAddr fo142_0 rfl) rfl ?_
 refine spL rfl rfl (lh sc3 rfl rfl) rfl ?_
 refine sp rfl (PE.geq rfl rfl) rfl ?_
 refine sp rfl (PE.move rfl) rfl ?_
 refine sy_case (t := 24) rfl (fun g24 => ?_) (fun g24 => ?_)
 try simp only [decide_eq_true_eq, decide_eq_false_iff_not, Bool.and_eq_true, Bool.or_eq_true, Bool.not_eq_true', Int.not_le, Int.not_lt] at g24
 refine spG rfl rfl rfl rfl (PE.indexArr ar29 rfl rfl (by omega) (by omega)) rfl ?_
 refine spLG rfl rfl rfl rfl rfl (lh sc3 rfl (mix_at hm.len (k := 1) (by omega))) rfl ?_
 refine spG rfl rfl rfl rfl (PE.fieldAddr fo142_1 rfl) rfl ?_
 refine spLG rfl rfl rfl rfl rfl (lh sc3 rfl rfl) rfl ?_
 refine spG rfl rfl rfl rfl (PE.leq rfl rfl) rfl ?_
 refine sp rfl (PE.pick rfl rfl rfl) rfl ?_
 refine sp rfl (PE.move rfl) rfl ?_
 refine sy_case (t := 31) rfl (fun g31 => ?_) (fun g31 => ?_)
 try simp only [decide_eq_true_eq, decide_eq_false_iff_not, Bool.and_eq_true, Bool.or_eq_true, Bool.not_eq_true', Int.not_le, Int.not_lt] at g31
 refine spG rfl rfl rfl rfl (PE.indexArr ar29 rfl rfl (by omega) (by omega)) rfl ?_
 refine spLG rfl rfl rfl rfl rfl (lh sc3 rfl (mix_at hm.len (k := 2) (by omega))) rfl ?_
 refine spG rfl rfl rfl rfl (PE.fieldAddr fo142_2 rfl) rfl ?_
 refine spLG rfl rfl rfl rfl rfl (lh sc3 rfl rfl) rfl ?_
 refine spG rfl rfl rfl rfl (PE.leq rfl rfl) rfl ?_
 refine sp rfl (PE.pick rfl rfl rfl) rfl ?_
 refine sp rfl (PE.move rfl) rfl ?_
 refine sy_case (t := 38) rfl (fun g38 => ?_) (fun g38 => ?_)
 try simp only [decide_eq_true_eq, decide_eq_false_iff_not, Bool.and_eq_true, Bool.or_eq_true, Bool.not_eq_true', Int.not_le, Int.not_lt] at g38
 refine spG rfl rfl rfl rfl (PE.indexArr ar29 rfl rfl (by omega) (by omega)) rfl ?_
 refine spLG rfl rfl rfl rfl rfl (lh sc3 rfl (mix_at hm.len (k := 3) (by omega))) rfl ?_
 refine spG rfl rfl rfl rfl (PE.fieldAddr fo142_3 rfl) rfl ?_
 refine spLG rfl rfl rfl rfl rfl (lh sc3 rfl rfl) rfl ?_
 refine spG rfl rfl rfl rfl (PE.leq rfl rfl) rfl ?_
 refine sp rfl (PE.pick rfl rfl rfl) rfl ?_
 refine sy_cond rfl (fun hc1 => ?_) (fun hc1 => ?_)
 try simp only [decide_eq_true_eq, decide_eq_false_iff_not, Bool.and_eq_true, Bool.or_eq_true, Bool.not_eq_true', Int.not_le, Int.not_lt] at hc1
 have q1 : x.kept m = true := by rw [hkq]; simp; omega
 have hres : hasG g.grs m = i := by unfold hasG; rw [find_hit hx hn q1]
 refine sy_seq ?_
 refine sy_tx' [0, 1] rfl ?_
 refine sp rfl (PE.move rfl) rfl ?_
 refine sp rfl (PE.assign rfl) rfl ?_
 refine sy_ret ?_
 exact sy_return (vs := [_]) rfl (.cons (RV.tmp rfl) .nil) rfl ⟨by rw [hres]; rfl, rfl, rfl⟩ drp
 try simp only [decide_eq_true_eq, decide_eq_false_iff_not, Bool.and_eq_true, Bool.or_eq_true, Bool.not_eq_true', Int.not_le, Int.not_lt] at hc1
 have q1 : x.kept m = false := by rw [hkq, decide_eq_false (show ¬ nn m 3 ≤ x.damp by omega)]; simp
 refine sy_skip ?_
 refine sy_tx' [0, 1, 2] rfl ?_
 refine sp rfl (PE.move rfl) rfl ?_
 refine sp rfl (PE.add rfl rfl (by omega)) rfl ?_
 refine sp rfl (PE.assign rfl) rfl ?_
 exact sy_next ⟨i + 1, by omega, take_miss hx hn q1⟩ (by dsimp only; omega) (by repeat' first | exact Sub.nil | apply Sub.cons | rfl | (simp [lk]; omega)) (fun w h => h.del b6)
 try simp only [decide_eq_true_eq, decide_eq_false_iff_not, Bool.and_eq_true, Bool.or_eq_true, Bool.not_eq_true', Int.not_le, Int.not_lt] at g38
 have q1 : x.kept m = false := by rw [hkq, decide_eq_false (show ¬ nn m 2 ≤ x.stones by omega)]; simp
 repeat refine spN rfl rfl rfl rfl rfl rfl rfl rfl ?_
 refine sp rfl (PE.pick rfl rfl rfl) rfl ?_
 refine sy_condF rfl ?_
 refine sy_skip ?_
 refine sy_tx' [0, 1, 2] rfl ?_
 refine sp rfl (PE.move rfl) rfl ?_
 refine sp rfl (PE.add rfl rfl (by omega)) rfl ?_
 refine sp rfl (PE.assign rfl) rfl ?_
 exact sy_next ⟨i + 1, by omega, take_miss hx hn q1⟩ (by dsimp only; omega) (by repeat' first | exact Sub.nil | apply Sub.cons | rfl | (simp [lk]; omega)) (fun w h => h.del b6)
 try simp only [decide_eq_true_eq, decide_eq_false_iff_not, Bool.and_eq_true, Bool.or_eq_true, Bool.not_eq_true', Int.not_le, Int.not_lt] at g31
 have q1 : x.kept m = false := by rw [hkq, decide_eq_false (show ¬ nn m 1 ≤ x.chaff by omega)]; simp
 repeat refine spN rfl rfl rfl rfl rfl rfl rfl rfl ?_
 refine sp rfl (PE.pick rfl rfl rfl) rfl ?_
 refine sp rfl (PE.move rfl) rfl ?_
 repeat refine spN rfl rfl rfl rfl rfl rfl rfl rfl ?_
 refine sp rfl (PE.pick rfl rfl rfl) rfl ?_
 refine sy_condF rfl ?_
 refine sy_skip ?_
 refine sy_tx' [0, 1, 2] rfl ?_
 refine sp rfl (PE.move rfl) rfl ?_
 refine sp rfl (PE.add rfl rfl (by omega)) rfl ?_
 refine sp rfl (PE.assign rfl) rfl ?_
 exact sy_next ⟨i + 1, by omega, take_miss hx hn q1⟩ (by dsimp only; omega) (by repeat' first | exact Sub.nil | apply Sub.cons | rfl | (simp [lk]; omega)) (fun w h => h.del b6)
 try simp only [decide_eq_true_eq, decide_eq_false_iff_not, Bool.and_eq_true, Bool.or_eq_true, Bool.not_eq_true', Int.not_le, Int.not_lt] at g24
 have q1 : x.kept m = false := by rw [hkq, decide_eq_false (show ¬ x.corn ≤ nn m 0 by omega)]; rfl
 repeat refine spN rfl rfl rfl rfl rfl rfl rfl rfl ?_
 refine sp rfl (PE.pick rfl rfl rfl) rfl ?_
 refine sp rfl (PE.move rfl) rfl ?_
 repeat refine spN rfl rfl rfl rfl rfl rfl rfl rfl ?_
 refine sp rfl (PE.pick rfl rfl rfl) rfl ?_
 refine sp rfl (PE.move rfl) rfl ?_
 repeat refine spN rfl rfl rfl rfl rfl rfl rfl rfl ?_
 refine sp rfl (PE.pick rfl rfl rfl) rfl ?_
 refine sy_condF rfl ?_
 refine sy_skip ?_
 refine sy_tx' [0, 1, 2] rfl ?_
 refine sp rfl (PE.move rfl) rfl ?_
 refine sp rfl (PE.add rfl rfl (by omega)) rfl ?_
 refine sp rfl (PE.assign rfl) rfl ?_
 exact sy_next ⟨i + 1, by omega, take_miss hx hn q1⟩ (by dsimp only; omega) (by repeat' first | exact Sub.nil | apply Sub.cons | rfl | (simp [lk]; omega)) (fun w h => h.del b6)
 try simp only [decide_eq_true_eq, decide_eq_false_iff_not, Bool.and_eq_true, Bool.or_eq_true, Bool.not_eq_true', Int.not_le, Int.not_lt] at hc0
 obtain rfl : i = g.grs.length := by omega
 rw [List.take_length] at hn
 have hres : hasG g.grs m = -1 := by unfold hasG; rw [find_miss hn]
 refine sy_exit ?_
 repeat refine sy_tx ?_
 refine sy_bx ?_
 refine sy_seq ?_
 refine sy_tx' [0] rfl ?_
 refine sp rfl (PE.assign rfl) rfl ?_
 refine sy_ret ?_
 exact sy_return (vs := [_]) rfl (.cons (RV.tmp rfl) .nil) rfl ⟨by rw [hres]; rfl, rfl, rfl⟩ drp
end Go.Proofs.Ytknoaljnelfklaa
namespace Go.Proofs.Ytknoaljnelfklaa
set_option linter.unusedSimpArgs false
set_option linter.unusedVariables false
open Go
theorem cal29 : cal Try.prog 29 = true := by kernel_rfl
theorem cal36 : cal Try.prog 36 = true := by kernel_rfl
theorem cal37 : cal Try.prog 37 = true := by kernel_rfl
theorem cal38 : cal Try.prog 38 = true := by kernel_rfl
theorem cal49 : cal Try.prog 49 = true := by kernel_rfl
end Go.Proofs.Ytknoaljnelfklaa
namespace Go.Proofs.Ytknoaljnelfklaa
set_option linter.unusedSimpArgs false
set_option linter.unusedVariables false
open Go
theorem ap66 : apT Try.prog 66 = some (29, 4, 32) := by kernel_rfl
theorem ap67 : apT Try.prog 67 = some (66, 1, 24) := by kernel_rfl
theorem cn66 : cellN Try.prog 66 = some 1 := by kernel_rfl
theorem el67 : elN Try.prog 67 = some 1 := by kernel_rfl
theorem sc66 : scal Try.prog 66 = true := by kernel_rfl
theorem sl66 : slE Try.prog 66 = some (29, 4) := by kernel_rfl
theorem zl66 : zeroL Try.prog 66 = some ([.slice none 0 0]) := by kernel_rfl
abbrev mrows (l : List Mix) : List (List Value) := l.map ints
def missN (miss : Int) (hs : List Hnd) (m : Mix) : Nat → Nat
  | 0 => 0
  | i + 1 => missN miss hs m i + match hs[i]? with
    | some h => bif fitB miss h m then 0 else 2 ^ i
    | none => 0
def missQ (miss : Int) (hs : List Hnd) (m : Mix) : Nat := missN miss hs m hs.length
theorem missN_lt (miss : Int) (hs : List Hnd) (m : Mix) : ∀ i, missN miss hs m i < 2 ^ i
  | 0 => by simp [missN]
  | i + 1 => by
    have ih := missN_lt miss hs m i
    have h2 : 2 ^ (i + 1) = 2 ^ i + 2 ^ i := by rw [Nat.pow_succ]; omega
    unfold missN
    cases hs[i]? with
    | none => simp only; omega
    | some h => simp only; cases fitB miss h m <;> simp only [cond_true, cond_false] <;> omega
theorem missN_0 {miss : Int} {hs : List Hnd} {m : Mix} : ∀ {i : Nat}, i ≤ hs.length → (missN miss hs m i = 0 ↔ ∀ h ∈ hs.take i, fitB miss h m = true)
  | 0, _ => by simp [missN]
  | i + 1, hi => by
    have ih := missN_0 (miss := miss) (hs := hs) (m := m) (i := i) (by omega)
    obtain ⟨h, hh⟩ : ∃ h, hs[i]? = some h := ⟨_, List.getElem?_eq_getElem (by omega)⟩
    have hp : 0 < 2 ^ i := Nat.pow_pos (by decide)
    unfold missN
    rw [hh, List.take_add_one, hh]
    simp only [Option.toList_some, List.mem_append, List.mem_singleton]
    cases hf : fitB miss h m
    · simp only [cond_false]
      constructor
      · intro h1; omega
      · intro h1; have := h1 h (.inr rfl); rw [hf] at this; cases this
    · simp only [cond_true, Nat.add_zero]
      rw [ih]
      constructor
      · rintro h1 x (hx | rfl)
        · exact h1 x hx
        · exact hf
      · intro h1 x hx; exact h1 x (.inl hx)
theorem missQ_lt {miss : Int} {hs : List Hnd} {m : Mix} (h : hs.length ≤ 6) : missQ miss hs m < 64 := by
  have h1 := missN_lt miss hs m hs.length
  have h2 : 2 ^ hs.length ≤ 2 ^ 6 := Nat.pow_le_pow_right (by decide) h
  unfold missQ; omega
theorem missQ_0 {miss : Int} {hs : List Hnd} {m : Mix} : missQ miss hs m = 0 ↔ ∀ h ∈ hs, fitB miss h m = true := by
  have := missN_0 (miss := miss) (hs := hs) (m := m) (i := hs.length) (Nat.le_refl _)
  rw [List.take_length] at this
  exact this
def partS (miss : Int) (hs : List Hnd) (ms : List Mix) (s : Nat) : List Mix := ms.filter fun m => decide (missQ miss hs m = s)
theorem part_hit {miss : Int} {hs : List Hnd} {ms : List Mix} {m : Mix} {s : Nat} (h : missQ miss hs m = s) : partS miss hs (ms ++ [m]) s = partS miss hs ms s ++ [m] := by
  simp [partS, List.filter_append, h]
theorem part_miss {miss : Int} {hs : List Hnd} {ms : List Mix} {m : Mix} {s : Nat} (h : missQ miss hs m ≠ s) : partS miss hs (ms ++ [m]) s = partS miss hs ms s := by
  simp [partS, List.filter_append, h]
structure AllI (a b d : Nat) (ms : List Mix) : Prop where
  mx : ∀ m ∈ ms, Mxt m
  all : ∀ m, Mxt m → (nn m 0 < a ∨ (nn m 0 = a ∧ nn m 1 < b) ∨ (nn m 0 = a ∧ nn m 1 = b ∧ nn m 2 < d)) → m ∈ ms
  len : ms.length ≤ 1681 * a + 41 * b + d
theorem AllI.start : AllI 0 0 0 [] := ⟨by simp, fun m hm h => by
  have h0 := hm.at_ 0 (by omega); have h1 := hm.at_ 1 (by omega); have h2 := hm.at_ 2 (by omega)
  omega, by simp⟩
def mixOf (a b d : Nat) : Mix := [(a : Int), (b : Int), (d : Int), 40 - a - b - d]
theorem mixOf_ok {a b d : Nat} (h : a + b + d ≤ 40) : Mxt (mixOf a b d) := ⟨rfl, by simp [mixOf, sum4, nn]; omega, of4 ⟨by simp [mixOf, nn]; omega, by simp [mixOf, nn]; omega, by simp [mixOf, nn]; omega, by simp [mixOf, nn]; omega⟩⟩
theorem AllI.more {a b d : Nat} {ms : List Mix} (h : AllI a b d ms) (hs : a + b + d ≤ 40) : AllI a b (d + 1) (ms ++ [mixOf a b d]) := by
  refine ⟨fun m hm => ?_, fun m hm hlt => ?_, by have := h.len; simp; omega⟩
  · rcases List.mem_append.1 hm with hm | hm
    · exact h.mx m hm
    · obtain rfl := List.mem_singleton.1 hm; exact mixOf_ok hs
  · by_cases he : nn m 0 = a ∧ nn m 1 = b ∧ nn m 2 = d
    · have hsm := hm.sum
      obtain ⟨x0, x1, x2, x3, rfl⟩ := list4 hm.len
      simp only [sum4, nn, List.getD_cons_zero, List.getD_cons_succ] at he hsm
      obtain ⟨rfl, rfl, rfl⟩ := he
      refine List.mem_append_right _ (List.mem_singleton.2 ?_)
      simp [mixOf]; omega
    · exact List.mem_append_left _ (h.all m hm (by omega))
theorem AllI.next {a b d : Nat} {ms : List Mix} (h : AllI a b d ms) (hd : 40 < a + b + d) (hd2 : d ≤ 41) : AllI a (b + 1) 0 ms := ⟨h.mx, fun m hm hlt => h.all m hm (by
  have h0 := hm.at_ 0 (by omega); have h1 := hm.at_ 1 (by omega); have h2 := hm.at_ 2 (by omega); have h3 := hm.at_ 3 (by omega)
  have hs := hm.sum
  unfold sum4 at hs
  omega), by have := h.len; omega⟩
theorem AllI.down {a b : Nat} {ms : List Mix} (h : AllI a b 0 ms) (hd : 40 < a + b) (hb : b ≤ 41) : AllI (a + 1) 0 0 ms := ⟨h.mx, fun m hm hlt => h.all m hm (by
  have h0 := hm.at_ 0 (by omega); have h1 := hm.at_ 1 (by omega); have h2 := hm.at_ 2 (by omega); have h3 := hm.at_ 3 (by omega)
  have hs := hm.sum
  unfold sum4 at hs
  omega), by have := h.len; omega⟩
theorem AllI.done {ms : List Mix} (h : AllI 41 0 0 ms) (m : Mix) : m ∈ ms ↔ Mxt m := ⟨h.mx m, fun hm => h.all m hm (by have h0 := hm.at_ 0 (by omega); omega)⟩
abbrev Fam (e : Nat) (miss : Int) (hs : List Hnd) (ms : List Mix) := (s : Nat) → OSl e 4 (mrows (partS miss hs ms s))
def famG (G : Nat → Heap) : Heap := (List.range 64).flatMap G
def famF (F : Nat → Value) : List Value := (List.range 64).map F
def famAdd {e : Nat} {miss : Int} {hs : List Hnd} {ms : List Mix} (os : Fam e miss hs ms) (m : Mix) (o : OSl e 4 (mrows (partS miss hs ms (missQ miss hs m)) ++ [ints m])) : Fam e miss hs (ms ++ [m]) := fun q =>
  if h : missQ miss hs m = q then o.cast (by subst h; rw [part_hit rfl]; simp) else (os q).cast (by rw [part_miss h])
theorem famAdd_hit {e : Nat} {miss : Int} {hs : List Hnd} {ms : List Mix} (os : Fam e miss hs ms) (m : Mix) (o : OSl e 4 (mrows (partS miss hs ms (missQ miss hs m)) ++ [ints m])) : (famAdd os m o (missQ miss hs m)).G = o.G ∧ (famAdd os m o (missQ miss hs m)).fs = o.fs := by
  unfold famAdd; rw [dif_pos rfl]; exact ⟨rfl, rfl⟩
theorem famAdd_miss {e : Nat} {miss : Int} {hs : List Hnd} {ms : List Mix} (os : Fam e miss hs ms) (m : Mix) (o : OSl e 4 (mrows (partS miss hs ms (missQ miss hs m)) ++ [ints m])) {q : Nat} (h : q ≠ missQ miss hs m) : (famAdd os m o q).G = (os q).G ∧ (famAdd os m o q).fs = (os q).fs := by
  unfold famAdd; rw [dif_neg (fun e => h e.symm)]; exact ⟨rfl, rfl⟩
theorem flatMap_same {α β : Type} {f g : α → List β} : ∀ {l : List α}, (∀ x ∈ l, f x = g x) → l.flatMap f = l.flatMap g
  | [], _ => rfl
  | x :: l, h => by rw [List.flatMap_cons, List.flatMap_cons, h x (by simp), flatMap_same (l := l) (fun y hy => h y (by simp [hy]))]
theorem famG_split (G : Nat → Heap) {s : Nat} (hs : s < 64) : ∃ A B, famG G = A ++ (G s ++ B) ∧ ∀ G' : Nat → Heap, (∀ q, q ≠ s → G' q = G q) → famG G' = A ++ (G' s ++ B) := by
  obtain ⟨p, t, hpt⟩ := List.append_of_mem (List.mem_range.2 hs)
  have hnd : (p ++ s :: t).Nodup := by rw [← hpt]; exact List.nodup_range
  rw [List.nodup_append] at hnd
  obtain ⟨_, h2, h3⟩ := hnd
  refine ⟨p.flatMap G, t.flatMap G, by unfold famG; rw [hpt]; simp, fun G' h => ?_⟩
  unfold famG
  rw [hpt, List.flatMap_append, List.flatMap_cons, flatMap_same (fun x hx => h x (fun e => h3 x hx s (by simp) e)), flatMap_same (l := t) (fun x hx => h x (fun e => (List.nodup_cons.1 h2).1 (by rw [← e]; exact hx)))]
theorem famF_get (F : Nat → Value) {s : Nat} (hs : s < 64) : (famF F)[0 + ((s : Nat) : Int).toNat * 1]? = some (F s) := by
  rw [show 0 + ((s : Nat) : Int).toNat * 1 = s by omega]
  simp [famF, hs]
theorem famF_set (F F' : Nat → Value) {s : Nat} (hs : s < 64) (h : ∀ q, q ≠ s → F' q = F q) : spl (famF F) (0 + ((s : Nat) : Int).toNat * 1) [F' s] = famF F' := by
  rw [show 0 + ((s : Nat) : Int).toNat * 1 = s by omega]
  have hl : s < (famF F).length := by simp [famF, hs]
  have e1 : spl (famF F) s [F' s] = (famF F).set s (F' s) := by
    unfold spl
    rw [List.set_eq_take_append_cons_drop, if_pos hl]; simp
  rw [e1]
  apply List.ext_getElem?
  intro q
  rw [List.getElem?_set]
  by_cases hq : s = q
  · subst hq; rw [if_pos rfl, if_pos hl]; simp [famF, hs]
  · rw [if_neg hq]
    unfold famF
    rw [List.getElem?_map, List.getElem?_map]
    by_cases hq2 : q < 64
    · rw [List.getElem?_range hq2]; simp [h q (fun e => hq e.symm)]
    · rw [List.getElem?_eq_none (by simp; omega)]; rfl
theorem fam_start : famF (fun _ => .slice none 0 0) = repl 64 [.slice none 0 0] := by rw [repl1]; rfl
theorem flat_single {α : Type} (f : α → Value) : ∀ l : List α, (l.map fun x => [f x]).flatten = l.map f
  | [] => rfl
  | x :: l => by rw [List.map_cons, List.flatten_cons, flat_single f l]; rfl
theorem famG_nil : famG (fun _ => []) = [] := by simp [famG]
def fsA : Value → Option Addr
  | .slice a _ _ => a
  | _ => none
def fsC : Value → Nat
  | .slice _ _ c => c
  | _ => 0
theorem OSl.form {e sz : Nat} {rows : List (List Value)} (o : OSl e sz rows) : o.fs = .slice (fsA o.fs) rows.length (fsC o.fs) ∧ ∀ {H : Heap} {R : Facts} {w : World}, St (o.G ++ H) R w → St H (RowsA (fsA o.fs) sz rows :: R) w := by
  obtain ⟨a, c, he, hf⟩ := o.freeze
  rw [he]; exact ⟨rfl, hf⟩
theorem fam_freeze {e : Nat} {miss : Int} {hs : List Hnd} {ms : List Mix} (os : Fam e miss hs ms) {H : Heap} {R : Facts} {w : World} (h : St (famG (fun s => (os s).G) ++ H) R w) : St H ((fun w => ∀ s < 64, RowsA (fsA (os s).fs) 4 (mrows (partS miss hs ms s)) w) :: R) w := by
  have h0 : St H R w := St.drop h
  refine ⟨h0.nd, h0.held, fun f hf w' hk => ?_⟩
  rcases List.mem_cons.1 hf with rfl | hf
  · intro s hs64
    obtain ⟨A, B, e1, _⟩ := famG_split (fun s => (os s).G) hs64
    rw [e1] at h
    have h1 : St ((os s).G ++ ((A ++ B) ++ H)) R w := h.perm (by
      simp only [List.append_assoc]
      exact perm_swap3 A (os s).G (B ++ H))
    have h2 := St.drop ((os s).form.2 h1)
    exact h2.fact _ (by simp) w' hk
  · exact h0.fact f hf w' hk
theorem c_All (g : Gat) (hg : 0 ≤ g.miss ∧ g.miss ≤ 20) (sg : Value) (c : Crt) (hc : c.ok) (ah : Option Addr) (ch : Nat) (H : Heap) (R : Facts) [hA : MemRows ah 5 (hrows c.hs) R] :
    Fn Try.prog 30 [g.v sg, c.v (c.sl ah ch)] H R (fun v H' R' => ∃ (ms : List Mix) (b : Nat) (a : Nat → Option Addr) (cc : Nat → Nat), (∀ m, m ∈ ms ↔ Mxt m) ∧ ms.length ≤ 100000 ∧ v = .slice (some ⟨b, 0, none⟩) 64 64 ∧ H' = H ∧ R' = (fun w => ∀ s < 64, RowsA (a s) 4 (mrows (partS g.miss c.hs ms s)) w) :: RowsA (some ⟨b, 0, none⟩) 1 ((List.range 64).map fun s => [Value.slice (a s) (partS g.miss c.hs ms s).length (cc s)]) :: R) := by
 refine fn_of Try.func30 rfl Try.ntmps30 rfl ?_
 refine sy_seq ?_
 refine sy_tx' [0, 1, 2] rfl ?_
 refine bx rfl rfl rfl (fun b2 => ?_)
 refine bx rfl rfl rfl (fun b3 => ?_)
 refine sp rfl (PE.assign rfl) rfl ?_
 refine sy_seq ?_
 refine sy_tx' [0, 1] rfl ?_
 refine mkS rfl ap67 zl66 rfl rfl (Nat.le_refl _) ⟨by decide, by decide⟩ rfl (fun b13 => ?_)
 refine sp rfl (PE.assign rfl) rfl ?_
 refine sy_seq ?_
 refine sy_seq ?_
 refine sy_tx' [0] rfl ?_
 refine sp rfl (PE.assign rfl) rfl ?_
 refine sy_block ?_
 refine sy_loop (ι := {x : Nat × ((ms : List Mix) × Fam 29 g.miss c.hs ms) // x.1 ≤ 41 ∧ AllI x.1 0 0 x.2.1}) (fun x => ⟨[(2, .pointer (some ⟨b2, 0, none⟩)), (3, .pointer (some ⟨b3, 0, none⟩)), (5, .slice (some ⟨b13, 0, none⟩) 64 64), (6, .int .i64 x.1.1)], (b13, cel 66 (famF (fun s => (x.1.2.2 s).fs))) :: ((famG (fun s => (x.1.2.2 s).G)) ++ (b3, cel 63 (ctl c (c.sl ah ch))) :: (b2, cel 59 (gtl g sg)) :: H), R⟩) (fun x => 41 - x.1.1) ⟨(0, ⟨[], fun s => OSl.nil _ _⟩), by omega, AllI.start⟩ ?_ (fun x => ?_)
 exact sy_at (by repeat' first | exact Sub.nil | apply Sub.cons | rfl | (simp [lk]; omega)) (fun w h => by dsimp only; rw [show famF (fun s => (OSl.nil 29 4 : OSl 29 4 []).fs) = repl 64 [.slice none 0 0] from fam_start, show famG (fun s => (OSl.nil 29 4 : OSl 29 4 []).G) = [] from famG_nil]; exact h)
 obtain ⟨⟨a, ⟨ms0, os0⟩⟩, ha, hI0⟩ := x
 dsimp only at ha hI0 os0 ⊢
 have hmany := hc.many
 refine sy_seq ?_
 refine sy_seq ?_
 refine sy_tx' [0, 1] rfl ?_
 refine sp rfl (PE.move rfl) rfl ?_
 refine sp rfl (PE.leq rfl rfl) rfl ?_
 refine sy_cond rfl (fun hc0 => ?_) (fun hc0 => ?_)
 try simp only [decide_eq_true_eq, decide_eq_false_iff_not, Bool.and_eq_true, Bool.or_eq_true, Bool.not_eq_true', Int.not_le, Int.not_lt] at hc0
 refine sy_skip ?_
 refine sy_seq ?_
 refine sy_block ?_
 refine sy_seq ?_
 refine sy_tx' [0] rfl ?_
 refine sp rfl (PE.assign rfl) rfl ?_
 refine sy_block ?_
 refine sy_loop (ι := {x : Nat × ((ms : List Mix) × Fam 29 g.miss c.hs ms) // x.1 ≤ 41 ∧ AllI a x.1 0 x.2.1}) (fun x => ⟨[(2, .pointer (some ⟨b2, 0, none⟩)), (3, .pointer (some ⟨b3, 0, none⟩)), (5, .slice (some ⟨b13, 0, none⟩) 64 64), (6, .int .i64 a), (7, .int .i64 x.1.1)], (b13, cel 66 (famF (fun s => (x.1.2.2 s).fs))) :: ((famG (fun s => (x.1.2.2 s).G)) ++ (b3, cel 63 (ctl c (c.sl ah ch))) :: (b2, cel 59 (gtl g sg)) :: H), R⟩) (fun x => 41 - x.1.1) ⟨(0, ⟨ms0, os0⟩), by omega, hI0⟩ ?_ (fun x => ?_)
 exact sy_at (by repeat' first | exact Sub.nil | apply Sub.cons | rfl | (simp [lk]; omega)) (fun _ h => h)
 obtain ⟨⟨b, ⟨ms1, os1⟩⟩, hb, hI1⟩ := x
 dsimp only at hb hI1 os1 ⊢
 refine sy_seq ?_
 refine sy_seq ?_
 refine sy_tx' [0, 1, 2, 3] rfl ?_
 refine sp rfl (PE.move rfl) rfl ?_
 refine sp rfl (PE.move rfl) rfl ?_
 refine sp rfl (PE.add rfl rfl (by omega)) rfl ?_
 refine sp rfl (PE.leq rfl rfl) rfl ?_
 refine sy_cond rfl (fun hc1 => ?_) (fun hc1 => ?_)
 try simp only [decide_eq_true_eq, decide_eq_false_iff_not, Bool.and_eq_true, Bool.or_eq_true, Bool.not_eq_true', Int.not_le, Int.not_lt] at hc1
 refine sy_skip ?_
 refine sy_seq ?_
 refine sy_block ?_
 refine sy_seq ?_
 refine sy_tx' [0] rfl ?_
 refine sp rfl (PE.assign rfl) rfl ?_
 refine sy_block ?_
 refine sy_loop (ι := {x : Nat × ((ms : List Mix) × Fam 29 g.miss c.hs ms) // x.1 ≤ 41 ∧ AllI a b x.1 x.2.1}) (fun x => ⟨[(2, .pointer (some ⟨b2, 0, none⟩)), (3, .pointer (some ⟨b3, 0, none⟩)), (5, .slice (some ⟨b13, 0, none⟩) 64 64), (6, .int .i64 a), (7, .int .i64 b), (8, .int .i64 x.1.1)], (b13, cel 66 (famF (fun s => (x.1.2.2 s).fs))) :: ((famG (fun s => (x.1.2.2 s).G)) ++ (b3, cel 63 (ctl c (c.sl ah ch))) :: (b2, cel 59 (gtl g sg)) :: H), R⟩) (fun x => 41 - x.1.1) ⟨(0, ⟨ms1, os1⟩), by omega, hI1⟩ ?_ (fun x => ?_)
 exact sy_at (by repeat' first | exact Sub.nil | apply Sub.cons | rfl | (simp [lk]; omega)) (fun _ h => h)
 obtain ⟨⟨d, ⟨ms, os⟩⟩, hd, hI⟩ := x
 dsimp only at hd hI os ⊢
 refine sy_seq ?_
 refine sy_seq ?_
 refine sy_tx' [0, 1, 2, 3, 4, 5] rfl ?_
 refine sp rfl (PE.move rfl) rfl ?_
 refine sp rfl (PE.move rfl) rfl ?_
 refine sp rfl (PE.add rfl rfl (by omega)) rfl ?_
 refine sp rfl (PE.move rfl) rfl ?_
 refine sp rfl (PE.add rfl rfl (by omega)) rfl ?_
 refine sp rfl (PE.leq rfl rfl) rfl ?_
 refine sy_cond rfl (fun hc2 => ?_) (fun hc2 => ?_)
 try simp only [decide_eq_true_eq, decide_eq_false_iff_not, Bool.and_eq_true, Bool.or_eq_true, Bool.not_eq_true', Int.not_le, Int.not_lt] at hc2
 have hsum : a + b + d ≤ 40 := by omega
 have hmx := mixOf_ok hsum
 have hIl := hI.len
 refine sy_skip ?_
 refine sy_seq ?_
 refine sy_block ?_
 refine sy_seq ?_
 refine sy_tx' [0, 1, 2, 3, 4, 5, 6, 7, 8, 9, 10, 11] rfl ?_
 refine sp rfl (PE.move rfl) rfl ?_
 refine sp rfl (PE.move rfl) rfl ?_
 refine sp rfl (PE.move rfl) rfl ?_
 refine sp rfl (PE.move rfl) rfl ?_
 refine sp rfl (PE.sub rfl rfl (by omega)) rfl ?_
 refine sp rfl (PE.move rfl) rfl ?_
 refine sp rfl (PE.sub rfl rfl (by omega)) rfl ?_
 refine sp rfl (PE.move rfl) rfl ?_
 refine sp rfl (PE.sub rfl rfl (by omega)) rfl ?_
 refine sp rfl (PE.buildArr (out := [_, _, _, _]) ar29 zl29 rfl rfl) rfl ?_
 refine alc rfl zl29 rfl (fun b9 => ?_)
 refine sto rfl rfl rfl cn29 rfl rfl rfl rfl ?_
 refine sy_seq ?_
 refine sy_tx' [0, 1] rfl ?_
 refine sp rfl (PE.assign rfl) rfl ?_
 refine sp rfl (PE.assign rfl) rfl ?_
 refine sy_seq ?_
 refine sy_seq ?_
 refine sy_tx' [0] rfl ?_
 refine sp rfl (PE.assign rfl) rfl ?_
 refine sy_block ?_
 refine sy_loop (ι := {i : Nat // i ≤ c.hs.length}) (fun i => ⟨[(2, .pointer (some ⟨b2, 0, none⟩)), (3, .pointer (some ⟨b3, 0, none⟩)), (5, .slice (some ⟨b13, 0, none⟩) 64 64), (6, .int .i64 a), (7, .int .i64 b), (8, .int .i64 d), (9, .pointer (some ⟨b9, 0, none⟩)), (10, .int .i64 (missN g.miss c.hs (mixOf a b d) i.1 : Nat)), (11, .int .i64 ((2 ^ i.1 : Nat) : Int)), (12, .int .i64 i.1)], (b9, cel 29 (ints (mixOf a b d))) :: (b13, cel 66 (famF (fun s => (os s).fs))) :: ((famG (fun s => (os s).G)) ++ (b3, cel 63 (ctl c (c.sl ah ch))) :: (b2, cel 59 (gtl g sg)) :: H), R⟩) (fun i => c.hs.length - i.1) ⟨0, by omega⟩ ?_ (fun i => ?_)
 exact sy_at (by repeat' first | exact Sub.nil | apply Sub.cons | rfl | (simp [lk]; omega)) (fun _ h => h)
 obtain ⟨i, hi⟩ := i
 dsimp only at hi ⊢
 have hml := missN_lt g.miss c.hs (mixOf a b d) i
 have h2p : 2 ^ i ≤ 2 ^ 6 := Nat.pow_le_pow_right (by decide) (by omega)
 have hps : 2 ^ (i + 1) = 2 ^ i + 2 ^ i := by rw [Nat.pow_succ]; omega
 refine sy_seq ?_
 refine sy_seq ?_
 refine sy_tx' [0, 1, 2, 3, 4] rfl ?_
 refine sp rfl (PE.move rfl) rfl ?_
 refine sp rfl (PE.fieldAddr fo63_2 rfl) rfl ?_
 refine spL rfl rfl (lh sc61 rfl rfl) rfl ?_
 refine sp rfl (PE.lenSl isl61 rfl) rfl ?_
 refine sp rfl (PE.lss rfl rfl) rfl ?_
 refine sy_cond rfl (fun hc3 => ?_) (fun hc3 => ?_)
 try simp only [decide_eq_true_eq, decide_eq_false_iff_not, Bool.and_eq_true, Bool.or_eq_true, Bool.not_eq_true', Int.not_le, Int.not_lt] at hc3
 obtain ⟨x, hx⟩ : ∃ x, c.hs[i]? = some x := ⟨_, List.getElem?_eq_getElem (by omega)⟩
 refine sy_addr (a := ah) (sz := 5) (rows := hrows c.hs) (by intro h0; simp [hrows] at h0; simp [h0] at hx) (fun ba oa hea => ?_)
 subst hea
 refine sy_skip ?_
 refine sy_seq ?_
 refine sy_block ?_
 refine sy_seq ?_
 refine sy_seq ?_
 refine sy_draw [0, 0, 2, 0, 14, 30, 0, 127, 255] (.ld 0 (.tk 1 (.ld 2 (.tk 3 (.tk 4 (.ld 5 (.ld 6 (.big 7 (.tk 8 .done))))))))) mixed (by kernel_rfl) ?_
 refine ld rfl rfl (lhA [_, _, _] ag59 rfl rfl rfl) rfl ?_
 refine tk rfl (PE.fieldAddr fo63_2 rfl) rfl ?_
 refine ld rfl rfl (lh sc61 rfl rfl) rfl ?_
 refine tk rfl (PE.move rfl) rfl ?_
 refine tk rfl (PE.indexAddr el61 rfl rfl (by omega) (by omega)) rfl ?_
 refine ld rfl rfl (lfA ag85 (row := hrow x) (hr_get (by simpa using hx)) rfl) rfl ?_
 refine ld rfl rfl (lhA (ints (mixOf a b d)) ag29 rfl (rest := []) (by rw [List.append_nil]; rfl) (by rw [ints_length]; exact rfl)) rfl ?_
 refine clV rfl cal82 rfl rfl (c_rFit g hg sg x (hc.hs x (List.mem_of_getElem? hx)) (mixOf a b d) hmx _ _) ?_
 refine bg (fun w hs => ⟨trivial, trivial, trivial, trivial, trivial⟩) ?_
 refine tk rfl (PE.not rfl) rfl ?_
 refine sy_cond rfl (fun hc4 => ?_) (fun hc4 => ?_)
 have hf0 : fitB g.miss x (mixOf a b d) = false := by simpa using hc4
 have hst : missN g.miss c.hs (mixOf a b d) (i + 1) = missN g.miss c.hs (mixOf a b d) i + 2 ^ i := by rw [missN, hx]; simp only [hf0, cond_false]
 refine sy_tx' [0, 1, 2, 3] rfl ?_
 refine sp rfl (PE.move rfl) rfl ?_
 refine sp rfl (PE.move rfl) rfl ?_
 refine sp rfl (PE.add rfl rfl (by omega)) rfl ?_
 refine sp rfl (PE.assign rfl) rfl ?_
 refine sy_tx' [0, 1, 2] rfl ?_
 refine sp rfl (PE.move rfl) rfl ?_
 refine sp rfl (PE.mul rfl rfl (by omega)) rfl ?_
 refine sp rfl (PE.assign rfl) rfl ?_
 refine sy_tx' [0, 1, 2] rfl ?_
 refine sp rfl (PE.move rfl) rfl ?_
 refine sp rfl (PE.add rfl rfl (by omega)) rfl ?_
 refine sp rfl (PE.assign rfl) rfl ?_
 exact sy_next ⟨i + 1, by omega⟩ (by dsimp only; omega) (by dsimp only; rw [hst, show ((2 ^ (i + 1) : Nat) : Int) = 2 * ((2 ^ i : Nat) : Int) from by rw [hps]; omega]; exact (by repeat' first | exact Sub.nil | apply Sub.cons | rfl | (simp [lk]; omega))) (fun _ h => h)
 have hf0 : fitB g.miss x (mixOf a b d) = true := by simpa using hc4
 have hst : missN g.miss c.hs (mixOf a b d) (i + 1) = missN g.miss c.hs (mixOf a b d) i := by rw [missN, hx]; simp only [hf0, cond_true, Nat.add_zero]
 refine sy_skip ?_
 refine sy_tx' [0, 1, 2] rfl ?_
 refine sp rfl (PE.move rfl) rfl ?_
 refine sp rfl (PE.mul rfl rfl (by omega)) rfl ?_
 refine sp rfl (PE.assign rfl) rfl ?_
 refine sy_tx' [0, 1, 2] rfl ?_
 refine sp rfl (PE.move rfl) rfl ?_
 refine sp rfl (PE.add rfl rfl (by omega)) rfl ?_
 refine sp rfl (PE.assign rfl) rfl ?_
 exact sy_next ⟨i + 1, by omega⟩ (by dsimp only; omega) (by dsimp only; rw [hst, show ((2 ^ (i + 1) : Nat) : Int) = 2 * ((2 ^ i : Nat) : Int) from by rw [hps]; omega]; exact (by repeat' first | exact Sub.nil | apply Sub.cons | rfl | (simp [lk]; omega))) (fun _ h => h)
 try simp only [decide_eq_true_eq, decide_eq_false_iff_not, Bool.and_eq_true, Bool.or_eq_true, Bool.not_eq_true', Int.not_le, Int.not_lt] at hc3
 obtain rfl : i = c.hs.length := by omega
 obtain ⟨s, hs⟩ : ∃ s, s = missQ g.miss c.hs (mixOf a b d) := ⟨_, rfl⟩
 have hs64 : s < 64 := by rw [hs]; exact missQ_lt hmany
 rw [show missN g.miss c.hs (mixOf a b d) c.hs.length = s from hs.symm]
 refine sy_exit ?_
 repeat refine sy_tx ?_
 refine sy_bx ?_
 refine sy_draw [0, 0, 0, 0, 12, 28, 0, 64, 252, 511, 1023] (.tk 0 (.tk 1 (.tk 2 (.tk 3 (.tk 4 (.ld 5 (.ld 6 (.big 7 (.big 8 (.tk 9 (.big 10 .done))))))))))) mixed (by kernel_rfl) ?_
 refine tk rfl (PE.move rfl) rfl ?_
 refine tk rfl (PE.move rfl) rfl ?_
 refine tk rfl (PE.move rfl) rfl ?_
 refine tk rfl (PE.move rfl) rfl ?_
 refine tk rfl (PE.indexAddr el67 rfl rfl (by omega) (by omega)) rfl ?_
 refine ld rfl rfl (lh sc66 rfl (famF_get (fun s => (os s).fs) hs64)) rfl ?_
 refine ld rfl rfl (lhA (ints (mixOf a b d)) ag29 rfl (rest := []) (by rw [List.append_nil]; rfl) (by rw [ints_length]; exact rfl)) rfl ?_
 refine bsl (out := [_, _, _, _]) rfl sl66 zl29 rfl rfl rfl rfl rfl rfl (fun b70 => ?_)
 refine bg (fun w hs => ⟨trivial, (lh sc66 rfl (famF_get (fun s => (os s).fs) hs64)) w hs, trivial⟩) ?_
 obtain ⟨A, B, e1, e2⟩ := famG_split (fun s => (os s).G) hs64
 rw [e1]
 refine Sy.heap (H' := (b70, cel 29 (ints (mixOf a b d))) :: (b9, cel 29 (ints (mixOf a b d))) :: (b13, cel 66 (famF (fun s => (os s).fs))) :: (A ++ ((os s).G ++ (B ++ (b3, cel 63 (ctl c (c.sl ah ch))) :: (b2, cel 59 (gtl g sg)) :: H)))) (fun w h => by have h9 := h; simp only [List.append_assoc] at h9; exact h9) ?_
 have hpl : (partS g.miss c.hs ms s).length ≤ ms.length := List.length_filter_le _ _
 refine apO (os s) rfl ap66 rfl rfl (rowsH (row := ints (mixOf a b d)) rfl) rfl rfl ((by simp only [mrows, List.length_map, List.length_singleton]; omega)) rfl (fun o71 => ?_)
 refine bg (fun w hs => ⟨trivial, trivial⟩) ?_
 refine tk rfl (PE.indexAddr el67 rfl rfl (by omega) (by omega)) rfl ?_
 subst hs
 obtain ⟨hq1, hq2⟩ := famAdd_hit os (mixOf a b d) o71
 have hq3 := e2 (fun q => (famAdd os (mixOf a b d) o71 q).G) (fun q hq => (famAdd_miss os (mixOf a b d) o71 hq).1)
 rw [hq1] at hq3
 refine stoE (l' := famF (fun q => (famAdd os (mixOf a b d) o71 q).fs)) rfl rfl rfl cn66 rfl (by rw [o71.cells.1]; first | done | rfl) (by rw [o71.cells.1]; simp [o71.cells.2]) (by rw [o71.cells.1, ← hq2]; exact famF_set (fun q => (os q).fs) (fun q => (famAdd os (mixOf a b d) o71 q).fs) hs64 (fun q hq => (famAdd_miss os (mixOf a b d) o71 hq).2)) (by rw [o71.cells.1]; simp [famF]; omega) ?_
 refine bg (fun w hs => trivial) ?_
 refine sy_tx' [0, 1, 2] rfl ?_
 refine sp rfl (PE.move rfl) rfl ?_
 refine sp rfl (PE.add rfl rfl (by omega)) rfl ?_
 refine sp rfl (PE.assign rfl) rfl ?_
 exact sy_next ⟨(d + 1, ⟨ms ++ [mixOf a b d], famAdd os (mixOf a b d) o71⟩), by dsimp only; omega, hI.more hsum⟩ (by dsimp only; omega) (by repeat' first | exact Sub.nil | apply Sub.cons | rfl | (simp [lk]; omega)) (fun w h => by
   dsimp only
   rw [hq3]
   have h9 := (h.del b70).del b9
   simp only [List.append_assoc] at h9 ⊢
   exact h9)
 try simp only [decide_eq_true_eq, decide_eq_false_iff_not, Bool.and_eq_true, Bool.or_eq_true, Bool.not_eq_true', Int.not_le, Int.not_lt] at hc2
 refine sy_exit ?_
 repeat refine sy_tx ?_
 refine sy_bx ?_
 refine sy_tx' [0, 1, 2] rfl ?_
 refine sp rfl (PE.move rfl) rfl ?_
 refine sp rfl (PE.add rfl rfl (by omega)) rfl ?_
 refine sp rfl (PE.assign rfl) rfl ?_
 exact sy_next ⟨(b + 1, ⟨ms, os⟩), by dsimp only; omega, hI.next (by omega) hd⟩ (by dsimp only; omega) (by repeat' first | exact Sub.nil | apply Sub.cons | rfl | (simp [lk]; omega)) (fun _ h => h)
 try simp only [decide_eq_true_eq, decide_eq_false_iff_not, Bool.and_eq_true, Bool.or_eq_true, Bool.not_eq_true', Int.not_le, Int.not_lt] at hc1
 refine sy_exit ?_
 repeat refine sy_tx ?_
 refine sy_bx ?_
 refine sy_tx' [0, 1, 2] rfl ?_
 refine sp rfl (PE.move rfl) rfl ?_
 refine sp rfl (PE.add rfl rfl (by omega)) rfl ?_
 refine sp rfl (PE.assign rfl) rfl ?_
 exact sy_next ⟨(a + 1, ⟨ms1, os1⟩), by dsimp only; omega, hI1.down (by omega) hb⟩ (by dsimp only; omega) (by repeat' first | exact Sub.nil | apply Sub.cons | rfl | (simp [lk]; omega)) (fun _ h => h)
 try simp only [decide_eq_true_eq, decide_eq_false_iff_not, Bool.and_eq_true, Bool.or_eq_true, Bool.not_eq_true', Int.not_le, Int.not_lt] at hc0
 obtain rfl : a = 41 := by omega
 refine sy_exit ?_
 repeat refine sy_tx ?_
 refine sy_bx ?_
 refine sy_seq ?_
 refine sy_tx' [0, 1] rfl ?_
 refine sp rfl (PE.move rfl) rfl ?_
 refine sp rfl (PE.assign rfl) rfl ?_
 refine sy_ret ?_
 have hdone := hI0.done
 refine Sy.heap (fun w h => St.rows (sz := 1) (rows := (List.range 64).map fun s => [(os0 s).fs]) (rest := []) (by rw [List.append_nil, show ((List.range 64).map fun s => [(os0 s).fs]).flatten = famF (fun s => (os0 s).fs) from flat_single _ _]; exact h) (by intro r hr; obtain ⟨s, _, rfl⟩ := List.mem_map.1 hr; rfl)) ?_
 refine Sy.heap (fun w h => fam_freeze os0 h) ?_
 exact sy_return (vs := [_]) rfl (.cons (RV.tmp rfl) .nil) rfl ⟨ms0, b13, fun s => fsA (os0 s).fs, fun s => fsC (os0 s).fs, hdone, by have := hI0.len; omega, rfl, rfl, by
   have e9 : ((List.range 64).map fun s => [(os0 s).fs]) = ((List.range 64).map fun s => [Value.slice (fsA (os0 s).fs) (partS g.miss c.hs ms0 s).length (fsC (os0 s).fs)]) := List.map_congr_left fun s _ => by
     have := (os0 s).form.1
     rw [List.length_map] at this
     rw [← this]
   rw [e9]⟩ (fun w h => (h.del b3).del b2)
end Go.Proofs.Ytknoaljnelfklaa
namespace Go.Proofs.Ytknoaljnelfklaa
set_option linter.unusedSimpArgs false
set_option linter.unusedVariables false
open Go
theorem ap144 : apT Try.prog 144 = some (4, 1, 1) := by kernel_rfl
theorem cn4 : cellN Try.prog 4 = some 1 := by kernel_rfl
theorem el144 : elN Try.prog 144 = some 1 := by kernel_rfl
theorem el66 : elN Try.prog 66 = some 4 := by kernel_rfl
theorem isl66 : isSl Try.prog 66 = true := by kernel_rfl
theorem sc4 : scal Try.prog 4 = true := by kernel_rfl
theorem zl4 : zeroL Try.prog 4 = some ([.bool false]) := by kernel_rfl
theorem mr_get {ms : List Mix} {i : Nat} {m : Mix} (h : ms[i]? = some m) : (mrows ms)[((i : Nat) : Int).toNat]? = some (ints m) := by simp [mrows, h]
theorem rng_set {n : Nat} (F F' : Nat → Value) {s : Nat} (hs : s < n) (h : ∀ q, q ≠ s → F' q = F q) : spl ((List.range n).map F) (0 + ((s : Nat) : Int).toNat * 1) [F' s] = (List.range n).map F' := by
  rw [show 0 + ((s : Nat) : Int).toNat * 1 = s by omega]
  have hl : s < ((List.range n).map F).length := by simp [hs]
  have e1 : spl ((List.range n).map F) s [F' s] = ((List.range n).map F).set s (F' s) := by
    unfold spl
    rw [List.set_eq_take_append_cons_drop, if_pos hl]; simp
  rw [e1]
  apply List.ext_getElem?
  intro q
  rw [List.getElem?_set]
  by_cases hq : s = q
  · subst hq; rw [if_pos rfl, if_pos hl]; simp [hs]
  · rw [if_neg hq, List.getElem?_map, List.getElem?_map]
    by_cases hq2 : q < n
    · rw [List.getElem?_range hq2]; simp [h q (fun e => hq e.symm)]
    · rw [List.getElem?_eq_none (by simp; omega)]; rfl
def hadF (l : List Grd) (ms : List Mix) (j : Nat) : Bool := ms.any fun m => decide (hasG l m + 1 = (j : Int))
def hadV (l : List Grd) (ms : List Mix) (j : Nat) : Value := .bool (hadF l ms j)
theorem hadF_step {l : List Grd} {ms : List Mix} {i j : Nat} {m : Mix} (h : ms[i]? = some m) : hadF l (ms.take (i + 1)) j = (hadF l (ms.take i) j || decide (hasG l m + 1 = (j : Int))) := by
  unfold hadF; rw [List.take_add_one, h, List.any_append]; simp
def canP (l : List Grd) (ms : List Mix) (i : Nat) : List Int := ((List.range i).filter fun j => hadF l ms (j + 1)).map fun (j : Nat) => (j : Int)
def canF (l : List Grd) (ms : List Mix) : List Int := canP l ms l.length ++ bif hadF l ms 0 then [-1] else []
theorem canP_step (l : List Grd) (ms : List Mix) (i : Nat) : canP l ms (i + 1) = canP l ms i ++ bif hadF l ms (i + 1) then [(i : Int)] else [] := by
  unfold canP
  rw [List.range_succ, List.filter_append, List.map_append]
  cases h : hadF l ms (i + 1) <;> simp [h]
theorem had_iff {l : List Grd} {ms : List Mix} {j : Nat} : hadF l ms j = true ↔ ∃ m ∈ ms, hasG l m = (j : Int) - 1 := by
  unfold hadF
  rw [List.any_eq_true]
  constructor
  · rintro ⟨m, h1, h2⟩; exact ⟨m, h1, by have := of_decide_eq_true h2; omega⟩
  · rintro ⟨m, h1, h2⟩; exact ⟨m, h1, decide_eq_true (by omega)⟩
theorem can_ref {l : List Grd} {b : Box} (hb : Bok b) {ms : List Mix} (h : ∀ m, m ∈ ms ↔ Mx b m) : canF l ms = canG l b := by
  have h1 : ∀ gr : Int, (gr = -1 ∨ ∃ i x, l[i]? = some x ∧ gr = (i : Nat)) → ((shwB l b gr).isSome = true ↔ ∃ m ∈ ms, hasG l m = gr) := fun gr hg => by
    obtain ⟨h2, h3⟩ := shw_ok hb hg
    cases hs : shwB l b gr with
    | none => exact ⟨fun h => (by cases h), fun ⟨m, h4, h5⟩ => absurd h5 (h3 hs m ((h m).1 h4))⟩
    | some c => exact ⟨fun _ => ⟨mixt c, (h _).2 (h2 c hs).1, (h2 c hs).2.1⟩, fun _ => rfl⟩
  unfold canF canG canP
  have e0 : hadF l ms 0 = (shwB l b (-1)).isSome := by
    rw [Bool.eq_iff_iff, had_iff, h1 (-1) (.inl rfl)]; simp
  rw [e0]
  congr 2
  apply List.filter_congr
  intro j hj
  have hj := List.mem_range.1 hj
  rw [Bool.eq_iff_iff, had_iff, h1 (j : Nat) (.inr ⟨j, _, List.getElem?_eq_getElem hj, rfl⟩)]
  simp
theorem pay_ref {l : List Grd} {s : List Int} (h0 : 1 ≤ s.length) (hp : ∀ gr, prc l gr ≤ 100) : s.foldl (fun m gr => min m (prc l gr)) 101 = leastP l s := by
  obtain ⟨x, t, rfl⟩ : ∃ x t, s = x :: t := by cases s with
    | nil => simp at h0
    | cons a c => exact ⟨a, c, rfl⟩
  unfold leastP
  have := hp x
  rw [List.foldl_cons, List.foldl_cons, show min 101 (prc l x) = prc l x by omega, show min 100 (prc l x) = prc l x by omega]
theorem fold101 {g : Gat} (hg : g.ok) : ∀ (s : List Int) (a : Int), 0 ≤ a ∧ a ≤ 101 → 0 ≤ s.foldl (fun m gr => min m (prc g.grs gr)) a ∧ s.foldl (fun m gr => min m (prc g.grs gr)) a ≤ 101
  | [], a, h => h
  | x :: s, a, h => by
    have := prc_bd hg x
    rw [List.foldl_cons]
    exact fold101 hg s _ (by omega)
theorem c_rCan (g : Gat) (ag : Option Addr) (cg : Nat) (hlg : g.grs.length ≤ 9223372036854775807) (hg4 : g.grs.length ≤ 4) (ms : List Mix) (hms : ∀ m ∈ ms, Mxt m) (hl : ms.length ≤ 100000) (al : Option Addr) (cy : Nat) (H : Heap) (R : Facts) [hG : MemRows ag 5 (grows g.grs) R] [hA : MemRows al 4 (mrows ms) R] :
    Fn Try.prog 31 [g.v (g.sl ag cg), .slice al ms.length cy] H R (fun v H' R' => ∃ a9 c9, v = .slice a9 (canF g.grs ms).length c9 ∧ H' = H ∧ R' = RowsA a9 1 (irows (canF g.grs ms)) :: R) := by
 refine fn_of Try.func31 rfl Try.ntmps31 rfl ?_
 refine sy_seq ?_
 refine sy_tx' [0, 1] rfl ?_
 refine bx rfl rfl rfl (fun b2 => ?_)
 refine sp rfl (PE.assign rfl) rfl ?_
 refine sy_seq ?_
 refine sy_tx' [0, 1] rfl ?_
 refine mkS rfl ap144 zl4 rfl rfl (Nat.le_refl _) ⟨by decide, by decide⟩ rfl (fun b9 => ?_)
 refine sp rfl (PE.assign rfl) rfl ?_
 refine sy_seq ?_
 refine sy_seq ?_
 refine sy_tx' [0] rfl ?_
 refine sp rfl (PE.assign rfl) rfl ?_
 refine sy_block ?_
 refine sy_loop (ι := {i : Nat // i ≤ ms.length}) (fun i => ⟨[(1, .slice al ms.length cy), (2, .pointer (some ⟨b2, 0, none⟩)), (5, .slice (some ⟨b9, 0, none⟩) 5 5), (6, .int .i64 i.1)], (b9, cel 4 ((List.range 5).map (hadV g.grs (ms.take i.1)))) :: (b2, cel 59 (gtl g (g.sl ag cg))) :: H, R⟩) (fun i => ms.length - i.1) ⟨0, by omega⟩ ?_ (fun i => ?_)
 exact sy_at (by repeat' first | exact Sub.nil | apply Sub.cons | rfl | (simp [lk]; omega)) (fun w h => by dsimp only; rw [List.take_zero]; exact h)
 obtain ⟨i, hi⟩ := i
 dsimp only at hi ⊢
 refine sy_seq ?_
 refine sy_seq ?_
 refine sy_tx' [0, 1, 2, 3] rfl ?_
 refine sp rfl (PE.move rfl) rfl ?_
 refine sp rfl (PE.move rfl) rfl ?_
 refine sp rfl (PE.lenSl isl66 rfl) rfl ?_
 refine sp rfl (PE.lss rfl rfl) rfl ?_
 refine sy_cond rfl (fun hc0 => ?_) (fun hc0 => ?_)
 try simp only [decide_eq_true_eq, decide_eq_false_iff_not, Bool.and_eq_true, Bool.or_eq_true, Bool.not_eq_true', Int.not_le, Int.not_lt] at hc0
 obtain ⟨m, hm⟩ : ∃ m, ms[i]? = some m := ⟨_, List.getElem?_eq_getElem (by omega)⟩
 have hmx := hms m (List.mem_of_getElem? hm)
 have hrg : -1 ≤ hasG g.grs m ∧ hasG g.grs m < g.grs.length := by
   rcases hasG_rg g.grs m with h | ⟨j, x, hx, h⟩
   · omega
   · have := (List.getElem?_eq_some_iff.1 hx).1; omega
 obtain ⟨q, hq⟩ : ∃ q : Nat, hasG g.grs m + 1 = q := ⟨(hasG g.grs m + 1).toNat, by omega⟩
 refine sy_addr (a := al) (sz := 4) (rows := mrows ms) (by intro h9; have h8 := congrArg List.length h9; simp at h8; simp [h8] at hm) (fun ba oa hea => ?_)
 subst hea
 refine sy_skip ?_
 refine sy_seq ?_
 refine sy_block ?_
 refine sy_draw [0, 0, 0, 0, 12, 28, 62, 126, 255, 511] (.tk 0 (.ld 1 (.tk 2 (.tk 3 (.tk 4 (.ld 5 (.big 6 (.tk 7 (.tk 8 (.big 9 .done)))))))))) mixed (by kernel_rfl) ?_
 refine tk rfl (PE.move rfl) rfl ?_
 refine ld rfl rfl (lhA [_, _, _] ag59 rfl rfl rfl) rfl ?_
 refine tk rfl (PE.move rfl) rfl ?_
 refine tk rfl (PE.move rfl) rfl ?_
 refine tk rfl (PE.indexAddr el66 rfl rfl (by omega) (by omega)) rfl ?_
 refine ld rfl rfl (lfA ag29 (row := ints m) (mr_get hm) (by rw [ints_length]; exact hmx.len)) rfl ?_
 refine clV rfl cal38 rfl rfl (c_rHas g ag cg hlg (by omega) m hmx _ _) ?_
 refine bg (fun w hs => ⟨trivial, trivial, trivial⟩) ?_
 refine tk rfl (PE.add rfl rfl (by omega)) rfl ?_
 rw [hq]
 refine tk rfl (PE.indexAddr el144 rfl rfl (by omega) (by omega)) rfl ?_
 refine stoE (l' := (List.range 5).map (hadV g.grs (ms.take (i + 1)))) rfl rfl rfl cn4 rfl rfl rfl (by show spl _ _ [.bool true] = _; rw [show Value.bool true = hadV g.grs (ms.take (i + 1)) q from by unfold hadV; rw [hadF_step hm, decide_eq_true hq, Bool.or_true]]; exact rng_set _ _ (by omega) (fun j hj => by unfold hadV; rw [hadF_step hm, decide_eq_false (by omega), Bool.or_false])) (by rw [List.length_map, List.length_range]; show 0 + ((q : Nat) : Int).toNat * 1 + 1 ≤ 5; omega) ?_
 refine bg (fun w hs => trivial) ?_
 refine sy_tx' [0, 1, 2] rfl ?_
 refine sp rfl (PE.move rfl) rfl ?_
 refine sp rfl (PE.add rfl rfl (by omega)) rfl ?_
 refine sp rfl (PE.assign rfl) rfl ?_
 exact sy_next ⟨i + 1, by omega⟩ (by dsimp only; omega) (by repeat' first | exact Sub.nil | apply Sub.cons | rfl | (simp [lk]; omega)) (fun _ h => h)
 try simp only [decide_eq_true_eq, decide_eq_false_iff_not, Bool.and_eq_true, Bool.or_eq_true, Bool.not_eq_true', Int.not_le, Int.not_lt] at hc0
 obtain rfl : i = ms.length := by omega
 rw [List.take_length]
 refine sy_exit ?_
 repeat refine sy_tx ?_
 refine sy_bx ?_
 refine sy_seq ?_
 refine sy_tx' [0] rfl ?_
 refine sp rfl (PE.assign rfl) rfl ?_
 refine sy_seq ?_
 refine sy_seq ?_
 refine sy_tx' [0] rfl ?_
 refine sp rfl (PE.assign rfl) rfl ?_
 refine sy_block ?_
 refine sy_loop (ι := (i : {i : Nat // i ≤ g.grs.length}) × OSl 3 1 (irows (canP g.grs ms i.1))) (fun x => ⟨[(2, .pointer (some ⟨b2, 0, none⟩)), (5, .slice (some ⟨b9, 0, none⟩) 5 5), (7, x.2.fs), (8, .int .i64 x.1.1)], x.2.G ++ (b9, cel 4 ((List.range 5).map (hadV g.grs ms))) :: (b2, cel 59 (gtl g (g.sl ag cg))) :: H, R⟩) (fun x => g.grs.length - x.1.1) ⟨⟨0, by omega⟩, OSl.nil _ _⟩ ?_ (fun x => ?_)
 exact sy_at (by repeat' first | exact Sub.nil | apply Sub.cons | rfl | (simp [lk]; omega)) (fun _ h => h)
 obtain ⟨⟨i, hi⟩, o⟩ := x
 dsimp only at hi o ⊢
 have hcp : (canP g.grs ms i).length ≤ i := by unfold canP; rw [List.length_map]; exact Nat.le_trans (List.length_filter_le _ _) (by simp)
 refine sy_seq ?_
 refine sy_seq ?_
 refine sy_tx' [0, 1, 2, 3, 4] rfl ?_
 refine sp rfl (PE.move rfl) rfl ?_
 refine sp rfl (PE.fieldAddr fo59_2 rfl) rfl ?_
 refine spL rfl rfl (lh sc57 rfl rfl) rfl ?_
 refine sp rfl (PE.lenSl isl57 rfl) rfl ?_
 refine sp rfl (PE.lss rfl rfl) rfl ?_
 refine sy_cond rfl (fun hc1 => ?_) (fun hc1 => ?_)
 try simp only [decide_eq_true_eq, decide_eq_false_iff_not, Bool.and_eq_true, Bool.or_eq_true, Bool.not_eq_true', Int.not_le, Int.not_lt] at hc1
 refine sy_skip ?_
 refine sy_seq ?_
 refine sy_block ?_
 refine sy_seq ?_
 refine sy_tx' [0, 1, 2, 3, 4] rfl ?_
 refine sp rfl (PE.move rfl) rfl ?_
 refine sp rfl (PE.move rfl) rfl ?_
 refine sp rfl (PE.add rfl rfl (by omega)) rfl ?_
 rw [show (i : Int) + 1 = ((i + 1 : Nat) : Int) from by omega]
 refine sp rfl (PE.indexAddr el144 rfl rfl (by omega) (by omega)) rfl ?_
 refine spL rfl rfl (lh (v := hadV g.grs ms (i + 1)) sc4 rfl (by rw [show 0 + ((i + 1 : Nat) : Int).toNat * 1 = i + 1 from by omega, List.getElem?_map, List.getElem?_range (by omega)]; rfl)) rfl ?_
 refine sy_cond rfl (fun hc2 => ?_) (fun hc2 => ?_)
 have hst : canP g.grs ms (i + 1) = canP g.grs ms i ++ [(i : Int)] := by rw [canP_step, show hadF g.grs ms (i + 1) = true from hc2]; rfl
 refine sy_tx' [0, 1, 2, 3, 4] rfl ?_
 refine sp rfl (PE.move rfl) rfl ?_
 refine sp rfl (PE.move rfl) rfl ?_
 refine bsl (out := [_]) rfl sl34 zl3 rfl rfl rfl rfl rfl rfl (fun b39 => ?_)
 refine apO (o) rfl ap34 rfl rfl (rowsH (row := [.int .i64 i]) rfl) rfl rfl ((by simp only [irows, List.length_map, List.length_singleton]; omega)) rfl (fun o40 => ?_)
 refine sp rfl (PE.assign rfl) rfl ?_
 refine sy_tx' [0, 1, 2] rfl ?_
 refine sp rfl (PE.move rfl) rfl ?_
 refine sp rfl (PE.add rfl rfl (by omega)) rfl ?_
 refine sp rfl (PE.assign rfl) rfl ?_
 exact sy_next ⟨⟨i + 1, by omega⟩, o40.cast (by rw [hst]; simp [irows])⟩ (by dsimp only; omega) (by repeat' first | exact Sub.nil | apply Sub.cons | rfl | (simp [lk]; omega)) (fun w h => h.del b39)
 have hst : canP g.grs ms (i + 1) = canP g.grs ms i := by rw [canP_step, show hadF g.grs ms (i + 1) = false from hc2]; simp
 refine sy_skip ?_
 refine sy_tx' [0, 1, 2] rfl ?_
 refine sp rfl (PE.move rfl) rfl ?_
 refine sp rfl (PE.add rfl rfl (by omega)) rfl ?_
 refine sp rfl (PE.assign rfl) rfl ?_
 exact sy_next ⟨⟨i + 1, by omega⟩, o.cast (by rw [hst])⟩ (by dsimp only; omega) (by repeat' first | exact Sub.nil | apply Sub.cons | rfl | (simp [lk]; omega)) (fun _ h => h)
 try simp only [decide_eq_true_eq, decide_eq_false_iff_not, Bool.and_eq_true, Bool.or_eq_true, Bool.not_eq_true', Int.not_le, Int.not_lt] at hc1
 obtain rfl : i = g.grs.length := by omega
 refine sy_exit ?_
 repeat refine sy_tx ?_
 refine sy_bx ?_
 refine sy_seq ?_
 refine sy_seq ?_
 refine sy_tx' [0, 1, 2] rfl ?_
 refine sp rfl (PE.move rfl) rfl ?_
 refine sp rfl (PE.indexAddr el144 rfl rfl (by omega) (by omega)) rfl ?_
 refine spL rfl rfl (lh (v := hadV g.grs ms 0) sc4 rfl rfl) rfl ?_
 refine sy_cond rfl (fun hc3 => ?_) (fun hc3 => ?_)
 have hst : canF g.grs ms = canP g.grs ms g.grs.length ++ [-1] := by unfold canF; rw [show hadF g.grs ms 0 = true from hc3]; rfl
 refine sy_tx' [0, 1, 2, 3] rfl ?_
 refine sp rfl (PE.move rfl) rfl ?_
 refine bsl (out := [_]) rfl sl34 zl3 rfl rfl rfl rfl rfl rfl (fun b45 => ?_)
 refine apO (o) rfl ap34 rfl rfl (rowsH (row := [.int .i64 (-1)]) rfl) rfl rfl ((by simp only [irows, List.length_map, List.length_singleton]; omega)) rfl (fun o46 => ?_)
 refine sp rfl (PE.assign rfl) rfl ?_
 refine sy_seq ?_
 refine sy_tx' [0, 1] rfl ?_
 refine sp rfl (PE.move rfl) rfl ?_
 refine sp rfl (PE.assign rfl) rfl ?_
 refine sy_ret ?_
 obtain ⟨a9, c9, hfe, hff⟩ := (o46.cast (rows' := irows (canF g.grs ms)) (by rw [hst]; simp [irows])).freeze
 rw [List.length_map] at hfe
 exact sy_return (vs := [_]) rfl (.cons (RV.tmp rfl) .nil) rfl ⟨a9, c9, hfe, rfl, rfl⟩ (fun w h => (((hff (h.pullG o46.G)).del b45).del b9).del b2)
 have hst : canF g.grs ms = canP g.grs ms g.grs.length := by unfold canF; rw [show hadF g.grs ms 0 = false from hc3]; simp
 refine sy_skip ?_
 refine sy_seq ?_
 refine sy_tx' [0, 1] rfl ?_
 refine sp rfl (PE.move rfl) rfl ?_
 refine sp rfl (PE.assign rfl) rfl ?_
 refine sy_ret ?_
 obtain ⟨a9, c9, hfe, hff⟩ := (o.cast (rows' := irows (canF g.grs ms)) (by rw [hst])).freeze
 rw [List.length_map] at hfe
 exact sy_return (vs := [_]) rfl (.cons (RV.tmp rfl) .nil) rfl ⟨a9, c9, hfe, rfl, rfl⟩ (fun w h => ((hff (h.pullG o.G)).del b9).del b2)
theorem c_rPay (g : Gat) (ag : Option Addr) (cg : Nat) (hlg : g.grs.length ≤ 9223372036854775807) (hg : g.ok) (c : Crt) (hc : c.ok) (sc : Value) (can : List Int) (hcn : ∀ gr ∈ can, gr = -1 ∨ ∃ i x, g.grs[i]? = some x ∧ gr = (i : Nat)) (hl : can.length ≤ 1000) (al : Option Addr) (cy : Nat) (H : Heap) (R : Facts) [hG : MemRows ag 5 (grows g.grs) R] [hA : MemRows al 1 (irows can) R] :
    FnV Try.prog 32 [g.v (g.sl ag cg), c.v sc, .slice al can.length cy] H R (spv ((netP g c).1 * (can.foldl (fun m gr => min m (prc g.grs gr)) 101)) ((netP g c).2 * mostP g.grs can)) := by
 refine fn_of Try.func32 rfl Try.ntmps32 rfl ?_
 refine sy_seq ?_
 refine sy_tx' [0, 1, 2] rfl ?_
 refine bx rfl rfl rfl (fun b3 => ?_)
 refine bx rfl rfl rfl (fun b4 => ?_)
 refine alc rfl zl41 rfl (fun b6 => ?_)
 refine sy_seq ?_
 refine sy_tx' [0, 1] rfl ?_
 refine sp rfl (PE.assign rfl) rfl ?_
 refine sp rfl (PE.assign rfl) rfl ?_
 refine sy_seq ?_
 refine sy_seq ?_
 refine sy_tx' [0] rfl ?_
 refine sp rfl (PE.assign rfl) rfl ?_
 refine sy_block ?_
 refine sy_loop (ι := {i : Nat // i ≤ can.length}) (fun i => ⟨[(2, .slice al can.length cy), (3, .pointer (some ⟨b3, 0, none⟩)), (4, .pointer (some ⟨b4, 0, none⟩)), (6, .pointer (some ⟨b6, 0, none⟩)), (7, .int .i64 ((can.take i.1).foldl (fun m gr => min m (prc g.grs gr)) 101)), (8, .int .i64 ((can.take i.1).foldl (fun m gr => max m (prc g.grs gr)) 0)), (9, .int .i64 i.1)], (b6, cel 41 [.int .i64 0, .int .i64 0]) :: (b4, cel 63 (ctl c sc)) :: (b3, cel 59 (gtl g (g.sl ag cg))) :: H, R⟩) (fun i => can.length - i.1) ⟨0, by omega⟩ ?_ (fun i => ?_)
 exact sy_at (by repeat' first | exact Sub.nil | apply Sub.cons | rfl | (simp [lk]; omega)) (fun _ h => h)
 obtain ⟨i, hi⟩ := i
 dsimp only at hi ⊢
 have hfl := fold101 hg (can.take i) 101 (by omega)
 have hfm := (fold_lm hg (can.take i) 100 0 (by omega) (by omega)).2
 refine sy_seq ?_
 refine sy_seq ?_
 refine sy_tx' [0, 1, 2, 3] rfl ?_
 refine sp rfl (PE.move rfl) rfl ?_
 refine sp rfl (PE.move rfl) rfl ?_
 refine sp rfl (PE.lenSl isl34 rfl) rfl ?_
 refine sp rfl (PE.lss rfl rfl) rfl ?_
 refine sy_cond rfl (fun hc0 => ?_) (fun hc0 => ?_)
 try simp only [decide_eq_true_eq, decide_eq_false_iff_not, Bool.and_eq_true, Bool.or_eq_true, Bool.not_eq_true', Int.not_le, Int.not_lt] at hc0
 obtain ⟨gr, hgr⟩ : ∃ gr, can[i]? = some gr := ⟨_, List.getElem?_eq_getElem (by omega)⟩
 have hpb := prc_bd hg gr
 have hrg := hcn gr (List.mem_of_getElem? hgr)
 have hst1 : ((can.take (i + 1)).foldl (fun m gr => min m (prc g.grs gr)) 101) = min ((can.take i).foldl (fun m gr => min m (prc g.grs gr)) 101) (prc g.grs gr) := by rw [List.take_add_one, hgr, List.foldl_append]; rfl
 have hst2 : ((can.take (i + 1)).foldl (fun m gr => max m (prc g.grs gr)) 0) = max ((can.take i).foldl (fun m gr => max m (prc g.grs gr)) 0) (prc g.grs gr) := by rw [List.take_add_one, hgr, List.foldl_append]; rfl
 refine sy_addr (a := al) (sz := 1) (rows := irows can) (by intro h9; have h8 := congrArg List.length h9; simp at h8; simp [h8] at hgr) (fun ba oa hea => ?_)
 subst hea
 refine sy_skip ?_
 refine sy_seq ?_
 refine sy_block ?_
 refine sy_seq ?_
 refine sy_tx' [0] rfl ?_
 refine sp rfl (PE.assign rfl) rfl ?_
 refine sy_seq ?_
 refine sy_seq ?_
 refine sy_tx' [0, 1, 2, 3, 4] rfl ?_
 refine sp rfl (PE.move rfl) rfl ?_
 refine sp rfl (PE.move rfl) rfl ?_
 refine sp rfl (PE.indexAddr el34 rfl rfl (by omega) (by omega)) rfl ?_
 refine spL rfl rfl (lf0 (x := .int .i64 gr) sc3 (by simp [irows, hgr]; rfl) rfl) rfl ?_
 refine sp rfl (PE.geq rfl rfl) rfl ?_
 refine sy_cond rfl (fun hc1 => ?_) (fun hc1 => ?_)
 try simp only [decide_eq_true_eq, decide_eq_false_iff_not, Bool.and_eq_true, Bool.or_eq_true, Bool.not_eq_true', Int.not_le, Int.not_lt] at hc1
 obtain ⟨j, x, hx, rfl⟩ := hrg.resolve_left (by omega)
 have hj := (List.getElem?_eq_some_iff.1 hx).1
 have hpx : prc g.grs (j : Nat) = x.price := by unfold prc; rw [decide_eq_false (by omega), Int.toNat_natCast, hx]; rfl
 refine sy_addr (a := ag) (sz := 5) (rows := grows g.grs) (by intro h0; simp [grows] at h0; simp [h0] at hx) (fun bg og heg => ?_)
 subst heg
 refine sy_draw [0, 1, 0, 0, 12, 28, 63, 127, 255, 511] (.tk 0 (.ld 1 (.tk 2 (.tk 3 (.tk 4 (.ld 5 (.tk 6 (.tk 7 (.ld 8 (.tk 9 .done)))))))))) mixed (by kernel_rfl) ?_
 refine tk rfl (PE.fieldAddr fo59_2 rfl) rfl ?_
 refine ld rfl rfl (lh sc57 rfl rfl) rfl ?_
 refine tk rfl (PE.move rfl) rfl ?_
 refine tk rfl (PE.move rfl) rfl ?_
 refine tk rfl (PE.indexAddr el34 rfl rfl (by omega) (by omega)) rfl ?_
 refine ld rfl rfl (lf0 (x := .int .i64 ((j : Nat) : Int)) sc3 (by simp [irows, hgr]; rfl) rfl) rfl ?_
 refine tk rfl (PE.indexAddr el57 rfl rfl (by omega) (by omega)) rfl ?_
 refine tk rfl (PE.fieldAddr fo142_4 rfl) rfl ?_
 refine ld rfl rfl (lf (x := .int .i64 x.price) sc3 (gr_get (by simpa using hx)) rfl) rfl ?_
 refine tk rfl (PE.assign rfl) rfl ?_
 refine sy_seq ?_
 refine sy_tx' [0, 1, 2, 3] rfl ?_
 refine sp rfl (PE.move rfl) rfl ?_
 refine sp rfl (PE.move rfl) rfl ?_
 refine sp rfl (PE.min rfl rfl) rfl ?_
 refine sp rfl (PE.assign rfl) rfl ?_
 refine sy_tx' [0, 1, 2, 3] rfl ?_
 refine sp rfl (PE.move rfl) rfl ?_
 refine sp rfl (PE.move rfl) rfl ?_
 refine sp rfl (PE.max rfl rfl) rfl ?_
 refine sp rfl (PE.assign rfl) rfl ?_
 refine sy_tx' [0, 1, 2] rfl ?_
 refine sp rfl (PE.move rfl) rfl ?_
 refine sp rfl (PE.add rfl rfl (by omega)) rfl ?_
 refine sp rfl (PE.assign rfl) rfl ?_
 exact sy_next ⟨i + 1, by omega⟩ (by dsimp only; omega) (by dsimp only; rw [hst1, hst2, hpx]; exact (by repeat' first | exact Sub.nil | apply Sub.cons | rfl | (simp [lk]; omega))) (fun _ h => h)
 try simp only [decide_eq_true_eq, decide_eq_false_iff_not, Bool.and_eq_true, Bool.or_eq_true, Bool.not_eq_true', Int.not_le, Int.not_lt] at hc1
 have hpx : prc g.grs gr = 0 := by unfold prc; rw [decide_eq_true (show gr = -1 by rcases hrg with h | ⟨j, x, hx, h⟩ <;> omega)]; rfl
 refine sy_skip ?_
 refine sy_seq ?_
 refine sy_tx' [0, 1, 2, 3] rfl ?_
 refine sp rfl (PE.move rfl) rfl ?_
 refine sp rfl (PE.move rfl) rfl ?_
 refine sp rfl (PE.min rfl rfl) rfl ?_
 refine sp rfl (PE.assign rfl) rfl ?_
 refine sy_tx' [0, 1, 2, 3] rfl ?_
 refine sp rfl (PE.move rfl) rfl ?_
 refine sp rfl (PE.move rfl) rfl ?_
 refine sp rfl (PE.max rfl rfl) rfl ?_
 refine sp rfl (PE.assign rfl) rfl ?_
 refine sy_tx' [0, 1, 2] rfl ?_
 refine sp rfl (PE.move rfl) rfl ?_
 refine sp rfl (PE.add rfl rfl (by omega)) rfl ?_
 refine sp rfl (PE.assign rfl) rfl ?_
 exact sy_next ⟨i + 1, by omega⟩ (by dsimp only; omega) (by dsimp only; rw [hst1, hst2, hpx]; exact (by repeat' first | exact Sub.nil | apply Sub.cons | rfl | (simp [lk]; omega))) (fun _ h => h)
 try simp only [decide_eq_true_eq, decide_eq_false_iff_not, Bool.and_eq_true, Bool.or_eq_true, Bool.not_eq_true', Int.not_le, Int.not_lt] at hc0
 obtain rfl : i = can.length := by omega
 rw [List.take_length] at *
 have hne := net_bd hg hc
 obtain ⟨hv1, hv2⟩ := hne
 have hm1 := mul_b hv1.1 hv1.2 hfl.1 hfl.2
 have hm2 := mul_b hv2.1 hv2.2 hfm.1 hfm.2
 refine sy_exit ?_
 repeat refine sy_tx ?_
 refine sy_bx ?_
 refine sy_seq ?_
 refine sy_draw [0, 0, 3, 7, 0, 31, 0, 0, 199, 455, 0, 1991, 4095, 8191] (.ld 0 (.ld 1 (.tk 4 (.ld 6 (.ld 7 (.tk 10 (.big 2 (.tk 3 (.tk 5 (.big 8 (.tk 9 (.tk 11 (.tk 12 (.big 13 .done)))))))))))))) mixed (by kernel_rfl) ?_
 refine ld rfl rfl (lhA [_, _, _] ag59 rfl rfl rfl) rfl ?_
 refine ld rfl rfl (lhA [_, _, _] ag63 rfl rfl rfl) rfl ?_
 refine tk rfl (PE.move rfl) rfl ?_
 refine ld rfl rfl (lhA [_, _, _] ag59 rfl rfl rfl) rfl ?_
 refine ld rfl rfl (lhA [_, _, _] ag63 rfl rfl rfl) rfl ?_
 refine tk rfl (PE.move rfl) rfl ?_
 refine clV rfl cal49 rfl rfl (c_rNet g hg (g.sl ag cg) c hc sc _ _) ?_
 refine bg (fun w hs => ⟨(lhA [_, _, _] ag63 rfl rfl rfl) w hs, (lhA [_, _, _] ag59 rfl rfl rfl) w hs, trivial, trivial, trivial⟩) ?_
 refine tk rfl ((PE.fieldI (l := [(netP g c).1, (netP g c).2]) (show fTy Try.prog 41 0 = some (3, 0) from by kernel_rfl) (eqB_ok 10000 3 false 1 eqf3) (fun _ => rfl) rfl (by show 0 + 1 ≤ 2; decide)).to (show mkv false (([(netP g c).1, (netP g c).2].drop 0).take 1) = .int .i64 (netP g c).1 from rfl)) rfl ?_
 refine tk rfl (PE.mul rfl rfl (by omega)) rfl ?_
 refine clV rfl cal49 rfl rfl (c_rNet g hg (g.sl ag cg) c hc sc _ _) ?_
 refine bg (fun w hs => ⟨trivial, trivial, trivial⟩) ?_
 refine tk rfl ((PE.fieldI (l := [(netP g c).1, (netP g c).2]) (show fTy Try.prog 41 1 = some (3, 1) from by kernel_rfl) (eqB_ok 10000 3 false 1 eqf3) (fun _ => rfl) rfl (by show 1 + 1 ≤ 2; decide)).to (show mkv false (([(netP g c).1, (netP g c).2].drop 1).take 1) = .int .i64 (netP g c).2 from rfl)) rfl ?_
 refine tk rfl (PE.mul rfl rfl (by omega)) rfl ?_
 refine tk rfl (PE.build (out := [_, _]) pl41 zl41 rfl rfl) rfl ?_
 refine sto rfl rfl rfl cn41 rfl rfl rfl rfl ?_
 refine bg (fun w hs => trivial) ?_
 refine sy_ret ?_
 exact sy_return (vs := [_]) rfl (.cons (RV.cell rfl (lhA [_, _] ag41 rfl rfl rfl)) .nil) rfl ⟨rfl, rfl, rfl⟩ drp
end Go.Proofs.Ytknoaljnelfklaa
namespace Go.Proofs.Ytknoaljnelfklaa
set_option linter.unusedSimpArgs false
set_option linter.unusedVariables false
open Go
theorem cal30 : cal Try.prog 30 = true := by kernel_rfl
theorem eqf29 : eqB Try.prog 10000 29 = some (true, 4) := by kernel_rfl
theorem eqg29 : Try.prog.eqGuardType Try.prog.depth 29 = false := by kernel_rfl
theorem told_err {g : Gat} {c : Crt} (h : bothE g c ≠ 0) (bad : Bool) : toldE g c bad = bothE g c := by unfold toldE; rw [decide_eq_true h]; rfl
theorem told_one {g : Gat} {c : Crt} (h : bothE g c = 0) : toldE g c true = 1 := by unfold toldE; rw [decide_eq_false (show ¬ bothE g c ≠ 0 by omega)]; rfl
theorem told_0 {g : Gat} {c : Crt} (h : toldE g c false = 0) : bothE g c = 0 ∧ ∃ b, clo (boxF g.miss c.hs fun _ => true) = some b ∧ mixP g c = mixt b ∧ bndB g c = b ∧ Tight b := by
  have hb : bothE g c = 0 := by
    by_cases h1 : bothE g c = 0
    · exact h1
    · rw [told_err h1] at h; exact h
  cases hc : clo (boxF g.miss c.hs fun _ => true) with
  | none => unfold toldE at h; rw [decide_eq_false (show ¬ bothE g c ≠ 0 by omega), hc] at h; cases h
  | some b => exact ⟨hb, b, rfl, by unfold mixP; rw [decide_eq_false (show ¬ toldE g c false ≠ 0 by omega), hc]; rfl, bnd_of h hc, told_tight hc⟩
theorem both_ok {g : Gat} {c : Crt} (h : bothE g c = 0) : g.ok ∧ c.ok := by
  have hg : g.check = 0 := by
    by_cases h1 : g.check = 0
    · exact h1
    · unfold bothE at h; rw [decide_eq_true h1] at h; exact absurd h h1
  refine ⟨gat_ok.1 hg, crt_ok.1 ?_⟩
  unfold bothE at h; rw [hg] at h; exact h
theorem box_all {g : Gat} {c : Crt} (hg : g.ok) (hc : c.ok) (m : Mix) : Mx (boxF g.miss c.hs fun _ => true) m ↔ (Mxt m ∧ ∀ x ∈ c.hs, fitB g.miss x m = true) := by
  rw [boxF_mx hg.miss.1 hc.hs]
  constructor
  · rintro ⟨h1, h2⟩
    refine ⟨h1, fun x hx => ?_⟩
    obtain ⟨i, hi⟩ := List.getElem?_of_mem hx
    exact h2 i x hi rfl
  · rintro ⟨h1, h2⟩
    exact ⟨h1, fun i x hi _ => h2 x (List.mem_of_getElem? hi)⟩
theorem all_link {g : Gat} {c : Crt} (h0 : bothE g c = 0) {ms l : List Mix} (hms : ∀ m, m ∈ ms ↔ Mxt m) (hl : l = partS g.miss c.hs ms 0) : (∀ m ∈ l, Mxt m) ∧ l.length ≤ ms.length ∧ (0 < l.length → toldE g c false = 0 ∧ Tight (bndB g c) ∧ ∀ m, m ∈ l ↔ Mx (bndB g c) m) ∧ (¬ 0 < l.length → toldE g c false = 7) := by
  obtain ⟨hg, hc⟩ := both_ok h0
  have hmem : ∀ m, m ∈ l ↔ Mx (boxF g.miss c.hs fun _ => true) m := fun m => by
    rw [hl, box_all hg hc]
    unfold partS
    rw [List.mem_filter, hms, decide_eq_true_eq, missQ_0]
  refine ⟨fun m hm => ((box_all hg hc m).1 ((hmem m).1 hm)).1, by rw [hl]; exact List.length_filter_le _ _, fun hp => ?_, fun hn => ?_⟩
  · cases hcl : clo (boxF g.miss c.hs fun _ => true) with
    | none =>
      obtain ⟨m, hm⟩ := List.exists_mem_of_length_pos hp
      exact absurd ((hmem m).1 hm) (clo_none (boxF_ok _ _ _) hcl m)
    | some b =>
      have ht : toldE g c false = 0 := by unfold toldE; rw [decide_eq_false (show ¬ bothE g c ≠ 0 by omega), hcl]; rfl
      obtain ⟨h3, h4⟩ := clo_some (boxF_ok _ _ _) hcl
      rw [bnd_of ht hcl]
      exact ⟨ht, h3, fun m => (hmem m).trans (h4 m).symm⟩
  · cases hcl : clo (boxF g.miss c.hs fun _ => true) with
    | none => unfold toldE; rw [decide_eq_false (show ¬ bothE g c ≠ 0 by omega), hcl]; rfl
    | some b =>
      obtain ⟨h3, h4⟩ := clo_some (boxF_ok _ _ _) hcl
      exact absurd (List.length_pos_of_mem ((hmem _).2 ((h4 _).1 (mixt_mx h3)))) hn
end Go.Proofs.Ytknoaljnelfklaa
