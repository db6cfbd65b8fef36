/- Walks of the functions of the program, and the laws that join them: what the last theorem of this claim needs, in order. -/
import Derived.Test.YtndhkpnaeocnhaaGreatDe3
namespace Go.Proofs.YtndhkpnaeocnhaaGreat
set_option linter.unusedSimpArgs false
set_option linter.unusedVariables false
open Go
theorem OSl.freezeC {e sz : Nat} {rows : List (List Value)} (o : OSl e sz rows) : ∃ a c, o.fs = .slice a rows.length c ∧ rows.length ≤ c ∧ ∀ {H : Heap} {R : Facts} {w : World}, St (o.G ++ H) R w → St H (RowsA a sz rows :: R) w := by
  obtain ⟨fs, G, hl, his⟩ := o
  rcases his with ⟨rfl, rfl, rfl⟩ | ⟨b, cap, junk, rfl, rfl, _, hc, _⟩
  · exact ⟨none, 0, rfl, Nat.le_refl _, fun {H R w} h => (St.also (H := H) (R := R) h (f := RowsA none sz []) (fun w' _ => fun i row hi => by simp at hi))⟩
  · exact ⟨_, cap, rfl, hc, fun {H R w} h => St.rows (rest := junk) h hl⟩
theorem grBad_snoc {l : List Grd} {x : Grd} (h : ∀ i, grBad l i = false) (hx : ∀ q ∈ l, x.price ≤ q.price) : ∀ i, grBad (l ++ [x]) i = false := fun i => by
  rcases Nat.lt_trichotomy (i + 1) l.length with h1 | h1 | h1
  · have := h i
    unfold grBad at this ⊢
    rw [List.getElem?_append_left (by omega), List.getElem?_append_left (by omega)]; exact this
  · obtain ⟨q, hq⟩ : ∃ q, l[i]? = some q := ⟨_, List.getElem?_eq_getElem (by omega)⟩
    have h2 := hx q (List.mem_of_getElem? hq)
    unfold grBad
    rw [List.getElem?_append_left (by omega), hq, List.getElem?_append_right (by omega), show i + 1 - l.length = 0 from by omega]
    simp only [List.getElem?_cons_zero]
    rw [decide_eq_false (by omega)]
  · unfold grBad
    rw [List.getElem?_eq_none (l := l ++ [x]) (i := i + 1) (by simp; omega)]
    split <;> simp_all
structure GrI (l : List Grd) (k : Nat) (pr : Int) : Prop where
  len : l.length = k
  bd : 0 ≤ pr ∧ pr ≤ 100
  q : ∀ q ∈ l, (pr ≤ q.price ∧ q.price ≤ 100) ∧ ∀ k < 4, 0 ≤ nn q.ns k ∧ nn q.ns k ≤ 40
  bad : ∀ i, grBad l i = false
theorem GrI.more {l : List Grd} {k : Nat} {pr a b c d x : Int} (h : GrI l k pr) (ha : 0 ≤ a ∧ a ≤ 40) (hb : 0 ≤ b ∧ b ≤ 40) (hc : 0 ≤ c ∧ c ≤ 40) (hd : 0 ≤ d ∧ d ≤ 40) (hx : 0 ≤ x ∧ x ≤ pr) : GrI (l ++ [⟨a, b, c, d, pr⟩]) (k + 1) (pr - x) := by
  have hp := h.bd
  refine ⟨by simp [h.len], by omega, fun q hq => ?_, grBad_snoc h.bad (fun q hq => (h.q q hq).1.1)⟩
  rcases List.mem_append.1 hq with hq | hq
  · have := h.q q hq; exact ⟨by omega, this.2⟩
  · simp only [List.mem_singleton] at hq; subst hq; exact ⟨by simp only; omega, of4 ⟨ha, hb, hc, hd⟩⟩
theorem Fn.post {P : Program} {f : FuncId} {args : List Value} {H : Heap} {R : Facts} {Q Q' : Value → Heap → Facts → Prop} (h : Fn P f args H R Q) (hq : ∀ v H1 R1, Q v H1 R1 → ∃ H2 R2, Q' v H2 R2 ∧ ∀ w, St H1 R1 w → St H2 R2 w) : Fn P f args H R Q' :=
  fun w hs => CallsIn.mono (h w hs) fun e w' ⟨v, H1, R1, q, he, hs'⟩ => by obtain ⟨H2, R2, q2, hst⟩ := hq _ _ _ q; exact ⟨v, H2, R2, q2, he, hst _ hs'⟩
end Go.Proofs.YtndhkpnaeocnhaaGreat
namespace Go.Proofs.YtndhkpnaeocnhaaGreat
set_option linter.unusedSimpArgs false
set_option linter.unusedVariables false
open Go
def sumT (l : List Int) : Nat → Int
  | 0 => 0
  | k + 1 => sumT l k + nn l k
theorem kept_eq {x : Grd} {m : Mix} (hm : Mxt m) : x.kept m = (decide (x.corn ≤ nn m 0) && decide (nn m 1 ≤ x.chaff) && decide (nn m 2 ≤ x.stones) && decide (nn m 3 ≤ x.damp)) := by
  obtain ⟨h0, h1, h2, h3⟩ := all4 hm.at_
  rw [Bool.eq_iff_iff]
  simp [Grd.kept, List.range_succ, Grd.lo, Grd.hi, inb, Grd.ns, nn] at *
  omega
end Go.Proofs.YtndhkpnaeocnhaaGreat
namespace Go.Proofs.YtndhkpnaeocnhaaGreat
set_option linter.unusedSimpArgs false
set_option linter.unusedVariables false
open Go
theorem run_rows {P : Program} {ax : Option Addr} {s dl sc : Nat} {rows : List (List Value)} {w : World} (hr : RowsA ax s rows w) (hl : ∀ q ∈ rows, q.length = s) (hle : rows.length ≤ dl) :
    (Builtin.firstCells s (Nat.min rows.length dl) (.slice ax rows.length sc)).run P w = .ok rows.flatten.toArray w := by
  rw [show Nat.min rows.length dl = rows.length from Nat.min_eq_left hle]
  have hf := flat_len hl
  match ax, hr with
  | none, hr =>
    match rows, hr with
    | [], _ => rfl
    | q :: qs, hr =>
      obtain ⟨_, b, off, h, _⟩ := hr 0 q rfl
      cases h
  | some a, hr =>
    have hc : ∀ j v, rows.flatten[j]? = some v → w.cell? (a.add j) = some v := by
      match rows, hr with
      | [], _ => intro j v h; simp at h
      | q :: qs, hr =>
        obtain ⟨_, b, off, h, _⟩ := hr 0 q rfl
        cases h
        intro j v h
        rw [addr_add]; exact rows_flat hr j v h
    have := run_loadCells_list (P := P) w a rows.flatten hc
    rw [hf] at this
    exact this
section steps
variable {P : Program} {r : Option Nat} {ops : Array Oper} {n : Nat} {L : Slots} {D : List Deferred} {H : Heap} {R : Facts} {K : Act → World → Prop}
  {i d : Nat} {ty : TypeId} {pos : String} {af : Array Edge}
theorem cpyR {T T2 e s : Nat} {x y : Operand} {b dl dc sc e2 : Nat} {l : List Value} {ax : Option Addr} {rows : List (List Value)} {H' : Heap}
    (ho : ops[i]? = some ⟨some d, .call { callee := .builtin .copy, args := #[x, y], argTypes := #[T, T2] }, ty, pos, af, none⟩) (hT : slE P T = some (e, s))
    (hx : ev L x = some (.slice (some ⟨b, 0, none⟩) dl dc)) (hy : ev L y = some (.slice ax rows.length sc)) [mr : MemRows ax s rows R] (hl : ∀ q ∈ rows, q.length = s) (hle : rows.length ≤ dl)
    (h1 : rows.flatten.all (·.oneCell') = true) (hb : rows.flatten.length ≤ l.length) (hd : Nat.blt d n = true)
    [m : Mem1 b (cel e2 l) H] [rp : Rep [(b, cel e2 l)] [(b, cel e2 (spl l 0 rows.flatten))] H H']
    (h : Sy n ((d, .int .i64 rows.length) :: L) D H' R K) : Sy n L D H R (stp P r ops i K) := fun a w ha hD hs => by
  obtain ⟨ie, hu, hi, rfl⟩ := slE_und hT
  have hr := run_rows (P := P) (sc := sc) (hs.now mr.mem) hl hle
  have hst : (storeCells ⟨b, 0, none⟩ rows.flatten).run P w = .ok () { w with heap := w.heap.setIfInBounds b (cel e2 (spl l 0 rows.flatten)) } := run_store0 (P := P) (e := e2) h1 hb (hs.held _ m.mem)
  refine stp_value ho (wanted_none _ rfl _) (v := .int .i64 rows.length) (w' := { w with heap := w.heap.setIfInBounds b (cel e2 (spl l 0 rows.flatten)) }) ?_
    (h _ _ (ha.put (by simpa using hd) _) hD (hs.rep (F := [(b, cel e2 l)]) (F' := [(b, cel e2 (spl l 0 rows.flatten))]) fun T hT => St.set hT))
  simp only [execOp, resolve, invoke, builtin, Sem.run_bind, Sem.run_pure, Result.andThen, List.map_toArray, List.map_cons, List.map_nil, ha.reads _ _ hx, ha.reads _ _ hy]
  have e1 : (Builtin.copy_ #[T, T2] ty #[.slice (some ⟨b, 0, none⟩) dl dc, .slice ax rows.length sc]).run P w = .ok (goInt (rows.length : Nat)) { w with heap := w.heap.setIfInBounds b (cel e2 (spl l 0 rows.flatten)) } := by
    have e3 : (Builtin.firstCells ie.size rows.length (.slice ax rows.length sc)).run P w = .ok rows.flatten.toArray w := by
      rw [show Nat.min rows.length dl = rows.length from Nat.min_eq_left hle] at hr; exact hr
    simp [Builtin.copy_, run_underlying hu, Builtin.lenOf, sizeOf, typeInfo, hi, e3, hst, Nat.min_eq_left hle]
  rw [e1]
  rfl
end steps
end Go.Proofs.YtndhkpnaeocnhaaGreat
namespace Go.Proofs.YtndhkpnaeocnhaaGreat
set_option linter.unusedSimpArgs false
set_option linter.unusedVariables false
open Go
theorem eqf33 : eqB Tryz.prog 10000 33 = some (true, 5) := by kernel_rfl
theorem eqg33 : Tryz.prog.eqGuardType Tryz.prog.depth 33 = false := by kernel_rfl
def zcrt : Crt := ⟨0, 0, []⟩
def takR (c : Crt) (h : Hnd) : Crt × Int := bif decide (c.check ≠ 0) then (zcrt, c.check) else bif decide (c.hs.length = 6) then (zcrt, 9) else bif decide (Crt.check { c with hs := c.hs ++ [h] } ≠ 0) then (zcrt, Crt.check { c with hs := c.hs ++ [h] }) else ({ c with hs := c.hs ++ [h] }, 0)
theorem hr_flat (l : List Hnd) : (hrows l).flatten.length = 5 * l.length := by
  rw [flat_len (sz := 5) (hrows_len l), hrows, List.length_map]; omega
theorem hr_one (l : List Hnd) : (hrows l).flatten.all (·.oneCell') = true := by
  rw [List.all_eq_true]
  intro v hv
  obtain ⟨r, hr, hv⟩ := List.mem_flatten.1 hv
  obtain ⟨x, _, rfl⟩ := List.mem_map.1 hr
  simp only [hrow, List.mem_cons, List.not_mem_nil, or_false] at hv
  rcases hv with rfl | rfl | rfl | rfl | rfl <;> rfl
theorem repl_len5 (n : Nat) : (repl n [Value.int .i64 0, .int .i64 0, .int .i64 0, .int .i64 0, .int .i64 0]).length = 5 * n := by
  rw [← flat_repl, flat_len (sz := 5) (fun q hq => by rw [(List.mem_replicate.1 hq).2]; rfl), List.length_replicate]; omega
theorem spl_take (l : List Hnd) (h : Hnd) : spl (spl (repl (l.length + 1) [Value.int .i64 0, .int .i64 0, .int .i64 0, .int .i64 0, .int .i64 0]) 0 (hrows l).flatten) (0 + ((l.length : Nat) : Int).toNat * 5) (hrow h) = (hrows (l ++ [h])).flatten := by
  have h1 := hr_flat l
  have h2 := repl_len5 (l.length + 1)
  rw [show hrows (l ++ [h]) = hrows l ++ [hrow h] by simp [hrows], List.flatten_append, List.flatten_singleton]
  unfold spl
  rw [List.take_zero, List.nil_append, Nat.zero_add, Nat.zero_add, Int.toNat_natCast, List.take_append_of_le_length (by omega), List.take_of_length_le (by omega), List.drop_append, List.drop_eq_nil_of_le (show (hrows l).flatten.length ≤ l.length * 5 + (hrow h).length by rw [h1]; omega), List.nil_append, List.drop_drop, List.drop_eq_nil_of_le (by rw [h1, h2]; show 5 * (l.length + 1) ≤ 5 * l.length + (l.length * 5 + 5 - 5 * l.length); omega), List.append_nil]
theorem c_eq_hnd (xs ys : List Hnd) (a a2 : Option Addr) (c c2 : Nat) (hl : xs.length ≤ 9223372036854775807) (hl2 : ys.length ≤ 9223372036854775807) (H : Heap) (R : Facts) [hR : MemRows a 5 (hrows xs) R] [hR2 : MemRows a2 5 (hrows ys) R] :
    FnV Tryz.prog 119 [.slice a xs.length c, .slice a2 ys.length c2] H R (.bool (decide (xs = ys))) := by
 refine fn_of Tryz.func119 rfl Tryz.ntmps119 rfl ?_
 refine sy_seq ?_
 refine sy_tx' [0] rfl ?_
 refine sp rfl (PE.assign rfl) rfl ?_
 refine sy_seq ?_
 refine sy_seq ?_
 refine sy_tx' [0, 1, 2, 3, 4] rfl ?_
 refine sp rfl (PE.move rfl) rfl ?_
 refine sp rfl (PE.lenSl isl26 rfl) rfl ?_
 refine sp rfl (PE.move rfl) rfl ?_
 refine sp rfl (PE.lenSl isl26 rfl) rfl ?_
 refine sp rfl (PE.neq rfl rfl) rfl ?_
 refine sy_cond rfl (fun hc0 => ?_) (fun hc0 => ?_)
 have hne : xs ≠ ys := fun e => by subst e; simp at hc0
 refine sy_seq ?_
 refine sy_tx' [0] rfl ?_
 refine sp rfl (PE.assign rfl) rfl ?_
 refine sy_ret ?_
 exact sy_return (vs := [_]) rfl (.cons (RV.tmp rfl) .nil) rfl ⟨by first | (simp only [retV]; rw [decide_eq_true heq]; done) | (simp only [retV]; rw [decide_eq_false hne]), rfl, rfl⟩ (fun _ h => h)
 have hle : xs.length = ys.length := by simp only [decide_eq_true_eq, decide_eq_false_iff_not, Bool.and_eq_true, Bool.or_eq_true, Bool.not_eq_true', Int.not_le, Int.not_lt] at hc0; omega
 refine sy_skip ?_
 refine sy_seq ?_
 refine sy_seq ?_
 refine sy_tx' [0, 1, 2] rfl ?_
 refine sp rfl (PE.move rfl) rfl ?_
 refine sp rfl (PE.lenSl isl26 rfl) rfl ?_
 refine sp rfl (PE.move rfl) rfl ?_
 refine sy_block ?_
 refine sy_loop (ι := {k : Nat // k ≤ xs.length ∧ xs.take k = ys.take k}) (fun k => ⟨[(0, .slice a xs.length c), (1, .slice a2 ys.length c2), (12, .int .i64 xs.length), (13, .int .i64 k.1)], H, R⟩) (fun k => xs.length - k.1) ⟨0, by simp⟩ ?_ (fun k => ?_)
 exact sy_at (by repeat' first | exact Sub.nil | apply Sub.cons | rfl | (simp [lk]; omega)) (fun _ h => h)
 obtain ⟨k, hk, hn⟩ := k
 dsimp only
 refine sy_seq ?_
 refine sy_tx' [0] rfl ?_
 refine sp rfl (PE.lss rfl rfl) rfl ?_
 refine sy_seq ?_
 refine sy_cond rfl (fun hc1 => ?_) (fun hc1 => ?_)
 simp only [decide_eq_true_eq, decide_eq_false_iff_not, Bool.and_eq_true, Bool.or_eq_true, Bool.not_eq_true', Int.not_le, Int.not_lt] at hc1
 obtain ⟨x, hx⟩ : ∃ x, xs[k]? = some x := ⟨_, List.getElem?_eq_getElem (by omega)⟩
 obtain ⟨z, hz⟩ : ∃ z, ys[k]? = some z := ⟨_, List.getElem?_eq_getElem (by omega)⟩
 refine sy_addr (a := a) (sz := 5) (rows := hrows xs) (by intro h0; simp [hrows] at h0; simp [h0] at hx) (fun b off he => ?_)
 subst he
 refine sy_addr (a := a2) (sz := 5) (rows := hrows ys) (by intro h0; simp [hrows] at h0; simp [h0] at hz) (fun b2 off2 he => ?_)
 subst he
 refine sy_skip ?_
 refine sy_seq ?_
 refine sy_block ?_
 refine sy_seq ?_
 refine sy_tx' [0, 1] rfl ?_
 refine sp rfl (PE.move rfl) rfl ?_
 refine sp rfl (PE.assign rfl) rfl ?_
 refine sy_seq ?_
 refine sy_draw [0, 0, 3, 7, 0, 0, 48, 112, 255] (.tk 0 (.tk 1 (.tk 2 (.ld 3 (.tk 4 (.tk 5 (.tk 6 (.ld 7 (.tk 8 .done))))))))) mixed (by kernel_rfl) ?_
 refine tk rfl (PE.move rfl) rfl ?_
 refine tk rfl (PE.move rfl) rfl ?_
 refine tk rfl (PE.indexAddr el26 rfl rfl (by omega) (by omega)) rfl ?_
 refine ld rfl rfl (lfA ag33 (row := hrow x) (by simp [hrows, hx]) rfl) rfl ?_
 refine tk rfl (PE.move rfl) rfl ?_
 refine tk rfl (PE.move rfl) rfl ?_
 refine tk rfl (PE.indexAddr el26 rfl rfl (by omega) (by omega)) rfl ?_
 refine ld rfl rfl (lfA ag33 (row := hrow z) (by simp [hrows, hz]) rfl) rfl ?_
 refine tk rfl (PE.neqAgg [x.spot, x.a, x.b, x.c, x.d] [z.spot, z.a, z.b, z.c, z.d] (eqB_ok 10000 33 true 5 eqf33) eqg33 rfl rfl rfl rfl) rfl ?_
 refine sy_cond rfl (fun hc2 => ?_) (fun hc2 => ?_)
 have hne : xs ≠ ys := fun e => by subst e; rw [hx] at hz; cases hz; simp at hc2
 refine sy_seq ?_
 refine sy_tx' [0] rfl ?_
 refine sp rfl (PE.assign rfl) rfl ?_
 refine sy_ret ?_
 exact sy_return (vs := [_]) rfl (.cons (RV.tmp rfl) .nil) rfl ⟨by first | (simp only [retV]; rw [decide_eq_true heq]; done) | (simp only [retV]; rw [decide_eq_false hne]), rfl, rfl⟩ (fun _ h => h)
 have hxz : x = z := by cases x; cases z; simpa using hc2
 refine sy_skip ?_
 refine sy_tx' [0, 1] rfl ?_
 refine sp rfl (PE.add rfl rfl (by omega)) rfl ?_
 refine sp rfl (PE.move rfl) rfl ?_
 exact sy_next ⟨k + 1, by omega, by rw [List.take_add_one, List.take_add_one, hn, hx, hz, hxz]⟩ (by dsimp only; omega) (by repeat' first | exact Sub.nil | apply Sub.cons | rfl | (simp [lk]; omega)) (fun _ h => h)
 simp only [decide_eq_true_eq, decide_eq_false_iff_not, Bool.and_eq_true, Bool.or_eq_true, Bool.not_eq_true', Int.not_le, Int.not_lt] at hc1
 obtain rfl : k = xs.length := by omega
 have heq : xs = ys := by
   rw [List.take_length] at hn
   exact hn.trans (by rw [hle]; exact List.take_length)
 refine sy_exit ?_
 repeat refine sy_tx ?_
 refine sy_bx ?_
 refine sy_seq ?_
 refine sy_tx' [0] rfl ?_
 refine sp rfl (PE.assign rfl) rfl ?_
 refine sy_ret ?_
 exact sy_return (vs := [_]) rfl (.cons (RV.tmp rfl) .nil) rfl ⟨by first | (simp only [retV]; rw [decide_eq_true heq]; done) | (simp only [retV]; rw [decide_eq_false hne]), rfl, rfl⟩ (fun _ h => h)
end Go.Proofs.YtndhkpnaeocnhaaGreat
namespace Go.Proofs.YtndhkpnaeocnhaaGreat
set_option linter.unusedSimpArgs false
set_option linter.unusedVariables false
open Go
theorem bx_lo {b : Box} (hb : b.length = 8) {k : Nat} (hk : k < 4) : (ints b)[0 + ((k : Nat) : Int).toNat * 2 + 0]? = some (.int .i64 (bl b k)) := by
  obtain ⟨a0, a1, a2, a3, a4, a5, a6, a7, rfl⟩ := list8 hb
  rcases lt4 hk with rfl | rfl | rfl | rfl <;> rfl
theorem bx_hi {b : Box} (hb : b.length = 8) {k : Nat} (hk : k < 4) : (ints b)[0 + ((k : Nat) : Int).toNat * 2 + 1]? = some (.int .i64 (bh b k)) := by
  obtain ⟨a0, a1, a2, a3, a4, a5, a6, a7, rfl⟩ := list8 hb
  rcases lt4 hk with rfl | rfl | rfl | rfl <;> rfl
end Go.Proofs.YtndhkpnaeocnhaaGreat
namespace Go.Proofs.YtndhkpnaeocnhaaGreat
set_option linter.unusedSimpArgs false
set_option linter.unusedVariables false
open Go
theorem cal100 : cal Tryz.prog 100 = true := by kernel_rfl
theorem cal102 : cal Tryz.prog 102 = true := by kernel_rfl
theorem cal120 : cal Tryz.prog 120 = true := by kernel_rfl
theorem cn36 : cellN Tryz.prog 36 = some 5 := by kernel_rfl
def mixE (m : Mix) : Int := bif !(m.all fun n => inb n 0 40) then 3 else bif decide (sum4 m ≠ 40) then 8 else 0
theorem mix_bd {m : Mix} (hm : m.length = 4) (h : (m.all fun n => inb n 0 40) = true) : ∀ j < 4, 0 ≤ nn m j ∧ nn m j ≤ 40 := by
  obtain ⟨a, b, c, d, rfl⟩ := list4 hm
  simp [inb] at h
  exact of4 ⟨by simp [nn]; omega, by simp [nn]; omega, by simp [nn]; omega, by simp [nn]; omega⟩
theorem mix_ok {m : Mix} (hm : m.length = 4) : mixE m = 0 ↔ Mxt m := by
  obtain ⟨a, b, c, d, rfl⟩ := list4 hm
  unfold mixE
  constructor
  · intro h
    cases h1 : ([a, b, c, d].all fun n => inb n 0 40)
    · rw [h1] at h; cases h
    · rw [h1] at h
      by_cases h2 : sum4 [a, b, c, d] = 40
      · simp [inb] at h1
        exact ⟨rfl, h2, of4 ⟨by simp [nn]; omega, by simp [nn]; omega, by simp [nn]; omega, by simp [nn]; omega⟩⟩
      · rw [decide_eq_true h2] at h; cases h
  · intro h
    obtain ⟨p0, p1, p2, p3⟩ := all4 h.at_
    simp only [nn, List.getD_cons_zero, List.getD_cons_succ] at p0 p1 p2 p3
    rw [show ([a, b, c, d].all fun n => inb n 0 40) = true from by simp [inb]; omega, decide_eq_false (by rw [h.sum]; decide)]; rfl
theorem c_mixed1 (n : Int) (H : Heap) (R : Facts) :
    FnV Tryz.prog 120 [.int .i64 n] H R (.bool (inb n 0 40)) := by
 refine fn_of Tryz.func120 rfl Tryz.ntmps120 rfl ?_
 refine sy_seq ?_
 refine sy_tx' [0] rfl ?_
 refine sp rfl (PE.assign rfl) rfl ?_
 refine sy_seq ?_
 refine sy_tx' [0, 1, 2] rfl ?_
 refine sp rfl (PE.move rfl) rfl ?_
 refine clV rfl cal14 rfl rfl (c_in _ _ _ _ _) ?_
 refine sp rfl (PE.assign rfl) rfl ?_
 refine sy_ret ?_
 exact sy_return (vs := [_]) rfl (.cons (RV.tmp rfl) .nil) rfl ⟨rfl, rfl, rfl⟩ drp
theorem c_mix_all (m : Mix) (hm : m.length = 4) (b : Nat) (H : Heap) (R : Facts) {T : Heap} [pl : Pull b (cel 31 (ints m)) H T] : FnV Tryz.prog 17 [.slice (some ⟨b, 0, none⟩) 4 4, .func (.func 120) #[] #[]] H R (.bool (m.all fun n => inb n 0 40)) := by
  have e : (irows m).flatten ++ [] = ints m := by rw [List.append_nil]; exact irows_flat m
  have pl2 : Pull b (cel 31 ((irows m).flatten ++ [])) H T := by rw [e]; exact pl
  have h := FnV.lend (P := Tryz.prog) (R := R) (pl := pl2) (sz := 1) (rows := irows m) (junk := []) (by simp [irows]) (fun B => c_every_int m (some ⟨b, 0, none⟩) m.length 120 [] [] (fun n => inb n 0 40) cal120 (by omega) T _ (fun _ y _ => c_mixed1 y _ _))
  rw [hm] at h
  exact h
theorem c_mixed (m : Mix) (hm : m.length = 4) (H : Heap) (R : Facts) :
    FnV Tryz.prog 100 [.agg (ints m).toArray] H R (.int .i64 (mixE m)) := by
 refine fn_of Tryz.func100 rfl Tryz.ntmps100 rfl ?_
 refine sy_seq ?_
 refine sy_tx' [0, 1] rfl ?_
 refine bx rfl rfl rfl (fun b1 => ?_)
 refine sp rfl (PE.assign rfl) rfl ?_
 refine sy_seq ?_
 refine sy_block ?_
 refine sy_seq ?_
 refine sy_tx' [0, 1, 2, 3] rfl ?_
 refine sp rfl (PE.slArr ar31 rfl) rfl ?_
 refine clV rfl cal17 rfl rfl (c_mix_all m hm b1 _ _) ?_
 refine sp rfl (PE.not rfl) rfl ?_
 refine sp rfl (PE.assign rfl) rfl ?_
 refine sy_cond rfl (fun hc0 => ?_) (fun hc0 => ?_)
 have e : mixE m = 3 := by unfold mixE; rw [hc0]; rfl
 refine sy_seq ?_
 refine sy_tx' [0] rfl ?_
 refine sp rfl (PE.assign rfl) rfl ?_
 refine sy_ret ?_
 exact sy_return (vs := [_]) rfl (.cons (RV.tmp rfl) .nil) rfl ⟨by rw [e]; rfl, rfl, rfl⟩ drp
 have h0 : (!(m.all fun n => inb n 0 40)) = false := hc0
 have hbd : ∀ j < 4, 0 ≤ nn m j ∧ nn m j ≤ 40 := mix_bd hm (by simpa only [Bool.not_eq_false'] using h0)
 refine sy_seq ?_
 refine sy_tx' [0, 1, 2, 3] rfl ?_
 refine spL rfl rfl (lhA (ints (m)) ag31 rfl (rest := []) (by rw [List.append_nil]; rfl) (by rw [ints_length]; exact hm)) rfl ?_
 refine clV rfl cal26 rfl rfl (c_sum4 m hm (fun j hj => by have := hbd j hj; omega) _ _) ?_
 refine sp rfl (PE.neq rfl rfl) rfl ?_
 refine sp rfl (PE.assign rfl) rfl ?_
 refine sy_cond rfl (fun hc1 => ?_) (fun hc1 => ?_)
 have e : mixE m = 8 := by unfold mixE; rw [h0, hc1]; rfl
 refine sy_seq ?_
 refine sy_tx' [0] rfl ?_
 refine sp rfl (PE.assign rfl) rfl ?_
 refine sy_ret ?_
 exact sy_return (vs := [_]) rfl (.cons (RV.tmp rfl) .nil) rfl ⟨by rw [e]; rfl, rfl, rfl⟩ drp
 have e : mixE m = 0 := by unfold mixE; rw [h0, hc1]; rfl
 refine sy_skip ?_
 refine sy_seq ?_
 refine sy_tx' [0] rfl ?_
 refine sp rfl (PE.assign rfl) rfl ?_
 refine sy_ret ?_
 exact sy_return (vs := [_]) rfl (.cons (RV.tmp rfl) .nil) rfl ⟨by rw [e]; rfl, rfl, rfl⟩ drp
theorem kept_end {x : Grd} {m : Mix} (h : ∀ j < 4, inb (nn m j) (x.lo j) (x.hi j) = true) : x.kept m = true := by
  unfold Grd.kept
  rw [List.all_eq_true]
  exact fun k hk => h k (List.mem_range.1 hk)
theorem kept_out {x : Grd} {m : Mix} {k : Nat} (h4 : k < 4) (h : inb (nn m k) (x.lo k) (x.hi k) = false) : x.kept m = false := by
  cases hh : x.kept m
  · rfl
  · unfold Grd.kept at hh
    rw [List.all_eq_true] at hh
    have := hh k (List.mem_range.2 h4)
    rw [h] at this; cases this
theorem c_kept (x : Grd) (m : Mix) (hm : m.length = 4) (H : Heap) (R : Facts) :
    FnV Tryz.prog 102 [.agg (grow x).toArray, .agg (ints m).toArray] H R (.bool (x.kept m)) := by
 refine fn_of Tryz.func102 rfl Tryz.ntmps102 rfl ?_
 refine sy_seq ?_
 refine sy_tx' [0, 1, 2] rfl ?_
 refine bx rfl rfl rfl (fun b2 => ?_)
 refine bx rfl rfl rfl (fun b3 => ?_)
 refine sp rfl (PE.assign rfl) rfl ?_
 refine sy_seq ?_
 refine sy_seq ?_
 refine sy_tx' [0, 1, 2] rfl ?_
 refine spL rfl rfl (lhA [_, _, _, _, _] ag36 rfl rfl rfl) rfl ?_
 refine clV rfl cal122 rfl rfl (c_keeps x _ _) ?_
 refine sp rfl (PE.move rfl) rfl ?_
 refine sy_block ?_
 refine sy_loop (ι := {k : Nat // k ≤ 4 ∧ ∀ j < k, inb (nn m j) (x.lo j) (x.hi j) = true}) (fun k => ⟨[(3, .pointer (some ⟨b3, 0, none⟩)), (4, .bool false), (8, bxv (kpL x)), (9, .int .i64 k.1)], (b3, cel 31 (ints m)) :: (b2, cel 36 (grow x)) :: H, R⟩) (fun k => 4 - k.1) ⟨0, by omega, fun j hj => by omega⟩ ?_ (fun k => ?_)
 exact sy_at (by repeat' first | exact Sub.nil | apply Sub.cons | rfl | (simp [lk]; omega)) (fun _ h => h)
 obtain ⟨k, hk, hkk⟩ := k
 dsimp only at hk hkk ⊢
 refine sy_seq ?_
 refine sy_tx' [0] rfl ?_
 refine sp rfl (PE.lss rfl rfl) rfl ?_
 refine sy_seq ?_
 refine sy_cond rfl (fun hc0 => ?_) (fun hc0 => ?_)
 try simp only [decide_eq_true_eq, decide_eq_false_iff_not, Bool.and_eq_true, Bool.or_eq_true, Bool.not_eq_true', Int.not_le, Int.not_lt] at hc0
 have hk4 : k < 4 := by omega
 obtain ⟨e1, e2⟩ := kpL_at x hk4
 refine sy_skip ?_
 refine sy_seq ?_
 refine sy_block ?_
 refine sy_seq ?_
 refine sy_tx' [0, 1, 2, 3, 4] rfl ?_
 refine sp rfl (PE.move rfl) rfl ?_
 refine sp rfl ((PE.indexI (l := kpL x) are128 (eqB_ok 10000 61 true 2 eqf61) (by simp) rfl rfl hk4 (by show k * 2 + 2 ≤ 8; omega)).to (by rw [box_part rfl hk4, e1, e2])) rfl ?_
 refine alc rfl zl61 rfl (fun b6 => ?_)
 refine sp rfl (PE.assign rfl) rfl ?_
 refine sto rfl rfl rfl cn61 rfl rfl rfl rfl ?_
 refine sy_seq ?_
 refine sy_draw [0, 1, 3, 0, 8, 0, 32, 127, 255] (.tk 0 (.tk 1 (.ld 2 (.tk 3 (.ld 4 (.tk 5 (.ld 6 (.big 7 (.tk 8 .done))))))))) mixed (by kernel_rfl) ?_
 refine tk rfl (PE.move rfl) rfl ?_
 refine tk rfl (PE.indexArr ar31 rfl rfl (by omega) (by omega)) rfl ?_
 refine ld rfl rfl (lh sc3 rfl (mix_at hm hk4)) rfl ?_
 refine tk rfl (PE.fieldAddr fo61_0 rfl) rfl ?_
 refine ld rfl rfl (lh sc3 rfl rfl) rfl ?_
 refine tk rfl (PE.fieldAddr fo61_1 rfl) rfl ?_
 refine ld rfl rfl (lh sc3 rfl rfl) rfl ?_
 refine clV rfl cal14 rfl rfl (c_in _ _ _ _ _) ?_
 refine bg (fun w hs => ⟨trivial, trivial, trivial, trivial⟩) ?_
 refine tk rfl (PE.not rfl) rfl ?_
 refine sy_cond rfl (fun hc1 => ?_) (fun hc1 => ?_)
 have hno := kept_out (x := x) (m := m) hk4 (by cases h9 : inb (nn m k) (x.lo k) (x.hi k) with | false => rfl | true => rw [h9] at hc1; cases hc1)
 refine sy_seq ?_
 refine sy_tx' [0] rfl ?_
 refine sp rfl (PE.assign rfl) rfl ?_
 refine sy_ret ?_
 first
   | exact sy_return (vs := [_]) rfl (.cons (RV.tmp rfl) .nil) rfl ⟨congrArg Value.bool hyes.symm, rfl, rfl⟩ drp
   | exact sy_return (vs := [_]) rfl (.cons (RV.tmp rfl) .nil) rfl ⟨congrArg Value.bool hno.symm, rfl, rfl⟩ drp
 have hin : inb (nn m k) (x.lo k) (x.hi k) = true := by cases h9 : inb (nn m k) (x.lo k) (x.hi k) with | true => rfl | false => rw [h9] at hc1; cases hc1
 refine sy_skip ?_
 refine sy_tx' [0, 1] rfl ?_
 refine sp rfl (PE.add rfl rfl (by omega)) rfl ?_
 refine sp rfl (PE.move rfl) rfl ?_
 exact sy_next ⟨k + 1, by omega, fun j hj => by rcases Nat.lt_succ_iff_lt_or_eq.1 hj with h1 | rfl; exact hkk j h1; exact hin⟩ (by dsimp only; omega) (by repeat' first | exact Sub.nil | apply Sub.cons | rfl | (simp [lk]; omega)) (fun w h => h.del b6)
 try simp only [decide_eq_true_eq, decide_eq_false_iff_not, Bool.and_eq_true, Bool.or_eq_true, Bool.not_eq_true', Int.not_le, Int.not_lt] at hc0
 obtain rfl : k = 4 := by omega
 have hyes := kept_end hkk
 refine sy_exit ?_
 repeat refine sy_tx ?_
 refine sy_bx ?_
 refine sy_seq ?_
 refine sy_tx' [0] rfl ?_
 refine sp rfl (PE.assign rfl) rfl ?_
 refine sy_ret ?_
 first
   | exact sy_return (vs := [_]) rfl (.cons (RV.tmp rfl) .nil) rfl ⟨congrArg Value.bool hyes.symm, rfl, rfl⟩ drp
   | exact sy_return (vs := [_]) rfl (.cons (RV.tmp rfl) .nil) rfl ⟨congrArg Value.bool hno.symm, rfl, rfl⟩ drp
theorem c_Has (g : Gat) (ag : Option Addr) (cg : Nat) (hlg : g.grs.length ≤ 9223372036854775807) (m : Mix) (hm : m.length = 4) (H : Heap) (R : Facts) [hG : MemRows ag 5 (grows g.grs) R] :
    FnV Tryz.prog 56 [g.v (g.sl ag cg), .agg (ints m).toArray] H R (.tuple #[.int .i64 (bif decide (g.check ≠ 0) then 0 else bif decide (mixE m ≠ 0) then 0 else hasG g.grs m), .int .i64 (bif decide (g.check ≠ 0) then g.check else mixE m)]) := by
 refine fn_of Tryz.func56 rfl Tryz.ntmps56 rfl ?_
 refine sy_seq ?_
 refine sy_tx' [0, 1, 2, 3] rfl ?_
 refine bx rfl rfl rfl (fun b2 => ?_)
 refine bx rfl rfl rfl (fun b3 => ?_)
 refine sp rfl (PE.assign rfl) rfl ?_
 refine sp rfl (PE.assign rfl) rfl ?_
 refine sy_seq ?_
 refine sy_seq ?_
 refine sy_tx' [0, 1, 2] rfl ?_
 refine spL rfl rfl (lhA [_, _, _] ag25 rfl rfl rfl) rfl ?_
 refine clV rfl cal6 rfl rfl (c_Check g ag cg hlg _ _) ?_
 refine sp rfl (PE.assign rfl) rfl ?_
 refine sy_seq ?_
 refine sy_tx' [0, 1] rfl ?_
 refine sp rfl (PE.move rfl) rfl ?_
 refine sp rfl (PE.neq rfl rfl) rfl ?_
 refine sy_cond rfl (fun hc0 => ?_) (fun hc0 => ?_)
 refine sy_seq ?_
 refine sy_tx' [0, 1, 2] rfl ?_
 refine sp rfl (PE.move rfl) rfl ?_
 refine sp rfl (PE.assign rfl) rfl ?_
 refine sp rfl (PE.assign rfl) rfl ?_
 refine sy_ret ?_
 exact sy_return (vs := [_, _]) rfl (.cons (RV.tmp rfl) (.cons (RV.tmp rfl) .nil)) (by rw [hc0]; rfl) ⟨rfl, rfl, rfl⟩ drp
 have h0 : g.check = 0 := by simpa using hc0
 have hgo := gat_ok.1 h0
 have hmy := hgo.many
 refine sy_skip ?_
 refine sy_seq ?_
 refine sy_seq ?_
 refine sy_tx' [0, 1, 2] rfl ?_
 refine spL rfl rfl (lhA (ints (m)) ag31 rfl (rest := []) (by rw [List.append_nil]; rfl) (by rw [ints_length]; exact hm)) rfl ?_
 refine clV rfl cal100 rfl rfl (c_mixed m hm _ _) ?_
 refine sp rfl (PE.assign rfl) rfl ?_
 refine sy_seq ?_
 refine sy_tx' [0, 1] rfl ?_
 refine sp rfl (PE.move rfl) rfl ?_
 refine sp rfl (PE.neq rfl rfl) rfl ?_
 refine sy_cond rfl (fun hc1 => ?_) (fun hc1 => ?_)
 refine sy_seq ?_
 refine sy_tx' [0, 1, 2] rfl ?_
 refine sp rfl (PE.move rfl) rfl ?_
 refine sp rfl (PE.assign rfl) rfl ?_
 refine sp rfl (PE.assign rfl) rfl ?_
 refine sy_ret ?_
 exact sy_return (vs := [_, _]) rfl (.cons (RV.tmp rfl) (.cons (RV.tmp rfl) .nil)) (by rw [hc0, hc1]; rfl) ⟨rfl, rfl, rfl⟩ drp
 have h1 : mixE m = 0 := by simpa using hc1
 refine sy_skip ?_
 refine sy_seq ?_
 refine sy_seq ?_
 refine sy_tx' [0, 1, 2, 3] rfl ?_
 refine sp rfl (PE.fieldAddr fo25_2 rfl) rfl ?_
 refine spL rfl rfl (lh sc23 rfl rfl) rfl ?_
 refine sp rfl (PE.lenSl isl23 rfl) rfl ?_
 refine sp rfl (PE.move rfl) rfl ?_
 refine sy_block ?_
 refine sy_loop (ι := {k : Nat // k ≤ g.grs.length ∧ ∀ x ∈ g.grs.take k, x.kept m = false}) (fun k => ⟨[(3, .pointer (some ⟨b3, 0, none⟩)), (21, g.sl ag cg), (22, .int .i64 g.grs.length), (23, .int .i64 k.1)], (b3, cel 31 (ints m)) :: (b2, cel 25 (gtl g (g.sl ag cg))) :: H, R⟩) (fun k => g.grs.length - k.1) ⟨0, by omega, by simp⟩ ?_ (fun k => ?_)
 exact sy_at (by repeat' first | exact Sub.nil | apply Sub.cons | rfl | (simp [lk]; omega)) (fun _ h => h)
 obtain ⟨k, hk, hkk⟩ := k
 dsimp only at hk hkk ⊢
 refine sy_seq ?_
 refine sy_tx' [0] rfl ?_
 refine sp rfl (PE.lss rfl rfl) rfl ?_
 refine sy_seq ?_
 refine sy_cond rfl (fun hc2 => ?_) (fun hc2 => ?_)
 try simp only [decide_eq_true_eq, decide_eq_false_iff_not, Bool.and_eq_true, Bool.or_eq_true, Bool.not_eq_true', Int.not_le, Int.not_lt] at hc2
 obtain ⟨x, hx⟩ : ∃ x, g.grs[k]? = some x := ⟨_, List.getElem?_eq_getElem (by omega)⟩
 refine sy_addr (a := ag) (sz := 5) (rows := grows g.grs) (by intro h0; simp [grows] at h0; simp [h0] at hx) (fun ba oa he => ?_)
 subst he
 refine sy_skip ?_
 refine sy_seq ?_
 refine sy_block ?_
 refine sy_seq ?_
 refine sy_tx' [0, 1, 2, 3, 4, 5] rfl ?_
 refine sp rfl (PE.move rfl) rfl ?_
 refine sp rfl (PE.indexAddr el23 rfl rfl (by omega) (by omega)) rfl ?_
 refine spL rfl rfl (lfA ag36 (row := grow x) (gr_get (by simpa using hx)) rfl) rfl ?_
 refine alc rfl zl36 rfl (fun b9 => ?_)
 refine sp rfl (PE.assign rfl) rfl ?_
 refine sto rfl rfl rfl cn36 rfl rfl rfl rfl ?_
 refine sy_seq ?_
 refine sy_tx' [0, 1, 2] rfl ?_
 refine spL rfl rfl (lhA [_, _, _, _, _] ag36 rfl rfl rfl) rfl ?_
 refine spL rfl rfl (lhA (ints (m)) ag31 rfl (rest := []) (by rw [List.append_nil]; rfl) (by rw [ints_length]; exact hm)) rfl ?_
 refine clV rfl cal102 rfl rfl (c_kept x m hm _ _) ?_
 refine sy_cond rfl (fun hc3 => ?_) (fun hc3 => ?_)
 have hyes : hasG g.grs m = (k : Nat) := (hasG_at hx).2 ⟨hc3, hkk⟩
 refine sy_seq ?_
 refine sy_tx' [0, 1, 2] rfl ?_
 refine sp rfl (PE.move rfl) rfl ?_
 refine sp rfl (PE.assign rfl) rfl ?_
 refine sp rfl (PE.assign rfl) rfl ?_
 refine sy_ret ?_
 exact sy_return (vs := [_, _]) rfl (.cons (RV.tmp rfl) (.cons (RV.tmp rfl) .nil)) (by rw [hyes, hc0, hc1, h1]; rfl) ⟨rfl, rfl, rfl⟩ drp
 refine sy_skip ?_
 refine sy_tx' [0, 1] rfl ?_
 refine sp rfl (PE.add rfl rfl (by omega)) rfl ?_
 refine sp rfl (PE.move rfl) rfl ?_
 exact sy_next ⟨k + 1, by omega, take_miss hx hkk hc3⟩ (by dsimp only; omega) (by repeat' first | exact Sub.nil | apply Sub.cons | rfl | (simp [lk]; omega)) (fun w h => h.del b9)
 try simp only [decide_eq_true_eq, decide_eq_false_iff_not, Bool.and_eq_true, Bool.or_eq_true, Bool.not_eq_true', Int.not_le, Int.not_lt] at hc2
 obtain rfl : k = g.grs.length := by omega
 rw [List.take_length] at hkk
 have hno : hasG g.grs m = -1 := hasG_none.2 hkk
 refine sy_exit ?_
 repeat refine sy_tx ?_
 refine sy_bx ?_
 refine sy_seq ?_
 refine sy_tx' [0, 1] rfl ?_
 refine sp rfl (PE.assign rfl) rfl ?_
 refine sp rfl (PE.assign rfl) rfl ?_
 refine sy_ret ?_
 exact sy_return (vs := [_, _]) rfl (.cons (RV.tmp rfl) (.cons (RV.tmp rfl) .nil)) (by rw [hno, hc0, hc1, h1]; rfl) ⟨rfl, rfl, rfl⟩ drp
theorem fits_end {g : Gat} {c : Crt} {m : Mix} (hc : c.ok) (hg : g.ok) (hm : Mxt m) (h : ∀ j < 4, inb (nn m j) (bl (boxF g.miss c.hs fun _ => true) j) (bh (boxF g.miss c.hs fun _ => true) j) = true) : (c.hs.all fun h => fitB g.miss h m) = true := by
  have h1 : Mx (boxF g.miss c.hs fun _ => true) m := ⟨hm.len, hm.sum, fun k hk => by have := h k hk; simpa [inb] using this⟩
  obtain ⟨_, h2⟩ := (boxF_mx hg.miss.1 hc.hs _ m).1 h1
  rw [List.all_eq_true]
  intro x hx
  obtain ⟨i, hi⟩ := List.getElem?_of_mem hx
  exact h2 i x hi rfl
theorem fits_out {g : Gat} {c : Crt} {m : Mix} {k : Nat} (hc : c.ok) (hg : g.ok) (hk : k < 4) (h : inb (nn m k) (bl (boxF g.miss c.hs fun _ => true) k) (bh (boxF g.miss c.hs fun _ => true) k) = false) (hm : Mxt m) : (c.hs.all fun h => fitB g.miss h m) = false := by
  cases h9 : c.hs.all fun h => fitB g.miss h m
  · rfl
  · rw [List.all_eq_true] at h9
    have h2 := ((boxF_mx hg.miss.1 hc.hs (fun _ => true) m).2 ⟨hm, fun i x hx _ => h9 x (List.mem_of_getElem? hx)⟩).at_ k hk
    have : inb (nn m k) (bl (boxF g.miss c.hs fun _ => true) k) (bh (boxF g.miss c.hs fun _ => true) k) = true := by simpa [inb] using h2
    rw [h] at this; cases this
theorem c_Fits (g : Gat) (ag : Option Addr) (cg : Nat) (hlg : g.grs.length ≤ 9223372036854775807) (c : Crt) (ah : Option Addr) (ch : Nat) (hlh : c.hs.length ≤ 9223372036854775807) (m : Mix) (hm : m.length = 4) (H : Heap) (R : Facts) [hG : MemRows ag 5 (grows g.grs) R] [hA : MemRows ah 5 (hrows c.hs) R] :
    FnV Tryz.prog 55 [g.v (g.sl ag cg), c.v (c.sl ah ch), .agg (ints m).toArray] H R (.tuple #[.bool (bif decide (bothE g c ≠ 0) then false else bif decide (mixE m ≠ 0) then false else c.hs.all fun h => fitB g.miss h m), .int .i64 (bif decide (bothE g c ≠ 0) then bothE g c else mixE m)]) := by
 refine fn_of Tryz.func55 rfl Tryz.ntmps55 rfl ?_
 refine sy_seq ?_
 refine sy_tx' [0, 1, 2, 3, 4] rfl ?_
 refine bx rfl rfl rfl (fun b3 => ?_)
 refine bx rfl rfl rfl (fun b4 => ?_)
 refine bx rfl rfl rfl (fun b5 => ?_)
 refine sp rfl (PE.assign rfl) rfl ?_
 refine sp rfl (PE.assign rfl) rfl ?_
 refine sy_seq ?_
 refine sy_tx' [0, 1, 2, 3, 4, 5, 6, 7] rfl ?_
 refine spL rfl rfl (lhA [_, _, _] ag25 rfl rfl rfl) rfl ?_
 refine spL rfl rfl (lhA [_, _, _] ag28 rfl rfl rfl) rfl ?_
 refine cl rfl cal78 rfl rfl (c_opened g ag cg hlg c ah ch hlh _ _) ?_
 rintro _ _ _ ⟨rfl, ho⟩
 rcases ho with ⟨hne, rfl, rfl⟩ | ⟨hg, hc, h0, bw, rfl, rfl⟩
 refine sp rfl (PE.move rfl) rfl ?_
 refine sp rfl (PE.extract rfl rfl) rfl ?_
 refine sp rfl (PE.extract rfl rfl) rfl ?_
 refine sp rfl (PE.assign rfl) rfl ?_
 refine sp rfl (PE.assign rfl) rfl ?_
 refine sy_seq ?_
 refine sy_seq ?_
 refine sy_tx' [0, 1] rfl ?_
 refine sp rfl (PE.move rfl) rfl ?_
 refine sp rfl (PE.neq rfl rfl) rfl ?_
 refine sy_cond rfl (fun hc0 => ?_) (fun hc0 => ?_)
 refine sy_seq ?_
 refine sy_tx' [0, 1, 2] rfl ?_
 refine sp rfl (PE.move rfl) rfl ?_
 refine sp rfl (PE.assign rfl) rfl ?_
 refine sp rfl (PE.assign rfl) rfl ?_
 refine sy_ret ?_
 exact sy_return (vs := [_, _]) rfl (.cons (RV.tmp rfl) (.cons (RV.tmp rfl) .nil)) (by rw [decide_eq_true hne]; rfl) ⟨rfl, rfl, rfl⟩ drp
 exact absurd hc0 (by simp [hne])
 refine sp rfl (PE.move rfl) rfl ?_
 refine sp rfl (PE.extract rfl rfl) rfl ?_
 refine sp rfl (PE.extract rfl rfl) rfl ?_
 refine sp rfl (PE.assign rfl) rfl ?_
 refine sp rfl (PE.assign rfl) rfl ?_
 refine sy_seq ?_
 refine sy_seq ?_
 refine sy_tx' [0, 1] rfl ?_
 refine sp rfl (PE.move rfl) rfl ?_
 refine sp rfl (PE.neq rfl rfl) rfl ?_
 refine sy_cond rfl (fun hc0 => ?_) (fun hc0 => ?_)
 exact absurd hc0 (by simp)
 have e0 : decide (bothE g c ≠ 0) = false := decide_eq_false (by omega)
 refine sy_skip ?_
 refine sy_seq ?_
 refine sy_seq ?_
 refine sy_tx' [0, 1, 2] rfl ?_
 refine spL rfl rfl (lhA (ints (m)) ag31 rfl (rest := []) (by rw [List.append_nil]; rfl) (by rw [ints_length]; exact hm)) rfl ?_
 refine clV rfl cal100 rfl rfl (c_mixed m hm _ _) ?_
 refine sp rfl (PE.assign rfl) rfl ?_
 refine sy_seq ?_
 refine sy_tx' [0, 1] rfl ?_
 refine sp rfl (PE.move rfl) rfl ?_
 refine sp rfl (PE.neq rfl rfl) rfl ?_
 refine sy_cond rfl (fun hc1 => ?_) (fun hc1 => ?_)
 refine sy_seq ?_
 refine sy_tx' [0, 1, 2] rfl ?_
 refine sp rfl (PE.move rfl) rfl ?_
 refine sp rfl (PE.assign rfl) rfl ?_
 refine sp rfl (PE.assign rfl) rfl ?_
 refine sy_ret ?_
 exact sy_return (vs := [_, _]) rfl (.cons (RV.tmp rfl) (.cons (RV.tmp rfl) .nil)) (by rw [e0, hc1]; rfl) ⟨rfl, rfl, rfl⟩ drp
 have h1 : mixE m = 0 := by simpa using hc1
 have hmx := (mix_ok hm).1 h1
 refine sy_skip ?_
 refine sy_seq ?_
 refine sy_seq ?_
 refine sy_tx' [0, 1, 2, 3] rfl ?_
 refine sp rfl (PE.move rfl) rfl ?_
 refine clV rfl cal84 rfl rfl (c_all _ _) ?_
 refine clV rfl cal101 rfl rfl (c_box g hg ag cg c hc ah ch bw 116 [] (fun _ => true) cal116 _ _ (fun G i _ => c_all1 i _ _)) ?_
 refine sp rfl (PE.move rfl) rfl ?_
 refine sy_block ?_
 obtain ⟨b, hb⟩ : ∃ b, b = (boxF g.miss c.hs fun _ => true) := ⟨_, rfl⟩
 rw [← hb]
 have hbo : Bok b := by rw [hb]; exact boxF_ok _ _ _
 refine sy_loop (ι := {k : Nat // k ≤ 4 ∧ ∀ j < k, inb (nn m j) (bl b j) (bh b j) = true}) (fun k => ⟨[(5, .pointer (some ⟨b5, 0, none⟩)), (29, bxv b), (30, .int .i64 k.1)], (b5, cel 31 (ints m)) :: (b4, cel 28 (ctl c (c.sl ah ch))) :: (b3, cel 25 (gtl g (g.sl ag cg))) :: H, RowsA (some ⟨bw, 0, none⟩) 6 [wrow g c (g.sl ag cg) (c.sl ah ch)] :: R⟩) (fun k => 4 - k.1) ⟨0, by omega, fun j hj => by omega⟩ ?_ (fun k => ?_)
 exact sy_at (by repeat' first | exact Sub.nil | apply Sub.cons | rfl | (simp [lk]; omega)) (fun _ h => h)
 obtain ⟨k, hk, hkk⟩ := k
 dsimp only at hk hkk ⊢
 refine sy_seq ?_
 refine sy_tx' [0] rfl ?_
 refine sp rfl (PE.lss rfl rfl) rfl ?_
 refine sy_seq ?_
 refine sy_cond rfl (fun hc2 => ?_) (fun hc2 => ?_)
 try simp only [decide_eq_true_eq, decide_eq_false_iff_not, Bool.and_eq_true, Bool.or_eq_true, Bool.not_eq_true', Int.not_le, Int.not_lt] at hc2
 have hk4 : k < 4 := by omega
 refine sy_skip ?_
 refine sy_seq ?_
 refine sy_block ?_
 refine sy_seq ?_
 refine sy_tx' [0, 1, 2, 3, 4] rfl ?_
 refine sp rfl (PE.move rfl) rfl ?_
 refine sp rfl ((PE.indexI (l := b) are128 (eqB_ok 10000 61 true 2 eqf61) (by simp) rfl rfl hk4 (by rw [hbo.len]; omega)).to (by rw [box_part hbo.len hk4])) rfl ?_
 refine alc rfl zl61 rfl (fun b12 => ?_)
 refine sp rfl (PE.assign rfl) rfl ?_
 refine sto rfl rfl rfl cn61 rfl rfl rfl rfl ?_
 refine sy_seq ?_
 refine sy_draw [0, 1, 3, 0, 8, 0, 32, 127, 255] (.tk 0 (.tk 1 (.ld 2 (.tk 3 (.ld 4 (.tk 5 (.ld 6 (.big 7 (.tk 8 .done))))))))) mixed (by kernel_rfl) ?_
 refine tk rfl (PE.move rfl) rfl ?_
 refine tk rfl (PE.indexArr ar31 rfl rfl (by omega) (by omega)) rfl ?_
 refine ld rfl rfl (lh sc3 rfl (mix_at hm hk4)) rfl ?_
 refine tk rfl (PE.fieldAddr fo61_0 rfl) rfl ?_
 refine ld rfl rfl (lh sc3 rfl rfl) rfl ?_
 refine tk rfl (PE.fieldAddr fo61_1 rfl) rfl ?_
 refine ld rfl rfl (lh sc3 rfl rfl) rfl ?_
 refine clV rfl cal14 rfl rfl (c_in _ _ _ _ _) ?_
 refine bg (fun w hs => ⟨trivial, trivial, trivial, trivial⟩) ?_
 refine tk rfl (PE.not rfl) rfl ?_
 refine sy_cond rfl (fun hc3 => ?_) (fun hc3 => ?_)
 have hno := fits_out (g := g) hc hg hk4 (m := m) (by cases h9 : inb (nn m k) (bl b k) (bh b k) with | false => rw [← hb]; exact h9 | true => rw [h9] at hc3; cases hc3) hmx
 refine sy_seq ?_
 refine sy_tx' [0, 1] rfl ?_
 refine sp rfl (PE.assign rfl) rfl ?_
 refine sp rfl (PE.assign rfl) rfl ?_
 refine sy_ret ?_
 exact sy_return (vs := [_, _]) rfl (.cons (RV.tmp rfl) (.cons (RV.tmp rfl) .nil)) (by rw [e0, hc1, hno, h1]; rfl) ⟨rfl, rfl, rfl⟩ drp
 have hin : inb (nn m k) (bl b k) (bh b k) = true := by cases h9 : inb (nn m k) (bl b k) (bh b k) with | true => rfl | false => rw [h9] at hc3; cases hc3
 refine sy_skip ?_
 refine sy_tx' [0, 1] rfl ?_
 refine sp rfl (PE.add rfl rfl (by omega)) rfl ?_
 refine sp rfl (PE.move rfl) rfl ?_
 exact sy_next ⟨k + 1, by omega, fun j hj => by rcases Nat.lt_succ_iff_lt_or_eq.1 hj with h1 | rfl; exact hkk j h1; exact hin⟩ (by dsimp only; omega) (by repeat' first | exact Sub.nil | apply Sub.cons | rfl | (simp [lk]; omega)) (fun w h => h.del b12)
 try simp only [decide_eq_true_eq, decide_eq_false_iff_not, Bool.and_eq_true, Bool.or_eq_true, Bool.not_eq_true', Int.not_le, Int.not_lt] at hc2
 obtain rfl : k = 4 := by omega
 have hyes := fits_end (g := g) hc hg hmx (hb ▸ hkk)
 refine sy_exit ?_
 repeat refine sy_tx ?_
 refine sy_bx ?_
 refine sy_seq ?_
 refine sy_tx' [0, 1] rfl ?_
 refine sp rfl (PE.assign rfl) rfl ?_
 refine sp rfl (PE.assign rfl) rfl ?_
 refine sy_ret ?_
 exact sy_return (vs := [_, _]) rfl (.cons (RV.tmp rfl) (.cons (RV.tmp rfl) .nil)) (by rw [e0, hc1, hyes, h1]; rfl) ⟨rfl, rfl, rfl⟩ drp
end Go.Proofs.YtndhkpnaeocnhaaGreat
namespace Go.Proofs.YtndhkpnaeocnhaaGreat
set_option linter.unusedSimpArgs false
set_option linter.unusedVariables false
open Go
def showR (g : Gat) (c : Crt) (gr : Int) : Mix × Int := bif decide (toldE g c (!(inb gr (-1) (g.grs.length - 1))) ≠ 0) then ([0, 0, 0, 0], toldE g c (!(inb gr (-1) (g.grs.length - 1)))) else match shwB g.grs (bndB g c) gr with
  | some x => (mixt x, 0)
  | none => ([0, 0, 0, 0], 6)
theorem shw_val2 {l : List Grd} {b : Box} (hb : Bok b) {j : Int} (hj : j = -1 ∨ ∃ i x, l[i]? = some x ∧ j = (i : Nat)) : ∃ m : List Int, m.length = 4 ∧ ((shwB l b j).map mxv).getD (.agg (ints [0, 0, 0, 0]).toArray) = .agg (ints m).toArray ∧ ∀ x, shwB l b j = some x → m = mixt x := by
  cases h : shwB l b j with
  | none => exact ⟨[0, 0, 0, 0], rfl, rfl, fun x h => by cases h⟩
  | some x => exact ⟨mixt x, ((shw_ok hb hj).1 x h).1.len, rfl, fun y h => by cases h; rfl⟩
theorem c_Show (g : Gat) (ag : Option Addr) (cg : Nat) (hlg : g.grs.length ≤ 9223372036854775807) (hcg : g.grs.length ≤ cg) (c : Crt) (ah : Option Addr) (ch : Nat) (hlh : c.hs.length ≤ 9223372036854775807) (gr : Int) (H : Heap) (R : Facts) [hG : MemRows ag 5 (grows g.grs) R] [hA : MemRows ah 5 (hrows c.hs) R] :
    FnV Tryz.prog 71 [g.v (g.sl ag cg), c.v (c.sl ah ch), .int .i64 gr] H R (.tuple #[.agg (ints (showR g c gr).1).toArray, .int .i64 (showR g c gr).2]) := by
 refine fn_of Tryz.func71 rfl Tryz.ntmps71 rfl ?_
 refine sy_seq ?_
 refine sy_tx' [0, 1, 2, 3] rfl ?_
 refine bx rfl rfl rfl (fun b3 => ?_)
 refine bx rfl rfl rfl (fun b4 => ?_)
 refine alc rfl zl31 rfl (fun b6 => ?_)
 refine sp rfl (PE.assign rfl) rfl ?_
 refine sy_seq ?_
 refine sy_draw [0, 0, 0, 0, 8, 24, 56, 124, 252, 511, 1023, 2047, 2047, 2047, 0, 20479, 57343, 131071] (.ld 0 (.ld 1 (.tk 2 (.tk 3 (.ld 4 (.tk 5 (.tk 6 (.any (.alt 7 (.tk 8 (.any (.alt 9 (.tk 10 (.tk 11 (.tk 12 (.tk 13 (.big 14 (.tk 15 (.big 16 (.tk 17 .done)))))))) (.alt 14 (.big 9 (.tk 10 (.tk 11 (.tk 12 (.tk 13 (.tk 15 (.big 16 (.tk 17 .done)))))))) .stop)))) (.alt 14 (.big 7 (.tk 8 (.big 9 (.tk 10 (.tk 11 (.tk 12 (.tk 13 (.tk 15 (.big 16 (.tk 17 .done)))))))))) .stop)))))))))) mixed (by kernel_rfl) ?_
 refine ld rfl rfl (lhA [_, _, _] ag25 rfl rfl rfl) rfl ?_
 refine ld rfl rfl (lhA [_, _, _] ag28 rfl rfl rfl) rfl ?_
 refine tk rfl (PE.move rfl) rfl ?_
 refine tk rfl (PE.fieldAddr fo25_2 rfl) rfl ?_
 refine ld rfl rfl (lh sc23 rfl rfl) rfl ?_
 refine tk rfl (PE.lenSl isl23 rfl) rfl ?_
 refine tk rfl (PE.sub rfl rfl (by omega)) rfl ?_
 refine sy_alt ?_ ?_
 refine clV rfl cal14 rfl rfl (c_in _ _ _ _ _) ?_
 refine bg (fun w hs => ⟨trivial, (lhA [_, _, _] ag28 rfl rfl rfl) w hs, (lhA [_, _, _] ag25 rfl rfl rfl) w hs, trivial⟩) ?_
 refine tk rfl (PE.not rfl) rfl ?_
 refine sy_alt ?_ ?_
 refine cl rfl cal80 rfl rfl (c_told g ag cg hlg c ah ch hlh (!(inb gr (-1) (g.grs.length - 1))) _ _) ?_
 rintro _ _ _ ⟨rfl, hT⟩
 rcases hT with ⟨hne, rfl, rfl⟩ | ⟨h0, hg, hc, bw, b, hb, rfl, rfl⟩
 refine bg (fun w hs => ⟨trivial, trivial, trivial⟩) ?_
 refine tk rfl (PE.move rfl) rfl ?_
 refine tk rfl (PE.extract rfl rfl) rfl ?_
 refine tk rfl (PE.extract rfl rfl) rfl ?_
 refine tk rfl (PE.extract rfl rfl) rfl ?_
 refine alc rfl zl128 rfl (fun b9 => ?_)
 refine bg (fun w hs => trivial) ?_
 refine tk rfl (PE.assign rfl) rfl ?_
 refine stoA rfl rfl rfl cn128 rfl (by rw [ints_length]; exact rfl) rfl (ints_one _) ?_
 refine bg (fun w hs => trivial) ?_
 refine tk rfl (PE.assign rfl) rfl ?_
 refine sy_seq ?_
 refine sy_seq ?_
 refine sy_tx' [0, 1] rfl ?_
 refine sp rfl (PE.move rfl) rfl ?_
 refine sp rfl (PE.neq rfl rfl) rfl ?_
 refine sy_cond rfl (fun hc0 => ?_) (fun hc0 => ?_)
 refine sy_seq ?_
 refine sy_tx' [0, 1, 2, 3] rfl ?_
 refine sp rfl (PE.zero (.inr (by rw [ar31]; rfl)) zl31) rfl ?_
 refine sp rfl (PE.move rfl) rfl ?_
 refine sto rfl rfl rfl cn31 rfl rfl rfl rfl ?_
 refine sp rfl (PE.assign rfl) rfl ?_
 refine sy_ret ?_
 exact sy_return (vs := [_, _]) rfl (.cons (RV.cell rfl (lhA (ints ([0, 0, 0, 0])) ag31 rfl (rest := []) (by rw [List.append_nil]; rfl) (by rw [ints_length]; exact rfl))) (.cons (RV.tmp rfl) .nil)) (by unfold showR; rw [decide_eq_true hne]; rfl) ⟨rfl, rfl, rfl⟩ drp
 exact absurd hc0 (by rw [decide_eq_true hne]; simp)
 refine bg (fun w hs => ⟨trivial, trivial, trivial⟩) ?_
 have hbt := told_tight hb
 have hbl := hbt.ok.len
 have hin : inb gr (-1) (g.grs.length - 1) = true := by
   cases hin : inb gr (-1) (g.grs.length - 1) with
   | true => rfl
   | false => rw [hin] at h0; exact (told_bad h0).elim
 have h00 : toldE g c false = 0 := by rw [hin] at h0; exact h0
 have hbd := bnd_of h00 hb
 simp only [inb, Bool.and_eq_true, decide_eq_true_eq] at hin
 have hmany := hg.many
 have hj1 : gr = -1 ∨ ∃ i x, g.grs[i]? = some x ∧ gr = (i : Nat) := by
   by_cases h9 : gr = -1
   · exact .inl h9
   · exact .inr ⟨gr.toNat, _, List.getElem?_eq_getElem (by omega), by omega⟩
 refine tk rfl (PE.move rfl) rfl ?_
 refine tk rfl (PE.extract rfl rfl) rfl ?_
 refine tk rfl (PE.extract rfl rfl) rfl ?_
 refine tk rfl (PE.extract rfl rfl) rfl ?_
 refine alc rfl zl128 rfl (fun b9 => ?_)
 refine bg (fun w hs => trivial) ?_
 refine tk rfl (PE.assign rfl) rfl ?_
 refine stoA rfl rfl rfl cn128 rfl (by rw [ints_length]; exact hbl) rfl (ints_one _) ?_
 refine bg (fun w hs => trivial) ?_
 refine tk rfl (PE.assign rfl) rfl ?_
 refine sy_seq ?_
 refine sy_seq ?_
 refine sy_tx' [0, 1] rfl ?_
 refine sp rfl (PE.move rfl) rfl ?_
 refine sp rfl (PE.neq rfl rfl) rfl ?_
 refine sy_cond rfl (fun hc0 => ?_) (fun hc0 => ?_)
 exact absurd hc0 (by simp)
 refine sy_skip ?_
 refine sy_seq ?_
 refine sy_tx' [0, 1, 2, 3, 4, 5, 6, 7, 8, 9, 10] rfl ?_
 refine sp rfl (PE.move rfl) rfl ?_
 refine spL rfl rfl (lhA (ints b) ag128 rfl (rest := []) (by rw [List.append_nil]; rfl) (by rw [ints_length]; exact hbl)) rfl ?_
 refine cl rfl cal111 rfl rfl (c_shown g hg ag cg c hc ah ch bw hcg b hbt _ _) ?_
 rintro _ _ R1 ⟨m, kv, rfl, hkv, rfl, hR1⟩
 obtain rfl := hR1.symm
 clear hR1
 refine sp rfl (PE.move rfl) rfl ?_
 refine spK rfl rfl rfl (lk_held kv [gr] mke161 (KeyT.of eqf3 noa3) (run_zv zv31) rfl hkv.one true) rfl ?_
 rw [hkv.hit (by omega)]
 obtain ⟨m1, hm1, hv1, hx1⟩ := shw_val2 (l := g.grs) hbt.ok (j := gr) hj1
 rw [show ((shwB g.grs b gr).map mxv).getD (.agg #[.int .i64 0, .int .i64 0, .int .i64 0, .int .i64 0]) = .agg (ints m1).toArray from hv1, Option.isSome_map]
 refine sp rfl (PE.move rfl) rfl ?_
 refine sp rfl (PE.extract rfl rfl) rfl ?_
 refine sp rfl (PE.extract rfl rfl) rfl ?_
 refine alc rfl zl31 rfl (fun b11 => ?_)
 refine stoA rfl rfl rfl cn31 rfl (by rw [ints_length]; exact hm1) rfl (ints_one _) ?_
 refine sp rfl (PE.assign rfl) rfl ?_
 refine sy_seq ?_
 refine sy_seq ?_
 refine sy_tx' [0, 1] rfl ?_
 refine sp rfl (PE.move rfl) rfl ?_
 refine sp rfl (PE.not rfl) rfl ?_
 refine sy_cond rfl (fun hc1 => ?_) (fun hc1 => ?_)
 have e : showR g c gr = ([0, 0, 0, 0], 6) := by
   unfold showR
   rw [decide_eq_false (by omega), hbd]
   cases h9 : shwB g.grs b gr with
   | none => rfl
   | some x => rw [h9] at hc1; cases hc1
 refine sy_seq ?_
 refine sy_tx' [0, 1, 2] rfl ?_
 refine sp rfl (PE.zero (.inr (by rw [ar31]; rfl)) zl31) rfl ?_
 refine sto rfl rfl rfl cn31 rfl rfl rfl rfl ?_
 refine sp rfl (PE.assign rfl) rfl ?_
 refine sy_ret ?_
 exact sy_return (vs := [_, _]) rfl (.cons (RV.cell rfl (lhA (ints ([0, 0, 0, 0])) ag31 rfl (rest := []) (by rw [List.append_nil]; rfl) (by rw [ints_length]; exact rfl))) (.cons (RV.tmp rfl) .nil)) (by rw [e]; rfl) ⟨rfl, rfl, rfl⟩ drp
 have e : showR g c gr = (m1, 0) := by
   unfold showR
   rw [decide_eq_false (by omega), hbd]
   cases h9 : shwB g.grs b gr with
   | none => rw [h9] at hc1; cases hc1
   | some x => rw [hx1 x h9]; rfl
 refine sy_skip ?_
 refine sy_seq ?_
 refine sy_tx' [0, 1, 2] rfl ?_
 refine spL rfl rfl (lhA (ints (m1)) ag31 rfl (rest := []) (by rw [List.append_nil]; rfl) (by rw [ints_length]; exact hm1)) rfl ?_
 refine stoA rfl rfl rfl cn31 rfl (by rw [ints_length]; exact hm1) rfl (ints_one _) ?_
 refine sp rfl (PE.assign rfl) rfl ?_
 refine sy_ret ?_
 exact sy_return (vs := [_, _]) rfl (.cons (RV.cell rfl (lhA (ints (m1)) ag31 rfl (rest := []) (by rw [List.append_nil]; rfl) (by rw [ints_length]; exact hm1))) (.cons (RV.tmp rfl) .nil)) (by rw [e]; rfl) ⟨rfl, rfl, rfl⟩ drp
 refine sy_alt ?_ ?_
 refine alc rfl zl128 rfl (fun b9 => ?_)
 refine bg (fun w hs => ⟨(lhA [_, _, _] ag28 rfl rfl rfl) w hs, (lhA [_, _, _] ag25 rfl rfl rfl) w hs, trivial⟩) ?_
 refine cl rfl cal80 rfl rfl (c_told g ag cg hlg c ah ch hlh (!(inb gr (-1) (g.grs.length - 1))) _ _) ?_
 rintro _ _ _ ⟨rfl, hT⟩
 rcases hT with ⟨hne, rfl, rfl⟩ | ⟨h0, hg, hc, bw, b, hb, rfl, rfl⟩
 refine bg (fun w hs => ⟨trivial, trivial, trivial⟩) ?_
 refine tk rfl (PE.move rfl) rfl ?_
 refine tk rfl (PE.extract rfl rfl) rfl ?_
 refine tk rfl (PE.extract rfl rfl) rfl ?_
 refine tk rfl (PE.extract rfl rfl) rfl ?_
 refine tk rfl (PE.assign rfl) rfl ?_
 refine stoA rfl rfl rfl cn128 rfl (by rw [ints_length]; exact rfl) rfl (ints_one _) ?_
 refine bg (fun w hs => trivial) ?_
 refine tk rfl (PE.assign rfl) rfl ?_
 refine sy_seq ?_
 refine sy_seq ?_
 refine sy_tx' [0, 1] rfl ?_
 refine sp rfl (PE.move rfl) rfl ?_
 refine sp rfl (PE.neq rfl rfl) rfl ?_
 refine sy_cond rfl (fun hc0 => ?_) (fun hc0 => ?_)
 refine sy_seq ?_
 refine sy_tx' [0, 1, 2, 3] rfl ?_
 refine sp rfl (PE.zero (.inr (by rw [ar31]; rfl)) zl31) rfl ?_
 refine sp rfl (PE.move rfl) rfl ?_
 refine sto rfl rfl rfl cn31 rfl rfl rfl rfl ?_
 refine sp rfl (PE.assign rfl) rfl ?_
 refine sy_ret ?_
 exact sy_return (vs := [_, _]) rfl (.cons (RV.cell rfl (lhA (ints ([0, 0, 0, 0])) ag31 rfl (rest := []) (by rw [List.append_nil]; rfl) (by rw [ints_length]; exact rfl))) (.cons (RV.tmp rfl) .nil)) (by unfold showR; rw [decide_eq_true hne]; rfl) ⟨rfl, rfl, rfl⟩ drp
 exact absurd hc0 (by rw [decide_eq_true hne]; simp)
 refine bg (fun w hs => ⟨trivial, trivial, trivial⟩) ?_
 have hbt := told_tight hb
 have hbl := hbt.ok.len
 have hin : inb gr (-1) (g.grs.length - 1) = true := by
   cases hin : inb gr (-1) (g.grs.length - 1) with
   | true => rfl
   | false => rw [hin] at h0; exact (told_bad h0).elim
 have h00 : toldE g c false = 0 := by rw [hin] at h0; exact h0
 have hbd := bnd_of h00 hb
 simp only [inb, Bool.and_eq_true, decide_eq_true_eq] at hin
 have hmany := hg.many
 have hj1 : gr = -1 ∨ ∃ i x, g.grs[i]? = some x ∧ gr = (i : Nat) := by
   by_cases h9 : gr = -1
   · exact .inl h9
   · exact .inr ⟨gr.toNat, _, List.getElem?_eq_getElem (by omega), by omega⟩
 refine tk rfl (PE.move rfl) rfl ?_
 refine tk rfl (PE.extract rfl rfl) rfl ?_
 refine tk rfl (PE.extract rfl rfl) rfl ?_
 refine tk rfl (PE.extract rfl rfl) rfl ?_
 refine tk rfl (PE.assign rfl) rfl ?_
 refine stoA rfl rfl rfl cn128 rfl (by rw [ints_length]; exact hbl) rfl (ints_one _) ?_
 refine bg (fun w hs => trivial) ?_
 refine tk rfl (PE.assign rfl) rfl ?_
 refine sy_seq ?_
 refine sy_seq ?_
 refine sy_tx' [0, 1] rfl ?_
 refine sp rfl (PE.move rfl) rfl ?_
 refine sp rfl (PE.neq rfl rfl) rfl ?_
 refine sy_cond rfl (fun hc0 => ?_) (fun hc0 => ?_)
 exact absurd hc0 (by simp)
 refine sy_skip ?_
 refine sy_seq ?_
 refine sy_tx' [0, 1, 2, 3, 4, 5, 6, 7, 8, 9, 10] rfl ?_
 refine sp rfl (PE.move rfl) rfl ?_
 refine spL rfl rfl (lhA (ints b) ag128 rfl (rest := []) (by rw [List.append_nil]; rfl) (by rw [ints_length]; exact hbl)) rfl ?_
 refine cl rfl cal111 rfl rfl (c_shown g hg ag cg c hc ah ch bw hcg b hbt _ _) ?_
 rintro _ _ R1 ⟨m, kv, rfl, hkv, rfl, hR1⟩
 obtain rfl := hR1.symm
 clear hR1
 refine sp rfl (PE.move rfl) rfl ?_
 refine spK rfl rfl rfl (lk_held kv [gr] mke161 (KeyT.of eqf3 noa3) (run_zv zv31) rfl hkv.one true) rfl ?_
 rw [hkv.hit (by omega)]
 obtain ⟨m1, hm1, hv1, hx1⟩ := shw_val2 (l := g.grs) hbt.ok (j := gr) hj1
 rw [show ((shwB g.grs b gr).map mxv).getD (.agg #[.int .i64 0, .int .i64 0, .int .i64 0, .int .i64 0]) = .agg (ints m1).toArray from hv1, Option.isSome_map]
 refine sp rfl (PE.move rfl) rfl ?_
 refine sp rfl (PE.extract rfl rfl) rfl ?_
 refine sp rfl (PE.extract rfl rfl) rfl ?_
 refine alc rfl zl31 rfl (fun b11 => ?_)
 refine stoA rfl rfl rfl cn31 rfl (by rw [ints_length]; exact hm1) rfl (ints_one _) ?_
 refine sp rfl (PE.assign rfl) rfl ?_
 refine sy_seq ?_
 refine sy_seq ?_
 refine sy_tx' [0, 1] rfl ?_
 refine sp rfl (PE.move rfl) rfl ?_
 refine sp rfl (PE.not rfl) rfl ?_
 refine sy_cond rfl (fun hc1 => ?_) (fun hc1 => ?_)
 have e : showR g c gr = ([0, 0, 0, 0], 6) := by
   unfold showR
   rw [decide_eq_false (by omega), hbd]
   cases h9 : shwB g.grs b gr with
   | none => rfl
   | some x => rw [h9] at hc1; cases hc1
 refine sy_seq ?_
 refine sy_tx' [0, 1, 2] rfl ?_
 refine sp rfl (PE.zero (.inr (by rw [ar31]; rfl)) zl31) rfl ?_
 refine sto rfl rfl rfl cn31 rfl rfl rfl rfl ?_
 refine sp rfl (PE.assign rfl) rfl ?_
 refine sy_ret ?_
 exact sy_return (vs := [_, _]) rfl (.cons (RV.cell rfl (lhA (ints ([0, 0, 0, 0])) ag31 rfl (rest := []) (by rw [List.append_nil]; rfl) (by rw [ints_length]; exact rfl))) (.cons (RV.tmp rfl) .nil)) (by rw [e]; rfl) ⟨rfl, rfl, rfl⟩ drp
 have e : showR g c gr = (m1, 0) := by
   unfold showR
   rw [decide_eq_false (by omega), hbd]
   cases h9 : shwB g.grs b gr with
   | none => rw [h9] at hc1; cases hc1
   | some x => rw [hx1 x h9]; rfl
 refine sy_skip ?_
 refine sy_seq ?_
 refine sy_tx' [0, 1, 2] rfl ?_
 refine spL rfl rfl (lhA (ints (m1)) ag31 rfl (rest := []) (by rw [List.append_nil]; rfl) (by rw [ints_length]; exact hm1)) rfl ?_
 refine stoA rfl rfl rfl cn31 rfl (by rw [ints_length]; exact hm1) rfl (ints_one _) ?_
 refine sp rfl (PE.assign rfl) rfl ?_
 refine sy_ret ?_
 exact sy_return (vs := [_, _]) rfl (.cons (RV.cell rfl (lhA (ints (m1)) ag31 rfl (rest := []) (by rw [List.append_nil]; rfl) (by rw [ints_length]; exact hm1))) (.cons (RV.tmp rfl) .nil)) (by rw [e]; rfl) ⟨rfl, rfl, rfl⟩ drp
 exact sy_stop
 refine sy_alt ?_ ?_
 refine alc rfl zl128 rfl (fun b9 => ?_)
 refine bg (fun w hs => ⟨(lh sc23 rfl rfl) w hs, (lhA [_, _, _] ag28 rfl rfl rfl) w hs, (lhA [_, _, _] ag25 rfl rfl rfl) w hs, trivial⟩) ?_
 refine clV rfl cal14 rfl rfl (c_in _ _ _ _ _) ?_
 refine bg (fun w hs => ⟨trivial, (lhA [_, _, _] ag28 rfl rfl rfl) w hs, (lhA [_, _, _] ag25 rfl rfl rfl) w hs, trivial⟩) ?_
 refine tk rfl (PE.not rfl) rfl ?_
 refine cl rfl cal80 rfl rfl (c_told g ag cg hlg c ah ch hlh (!(inb gr (-1) (g.grs.length - 1))) _ _) ?_
 rintro _ _ _ ⟨rfl, hT⟩
 rcases hT with ⟨hne, rfl, rfl⟩ | ⟨h0, hg, hc, bw, b, hb, rfl, rfl⟩
 refine bg (fun w hs => ⟨trivial, trivial, trivial⟩) ?_
 refine tk rfl (PE.move rfl) rfl ?_
 refine tk rfl (PE.extract rfl rfl) rfl ?_
 refine tk rfl (PE.extract rfl rfl) rfl ?_
 refine tk rfl (PE.extract rfl rfl) rfl ?_
 refine tk rfl (PE.assign rfl) rfl ?_
 refine stoA rfl rfl rfl cn128 rfl (by rw [ints_length]; exact rfl) rfl (ints_one _) ?_
 refine bg (fun w hs => trivial) ?_
 refine tk rfl (PE.assign rfl) rfl ?_
 refine sy_seq ?_
 refine sy_seq ?_
 refine sy_tx' [0, 1] rfl ?_
 refine sp rfl (PE.move rfl) rfl ?_
 refine sp rfl (PE.neq rfl rfl) rfl ?_
 refine sy_cond rfl (fun hc0 => ?_) (fun hc0 => ?_)
 refine sy_seq ?_
 refine sy_tx' [0, 1, 2, 3] rfl ?_
 refine sp rfl (PE.zero (.inr (by rw [ar31]; rfl)) zl31) rfl ?_
 refine sp rfl (PE.move rfl) rfl ?_
 refine sto rfl rfl rfl cn31 rfl rfl rfl rfl ?_
 refine sp rfl (PE.assign rfl) rfl ?_
 refine sy_ret ?_
 exact sy_return (vs := [_, _]) rfl (.cons (RV.cell rfl (lhA (ints ([0, 0, 0, 0])) ag31 rfl (rest := []) (by rw [List.append_nil]; rfl) (by rw [ints_length]; exact rfl))) (.cons (RV.tmp rfl) .nil)) (by unfold showR; rw [decide_eq_true hne]; rfl) ⟨rfl, rfl, rfl⟩ drp
 exact absurd hc0 (by rw [decide_eq_true hne]; simp)
 refine bg (fun w hs => ⟨trivial, trivial, trivial⟩) ?_
 have hbt := told_tight hb
 have hbl := hbt.ok.len
 have hin : inb gr (-1) (g.grs.length - 1) = true := by
   cases hin : inb gr (-1) (g.grs.length - 1) with
   | true => rfl
   | false => rw [hin] at h0; exact (told_bad h0).elim
 have h00 : toldE g c false = 0 := by rw [hin] at h0; exact h0
 have hbd := bnd_of h00 hb
 simp only [inb, Bool.and_eq_true, decide_eq_true_eq] at hin
 have hmany := hg.many
 have hj1 : gr = -1 ∨ ∃ i x, g.grs[i]? = some x ∧ gr = (i : Nat) := by
   by_cases h9 : gr = -1
   · exact .inl h9
   · exact .inr ⟨gr.toNat, _, List.getElem?_eq_getElem (by omega), by omega⟩
 refine tk rfl (PE.move rfl) rfl ?_
 refine tk rfl (PE.extract rfl rfl) rfl ?_
 refine tk rfl (PE.extract rfl rfl) rfl ?_
 refine tk rfl (PE.extract rfl rfl) rfl ?_
 refine tk rfl (PE.assign rfl) rfl ?_
 refine stoA rfl rfl rfl cn128 rfl (by rw [ints_length]; exact hbl) rfl (ints_one _) ?_
 refine bg (fun w hs => trivial) ?_
 refine tk rfl (PE.assign rfl) rfl ?_
 refine sy_seq ?_
 refine sy_seq ?_
 refine sy_tx' [0, 1] rfl ?_
 refine sp rfl (PE.move rfl) rfl ?_
 refine sp rfl (PE.neq rfl rfl) rfl ?_
 refine sy_cond rfl (fun hc0 => ?_) (fun hc0 => ?_)
 exact absurd hc0 (by simp)
 refine sy_skip ?_
 refine sy_seq ?_
 refine sy_tx' [0, 1, 2, 3, 4, 5, 6, 7, 8, 9, 10] rfl ?_
 refine sp rfl (PE.move rfl) rfl ?_
 refine spL rfl rfl (lhA (ints b) ag128 rfl (rest := []) (by rw [List.append_nil]; rfl) (by rw [ints_length]; exact hbl)) rfl ?_
 refine cl rfl cal111 rfl rfl (c_shown g hg ag cg c hc ah ch bw hcg b hbt _ _) ?_
 rintro _ _ R1 ⟨m, kv, rfl, hkv, rfl, hR1⟩
 obtain rfl := hR1.symm
 clear hR1
 refine sp rfl (PE.move rfl) rfl ?_
 refine spK rfl rfl rfl (lk_held kv [gr] mke161 (KeyT.of eqf3 noa3) (run_zv zv31) rfl hkv.one true) rfl ?_
 rw [hkv.hit (by omega)]
 obtain ⟨m1, hm1, hv1, hx1⟩ := shw_val2 (l := g.grs) hbt.ok (j := gr) hj1
 rw [show ((shwB g.grs b gr).map mxv).getD (.agg #[.int .i64 0, .int .i64 0, .int .i64 0, .int .i64 0]) = .agg (ints m1).toArray from hv1, Option.isSome_map]
 refine sp rfl (PE.move rfl) rfl ?_
 refine sp rfl (PE.extract rfl rfl) rfl ?_
 refine sp rfl (PE.extract rfl rfl) rfl ?_
 refine alc rfl zl31 rfl (fun b11 => ?_)
 refine stoA rfl rfl rfl cn31 rfl (by rw [ints_length]; exact hm1) rfl (ints_one _) ?_
 refine sp rfl (PE.assign rfl) rfl ?_
 refine sy_seq ?_
 refine sy_seq ?_
 refine sy_tx' [0, 1] rfl ?_
 refine sp rfl (PE.move rfl) rfl ?_
 refine sp rfl (PE.not rfl) rfl ?_
 refine sy_cond rfl (fun hc1 => ?_) (fun hc1 => ?_)
 have e : showR g c gr = ([0, 0, 0, 0], 6) := by
   unfold showR
   rw [decide_eq_false (by omega), hbd]
   cases h9 : shwB g.grs b gr with
   | none => rfl
   | some x => rw [h9] at hc1; cases hc1
 refine sy_seq ?_
 refine sy_tx' [0, 1, 2] rfl ?_
 refine sp rfl (PE.zero (.inr (by rw [ar31]; rfl)) zl31) rfl ?_
 refine sto rfl rfl rfl cn31 rfl rfl rfl rfl ?_
 refine sp rfl (PE.assign rfl) rfl ?_
 refine sy_ret ?_
 exact sy_return (vs := [_, _]) rfl (.cons (RV.cell rfl (lhA (ints ([0, 0, 0, 0])) ag31 rfl (rest := []) (by rw [List.append_nil]; rfl) (by rw [ints_length]; exact rfl))) (.cons (RV.tmp rfl) .nil)) (by rw [e]; rfl) ⟨rfl, rfl, rfl⟩ drp
 have e : showR g c gr = (m1, 0) := by
   unfold showR
   rw [decide_eq_false (by omega), hbd]
   cases h9 : shwB g.grs b gr with
   | none => rw [h9] at hc1; cases hc1
   | some x => rw [hx1 x h9]; rfl
 refine sy_skip ?_
 refine sy_seq ?_
 refine sy_tx' [0, 1, 2] rfl ?_
 refine spL rfl rfl (lhA (ints (m1)) ag31 rfl (rest := []) (by rw [List.append_nil]; rfl) (by rw [ints_length]; exact hm1)) rfl ?_
 refine stoA rfl rfl rfl cn31 rfl (by rw [ints_length]; exact hm1) rfl (ints_one _) ?_
 refine sp rfl (PE.assign rfl) rfl ?_
 refine sy_ret ?_
 exact sy_return (vs := [_, _]) rfl (.cons (RV.cell rfl (lhA (ints (m1)) ag31 rfl (rest := []) (by rw [List.append_nil]; rfl) (by rw [ints_length]; exact hm1))) (.cons (RV.tmp rfl) .nil)) (by rw [e]; rfl) ⟨rfl, rfl, rfl⟩ drp
 exact sy_stop
end Go.Proofs.YtndhkpnaeocnhaaGreat
namespace Go.Proofs.YtndhkpnaeocnhaaGreat
set_option linter.unusedSimpArgs false
set_option linter.unusedVariables false
open Go
def isStr (P : Program) (T : Nat) : Bool := match P.underlying T with | some .string => true | _ => false
def U8 (v : Value) : Prop := ∃ x : Int, v = .int .u8 x ∧ 0 ≤ x ∧ x ≤ 255
theorem wrap_u8_id {n : Int} (h0 : 0 ≤ n) (h1 : n ≤ 255) : IntKind.u8.wrap n = n := by
  have e : IntKind.u8.wrap n = n % 256 := rfl
  rw [e]; omega
theorem wrap_u64_id {n : Int} (h0 : 0 ≤ n) (h1 : n ≤ 18446744073709551615) : IntKind.u64.wrap n = n := by
  have e : IntKind.u64.wrap n = n % 18446744073709551616 := rfl
  rw [e]; omega
section pe
variable {P : Program} {L : Slots} {d : Option Tmp} {ty : TypeId} {pos : String} {af : Array Edge} {g : Option (Nat × Bool)}
def fTy (P : Program) (T k : Nat) : Option (Nat × Nat) := match P.underlying T with
  | some (.struct fs) => fs[k]?.map fun f => (f.type, f.offset)
  | _ => none
theorem PE.fieldI {T k e o s : Nat} {b : Bool} {x : Operand} {l : List Int} (hF : fTy P T k = some (e, o)) (hE : EQ P 10000 b e s) (hs : b = false → s = 1) (hx : ev L x = some (.agg (ints l).toArray)) (hl : o + s ≤ l.length) :
    PE P L ⟨d, .field T x k, ty, pos, af, g⟩ (mkv b ((l.drop o).take s)) := fun ρ hρ w => by
  unfold fTy at hF
  split at hF
  · rename_i fs hu
    obtain ⟨f, hf, he⟩ := Option.map_eq_some_iff.1 hF
    cases he
    have hp := run_part hE hs l f.offset hl
    simp only [execOp, hρ _ _ hx, Instr.field, Sem.run_bind, Sem.run_pure, run_underlying hu, Result.andThen, hf, asAgg, hp]
  · cases hF
theorem PE.indexS {T : TypeId} {x y : Operand} {k : IntKind} {s : ByteArray} {i m : Nat} (hT : isStr P T = true) (hx : ev L x = some (.string s)) (hy : ev L y = some (.int k i)) (hz : s.size = m) (hi : i < m) :
    ∃ v, PE P L ⟨d, .index T x y, ty, pos, af, g⟩ v ∧ U8 v := by
  have hu : P.underlying T = some .string := by
    unfold isStr at hT
    split at hT
    · assumption
    · cases hT
  refine ⟨.int .u8 (s[i]'(by omega)).toNat, fun ρ hρ w => ?_, _, rfl, by omega, ?_⟩
  · have e1 : s[i]? = some (s[i]'(by omega)) := getElem?_pos s i (by omega)
    simp only [execOp, hρ _ _ hx, hρ _ _ hy, Instr.index, asIntOf, Sem.run_bind, Sem.run_pure, run_underlying hu, Result.andThen]
    rw [if_pos (by omega), Int.toNat_natCast, e1]
    rfl
  · have := UInt8.toNat_lt (s[i]'(by omega)); omega
end pe
theorem run_storeA {P : Program} {b e od : Nat} {l vs : List Value} (h1 : vs.all (·.oneCell') = true) (hb : od + vs.length ≤ l.length) {w : World} (h : w.heap[b]? = some (cel e l)) :
    (storeCells ⟨b, od, none⟩ vs).run P w = .ok () { w with heap := w.heap.setIfInBounds b (cel e (spl l od vs)) } := by
  have := run_storeCells_at (P := P) b od e vs 0 l.toArray w h (by simpa using hb) (fun x hx => List.all_eq_true.1 h1 x hx)
  rw [setRow_cells h] at this
  simpa [spl] using this
section steps
variable {P : Program} {r : Option Nat} {ops : Array Oper} {n : Nat} {L : Slots} {D : List Deferred} {H : Heap} {R : Facts} {K : Act → World → Prop}
  {i d : Nat} {ty : TypeId} {pos : String} {af : Array Edge}
theorem clrA {T e s : Nat} {x : Operand} {b od k c e2 : Nat} {l z : List Value} {H' : Heap} {dd : Option Nat} (ho : ops[i]? = some ⟨dd, .call { callee := .builtin .clear, args := #[x], argTypes := #[T] }, ty, pos, af, none⟩) (hdd : dd = none) (hT : slE P T = some (e, s))
    (hz : zeroL P e = some z) (hzs : z.length = s) (hz1 : z.all (·.oneCell') = true) (hx : ev L x = some (.slice (some ⟨b, od, none⟩) k c)) (hb : od + k * s ≤ l.length)
    [m : Mem1 b (cel e2 l) H] [rp : Rep [(b, cel e2 l)] [(b, cel e2 (spl l od (repl k z)))] H H'] (h : Sy n L D H' R K) : Sy n L D H R (stp P r ops i K) := fun a w ha hD hs => by
  subst hdd
  obtain ⟨ie, hu, hi, rfl⟩ := slE_und hT
  obtain ⟨zv, hzv1, hzv2⟩ := run_zero hz
  have hlz : ∀ r ∈ List.replicate k z, r.length = ie.size := fun r hr => by rw [(List.mem_replicate.1 hr).2]; exact hzs
  have hr : (repl k z).length = k * ie.size := by rw [← flat_repl, flat_len hlz]; simp
  have hst := run_storeA (P := P) (e := e2) (l := l) (vs := repl k z) (by
    rw [← flat_repl]
    refine List.all_eq_true.2 fun v hv => ?_
    obtain ⟨q, hq, hvq⟩ := List.mem_flatten.1 hv
    rw [(List.mem_replicate.1 hq).2] at hvq
    exact List.all_eq_true.1 hz1 v hvq) (by rw [hr]; exact hb) (hs.held _ m.mem)
  have hzc : (Builtin.zeroCells zv.cells k).toList = repl k z := by rw [hzv1]; simp [Builtin.zeroCells, repl]
  refine stp_value ho (wanted_none _ rfl _) (v := .tuple #[]) (w' := { w with heap := w.heap.setIfInBounds b (cel e2 (spl l od (repl k z))) }) ?_ (h _ _ (ha.putNone _) hD (hs.rep (F := [(b, cel e2 l)]) (F' := [(b, cel e2 (spl l od (repl k z)))]) fun T hT => St.set hT))
  simp only [execOp, resolve, invoke, builtin, Sem.run_bind, Sem.run_pure, Result.andThen, List.map_toArray, List.map_cons, List.map_nil, ha.reads _ _ hx]
  have e3 : (Builtin.clear_ #[T] ty #[.slice (some ⟨b, od, none⟩) k c]).run P w = .ok (.tuple #[]) { w with heap := w.heap.setIfInBounds b (cel e2 (spl l od (repl k z))) } := by
    rcases Nat.eq_zero_or_pos k with h0 | h0
    · subst h0
      have h4 : spl l od (repl 0 z) = l := by simp [spl, repl]
      have h5 : w.heap.setIfInBounds b (cel e2 l) = w.heap := by
        apply Array.ext_getElem?
        intro j
        by_cases e : b = j
        · subst e
          have hlt : b < w.heap.size := hs.lt (mem_ids m.mem)
          rw [Array.getElem?_setIfInBounds_self_of_lt hlt]; exact (hs.held _ m.mem).symm
        · rw [Array.getElem?_setIfInBounds_ne e]
      rw [h4, h5]
      simp [Builtin.clear_, run_underlying hu]
    · obtain ⟨q, rfl⟩ : ∃ q, k = q + 1 := ⟨k - 1, by omega⟩
      simp only [Builtin.clear_, Sem.run_bind, run_underlying hu, Result.andThen, hzv2, hzc, hst, Sem.run_pure, List.getElem?_toArray, List.getElem?_cons_zero]
  rw [e3]
end steps
section dag
variable {P : Program} {r : Option Nat} {ops : Array Oper} {bm : List Nat} {X : Act → World → Prop} {n : Nat} {L : Slots} {D : List Deferred} {H : Heap} {R : Facts} {p : Plan} {pend : Pend}
theorem reg_ok {fuel : Nat} {listed : Array Bool} (hf : ops.size = fuel) (hl : Array.replicate fuel false = listed) (h1 : (bmOk ops bm && Region.noSelect ops) = true) (h2 : planOk ops p false fuel listed = true) : regOk ops bm p = true := by
  subst hf hl
  unfold regOk
  rw [h1, h2]; rfl
theorem ok_have {b : Bool} {fuel : Nat} {listed : Array Bool} (q : Plan) (f : Nat) (l : Array Bool) (h1 : planOk ops q false f l = true) (h2 : planOk ops q false f l = true → planOk ops p b fuel listed = true) : planOk ops p b fuel listed = true := h2 h1
theorem ok_any {fuel : Nat} {listed : Array Bool} (h1 : (Region.ready .any ops listed == heads p && heads p != []) = true) (h2 : planOk ops p true fuel listed = true) : planOk ops (.any p) false (fuel + 1) listed = true := by
  unfold planOk; rw [h1, h2]; rfl
theorem ok_alt {i : Nat} {rest : Plan} {fuel : Nat} {listed l2 : Array Bool} (e : listed.setIfInBounds i true = l2) (h1 : planOk ops p false fuel l2 = true) (h2 : planOk ops rest true fuel listed = true) : planOk ops (.alt i p rest) true fuel listed = true := by
  subst e
  unfold planOk; rw [h1, h2]; rfl
theorem ok_stop {fuel : Nat} {listed : Array Bool} : planOk ops .stop true fuel listed = true := by unfold planOk; rfl
theorem ok_big {i : Nat} {fuel : Nat} {listed l2 : Array Bool} (h1 : (Region.ready .any ops listed == [i]) = true) (e : listed.setIfInBounds i true = l2) (h2 : planOk ops p false fuel l2 = true) : planOk ops (.big i p) false (fuel + 1) listed = true := by
  subst e
  unfold planOk; rw [h1, h2]; rfl
theorem ok_ld {i : Nat} {fuel : Nat} {listed l2 : Array Bool} (h1 : ((Region.ready .any ops listed).contains i && Region.free .any ops listed i) = true) (e : listed.setIfInBounds i true = l2) (h2 : planOk ops p false fuel l2 = true) : planOk ops (.ld i p) false (fuel + 1) listed = true := by
  subst e
  unfold planOk; rw [h1, h2]; rfl
theorem ok_done {fuel : Nat} {listed : Array Bool} (h : (Region.ready .any ops listed == []) = true) : planOk ops .done false fuel listed = true := by
  cases fuel <;> simpa [planOk] using h
theorem sy_have {β : Type} (q : Plan) (st : β → Slots × Heap × Facts × Pend) (h1 : ∀ v, Sy n (st v).1 D (st v).2.1 (st v).2.2.1 (Dv P r ops bm X q (st v).2.2.2))
    (h2 : (∀ v, Sy n (st v).1 D (st v).2.1 (st v).2.2.1 (Dv P r ops bm X q (st v).2.2.2)) → Sy n L D H R (Dv P r ops bm X p pend)) : Sy n L D H R (Dv P r ops bm X p pend) := h2 h1
theorem sy_to {K : Act → World → Prop} {L' : Slots} {H' : Heap} {R' : Facts} (h : Sy n L' D H' R' K) (hL : Sub L' L) (hH : ∀ w, St H R w → St H' R' w) : Sy n L D H R K := fun a w ha hD hs => h a w (ha.sub hL.lk) hD (hH w hs)
end dag
end Go.Proofs.YtndhkpnaeocnhaaGreat
namespace Go.Proofs.YtndhkpnaeocnhaaGreat
set_option linter.unusedSimpArgs false
set_option linter.unusedVariables false
open Go
theorem ap23 : apT Tryz.prog 23 = some (36, 5, 40) := by kernel_rfl
theorem cal89 : cal Tryz.prog 89 = true := by kernel_rfl
theorem cal90 : cal Tryz.prog 90 = true := by kernel_rfl
theorem agr_iff {miss : Int} (hm : 0 ≤ miss) {hs : List Hnd} (hh : ∀ h ∈ hs, h.ok) (f : Nat → Bool) : agr miss hs f = true ↔ ∃ m, Mxt m ∧ ∀ i h, hs[i]? = some h → f i = true → fitB miss h m = true := by
  unfold agr
  cases hc : clo (boxF miss hs f) with
  | none =>
    constructor
    · intro h; cases h
    · rintro ⟨m, h1, h2⟩
      exact absurd ((boxF_mx hm hh f m).2 ⟨h1, h2⟩) (clo_none (boxF_ok _ _ _) hc m)
  | some b =>
    obtain ⟨h3, h4⟩ := clo_some (boxF_ok _ _ _) hc
    exact ⟨fun _ => ⟨_, (boxF_mx hm hh f _).1 ((h4 _).1 (mixt_mx h3))⟩, fun _ => rfl⟩
theorem agr_less {miss : Int} (hm : 0 ≤ miss) {hs hs' : List Hnd} (hh : ∀ h ∈ hs, h.ok) (hh' : ∀ h ∈ hs', h.ok) {f f' : Nat → Bool} (h : ∀ j x, hs'[j]? = some x → f' j = true → ∃ i, hs[i]? = some x ∧ f i = true) (ha : agr miss hs f = true) : agr miss hs' f' = true := by
  obtain ⟨m, h1, h2⟩ := (agr_iff hm hh f).1 ha
  exact (agr_iff hm hh' f').2 ⟨m, h1, fun j x hj hf => by obtain ⟨i, hi, hfi⟩ := h j x hj hf; exact h2 i x hi hfi⟩
theorem find_range {α : Type} {f : Nat → Option α} : ∀ (n s : Nat) {x : α}, (List.range' s n).findSome? f = some x → ∃ k, s ≤ k ∧ k < s + n ∧ f k = some x ∧ ∀ j, s ≤ j → j < k → f j = none
  | 0, s, x, h => by simp at h
  | n + 1, s, x, h => by
    rw [List.range'_succ, List.findSome?_cons] at h
    cases hf : f s with
    | some y => rw [hf] at h; obtain rfl := Option.some.inj h; exact ⟨s, by omega, by omega, hf, fun j h1 h2 => by omega⟩
    | none =>
      rw [hf] at h
      obtain ⟨k, h1, h2, h3, h4⟩ := find_range n (s + 1) h
      exact ⟨k, by omega, by omega, h3, fun j h5 h6 => by
        rcases Nat.eq_or_lt_of_le h5 with rfl | h7
        · exact hf
        · exact h4 j (by omega) h6⟩
theorem more_no {ag : List Int → Bool} {n : Nat} : ∀ (y : List Nat) {fr : Nat} {l : List Int}, moreS ag n y.length l fr = none → y.Pairwise (· < ·) → (∀ j ∈ y, fr ≤ j ∧ j < n) → ag (l ++ y.map fun (j : Nat) => (j : Int)) = true
  | [], fr, l, h, _, _ => by
    simp only [List.length_nil, moreS] at h
    cases ha : ag l with
    | true => simpa using ha
    | false => rw [ha] at h; cases h
  | j :: y, fr, l, h, hp, hb => by
    rw [List.length_cons, moreS, List.findSome?_eq_none_iff] at h
    have hj := hb j (by simp)
    have h1 := h j (List.mem_range'_1.2 ⟨hj.1, by omega⟩)
    obtain ⟨h2, h3⟩ := List.pairwise_cons.1 hp
    have h4 := more_no y h1 h3 (fun i hi => ⟨h2 i hi, (hb i (by simp [hi])).2⟩)
    simpa using h4
theorem nodup_len {α : Type} [DecidableEq α] : ∀ {l l' : List α}, l.Nodup → (∀ x ∈ l, x ∈ l') → l.length ≤ l'.length
  | [], _, _, _ => Nat.zero_le _
  | x :: l, l', hn, hs => by
    obtain ⟨h1, h2⟩ := List.nodup_cons.1 hn
    have hx := hs x (by simp)
    have h3 := nodup_len (l := l) (l' := l'.erase x) h2 (fun y hy => (List.mem_erase_of_ne (fun e => h1 (by rw [← e]; exact hy))).2 (hs y (by simp [hy])))
    have h4 := List.length_erase_of_mem hx
    have h5 := List.length_pos_of_mem hx
    simp only [List.length_cons]; omega
structure Ord (p : List Nat) (n : Nat) : Prop where
  len : p.length = n
  nd : p.Nodup
  lt : ∀ i ∈ p, i < n
theorem Ord.nil : Ord [] 0 := ⟨rfl, List.nodup_nil, by simp⟩
theorem Ord.ins {p : List Nat} {n j : Nat} (h : Ord p n) (hj : j ≤ n) : Ord (p.take j ++ n :: p.drop j) (n + 1) := by
  have hp : (p.take j ++ n :: p.drop j).Perm (n :: p) := by
    have h1 := List.perm_middle (a := n) (l₁ := p.take j) (l₂ := p.drop j)
    rwa [List.take_append_drop] at h1
  refine ⟨by rw [hp.length_eq]; simp [h.len], hp.nodup_iff.2 (List.nodup_cons.2 ⟨fun h1 => Nat.lt_irrefl _ (h.lt n h1), h.nd⟩), fun i hi => ?_⟩
  rcases List.mem_cons.1 (hp.mem_iff.1 hi) with rfl | h1
  · omega
  · have := h.lt i h1; omega
structure Wrt (hs dl : List Hnd) (p : List Nat) (k : Nat) : Prop where
  len : dl.length = hs.length
  at_ : ∀ i < k, ∀ j, p[i]? = some j → dl[j]? = hs[i]?
  sub : ∀ x ∈ dl, x ∈ hs
theorem Wrt.start (hs : List Hnd) (p : List Nat) : Wrt hs hs p 0 := ⟨rfl, fun i hi => by omega, fun _ h => h⟩
theorem Wrt.more {hs dl : List Hnd} {p : List Nat} {k j : Nat} {x : Hnd} (h : Wrt hs dl p k) (hp : Ord p hs.length) (hj : p[k]? = some j) (hx : hs[k]? = some x) : Wrt hs (dl.set j x) p (k + 1) := by
  have hjl := hp.lt j (List.mem_of_getElem? hj)
  refine ⟨by simp [h.len], fun i hi q hq => ?_, fun y hy => ?_⟩
  · rw [List.getElem?_set]
    by_cases hqj : j = q
    · subst hqj
      have hik : i = k := by
        have h1 := (List.getElem?_eq_some_iff.1 hq).1
        have h2 := (List.getElem?_eq_some_iff.1 hj).1
        have e1 := (List.getElem?_eq_some_iff.1 hq).2
        have e2 := (List.getElem?_eq_some_iff.1 hj).2
        have hnd := List.pairwise_iff_getElem.1 hp.nd
        rcases Nat.lt_trichotomy i k with h3 | h3 | h3
        · exact absurd (e1.trans e2.symm) (hnd i k h1 h2 h3)
        · exact h3
        · exact absurd (e2.trans e1.symm) (hnd k i h2 h1 h3)
      subst hik
      rw [if_pos rfl, if_pos (by rw [h.len]; exact hjl), hx]
    · rw [if_neg hqj]
      have hik : i ≠ k := fun e => by subst e; rw [hj] at hq; exact hqj (Option.some.inj hq)
      exact h.at_ i (by omega) q hq
  · rcases List.mem_or_eq_of_mem_set hy with h1 | rfl
    · exact h.sub y h1
    · exact List.mem_of_getElem? hx
theorem Wrt.done {hs dl : List Hnd} {p : List Nat} (h : Wrt hs dl p hs.length) (hp : Ord p hs.length) (x : Hnd) : x ∈ hs ↔ x ∈ dl := by
  refine ⟨fun hx => ?_, h.sub x⟩
  obtain ⟨i, hi⟩ := List.getElem?_of_mem hx
  have hil := (List.getElem?_eq_some_iff.1 hi).1
  have h1 := h.at_ i hil (p[i]'(by rw [hp.len]; exact hil)) (List.getElem?_eq_getElem _)
  rw [hi] at h1
  exact List.mem_of_getElem? h1
theorem spl_at {p q s vs : List Value} (h : q.length = vs.length) : spl (p ++ (q ++ s)) p.length vs = p ++ (vs ++ s) := by
  unfold spl
  rw [List.take_left, show p.length + vs.length = (p ++ q).length by simp [h], ← List.append_assoc p q s, List.drop_left, List.append_assoc]
theorem cut_at {α : Type} {xs : List α} {i : Nat} (hi : i < xs.length) : ∃ A y B, xs = A ++ y :: B ∧ i = A.length := ⟨xs.take i, xs[i], xs.drop (i + 1), by rw [← List.drop_eq_getElem_cons hi, List.take_append_drop], by rw [List.length_take]; omega⟩
theorem irows_flat' (l : List Int) : (irows l).flatten = ints l := irows_flat l
theorem ir_len (l : List Int) : ∀ r ∈ irows l, r.length = 1 := fun r hr => by obtain ⟨z, _, rfl⟩ := List.mem_map.1 hr; rfl
theorem hr_len (l : List Hnd) : (hrows l).length = l.length := List.length_map _
theorem c_dup_hnd (xs : List Hnd) (a : Option Addr) (c : Nat) (hl : xs.length ≤ 1000000) (H : Heap) (R : Facts) [hR : MemRows a 5 (hrows xs) R] :
    Fn Tryz.prog 90 [.slice a xs.length c] H R (fun v H' R' => ∃ o : OSl 33 5 (hrows xs), v = o.fs ∧ o.here ∧ H' = o.G ++ H ∧ R' = R) := by
 refine fn_of Tryz.func90 rfl Tryz.ntmps90 rfl ?_
 refine sy_seq ?_
 refine sy_tx' [0] rfl ?_
 refine sp rfl (PE.assign rfl) rfl ?_
 refine sy_seq ?_
 refine sy_tx' [0, 1, 2, 3, 4, 5] rfl ?_
 refine sp rfl (PE.move rfl) rfl ?_
 refine sp rfl (PE.lenSl isl26 rfl) rfl ?_
 refine mkO rfl ap26 zl33 rfl rfl ⟨by omega, by omega⟩ rfl (fun o ho => ?_)
 refine sp rfl (PE.move rfl) rfl ?_
 refine apOh (news := hrows xs) o rfl ap26 rfl rfl (rowsF) (by simp [hrows]) (by simp [onecells, hrows, hrow, Value.oneCell']) ⟨by simp [hrows]; omega, by simp [hrows]; omega⟩ rfl ho (fun o2 ho2 => ?_)
 refine sp rfl (PE.assign rfl) rfl ?_
 refine sy_ret ?_
 exact sy_return (vs := [_]) rfl (.cons (RV.tmp rfl) .nil) rfl ⟨o2.cast (by simp), rfl, ho2, rfl, rfl⟩ (fun _ h => h)
theorem c_dup_grd (xs : List Grd) (a : Option Addr) (c : Nat) (hl : xs.length ≤ 1000000) (H : Heap) (R : Facts) [hR : MemRows a 5 (grows xs) R] :
    Fn Tryz.prog 89 [.slice a xs.length c] H R (fun v H' R' => ∃ o : OSl 36 5 (grows xs), v = o.fs ∧ o.here ∧ H' = o.G ++ H ∧ R' = R) := by
 refine fn_of Tryz.func89 rfl Tryz.ntmps89 rfl ?_
 refine sy_seq ?_
 refine sy_tx' [0] rfl ?_
 refine sp rfl (PE.assign rfl) rfl ?_
 refine sy_seq ?_
 refine sy_tx' [0, 1, 2, 3, 4, 5] rfl ?_
 refine sp rfl (PE.move rfl) rfl ?_
 refine sp rfl (PE.lenSl isl23 rfl) rfl ?_
 refine mkO rfl ap23 zl36 rfl rfl ⟨by omega, by omega⟩ rfl (fun o ho => ?_)
 refine sp rfl (PE.move rfl) rfl ?_
 refine apOh (news := grows xs) o rfl ap23 rfl rfl (rowsF) (by simp [grows]) (by simp [onecells, grows, grow, Value.oneCell']) ⟨by simp [grows]; omega, by simp [grows]; omega⟩ rfl ho (fun o2 ho2 => ?_)
 refine sp rfl (PE.assign rfl) rfl ?_
 refine sy_ret ?_
 exact sy_return (vs := [_]) rfl (.cons (RV.tmp rfl) .nil) rfl ⟨o2.cast (by simp), rfl, ho2, rfl, rfl⟩ (fun _ h => h)
theorem c_Owned (c : Crt) (ah : Option Addr) (ch : Nat) (hl : c.hs.length ≤ 1000000) (H : Heap) (R : Facts) [hA : MemRows ah 5 (hrows c.hs) R] :
    Fn Tryz.prog 37 [c.v (c.sl ah ch)] H R (fun v H' R' => ∃ o : OSl 33 5 (hrows c.hs), v = c.v o.fs ∧ o.here ∧ H' = o.G ++ H ∧ R' = R) := by
 refine fn_of Tryz.func37 rfl Tryz.ntmps37 rfl ?_
 refine sy_seq ?_
 refine sy_tx' [0, 1] rfl ?_
 refine bx rfl rfl rfl (fun b1 => ?_)
 refine alc rfl zl28 rfl (fun b2 => ?_)
 refine sy_seq ?_
 refine sy_tx' [0, 1, 2, 3, 4] rfl ?_
 refine sp rfl (PE.fieldAddr fo28_2 rfl) rfl ?_
 refine spL rfl rfl (lh sc26 rfl rfl) rfl ?_
 refine cl rfl cal90 rfl rfl (c_dup_hnd c.hs ah ch hl _ _) ?_
 rintro _ _ R1 ⟨o, rfl, ho, rfl, hR1⟩
 obtain rfl := hR1.symm
 clear hR1
 refine sp rfl (PE.fieldAddr fo28_2 rfl) rfl ?_
 refine stoE (l' := ctl c o.fs) rfl rfl rfl cn26 rfl (by rw [o.cells.1]; first | done | rfl) (by rw [o.cells.1]; simp [o.cells.2]) (by rw [o.cells.1]; first | done | rfl) (by rw [o.cells.1]; first | done | exact Nat.le_refl _) ?_
 refine sy_seq ?_
 refine sy_tx' [0, 1] rfl ?_
 refine spL rfl rfl (lhA (ctl c o.fs) ag28 rfl rfl rfl) rfl ?_
 refine stoE (l' := ctl c o.fs) rfl rfl rfl cn28 rfl rfl (by show (ctl _ o.fs).all (·.oneCell') = true; simp only [ctl, List.all_cons, List.all_nil, o.cells.2, Bool.and_true]; rfl) rfl (Nat.le_refl _) ?_
 refine sy_ret ?_
 exact sy_return (vs := [_]) rfl (.cons (RV.cell rfl (lhA [_, _, _] ag28 rfl rfl rfl)) .nil) rfl ⟨o, rfl, ho, rfl, rfl⟩ (fun w h => (h.del b2).del b1)
theorem c_Own (g : Gat) (ag : Option Addr) (cg : Nat) (hl : g.grs.length ≤ 1000000) (H : Heap) (R : Facts) [hG : MemRows ag 5 (grows g.grs) R] :
    Fn Tryz.prog 36 [g.v (g.sl ag cg)] H R (fun v H' R' => ∃ o : OSl 36 5 (grows g.grs), v = g.v o.fs ∧ o.here ∧ H' = o.G ++ H ∧ R' = R) := by
 refine fn_of Tryz.func36 rfl Tryz.ntmps36 rfl ?_
 refine sy_seq ?_
 refine sy_tx' [0, 1] rfl ?_
 refine bx rfl rfl rfl (fun b1 => ?_)
 refine alc rfl zl25 rfl (fun b2 => ?_)
 refine sy_seq ?_
 refine sy_tx' [0, 1, 2, 3, 4] rfl ?_
 refine sp rfl (PE.fieldAddr fo25_2 rfl) rfl ?_
 refine spL rfl rfl (lh sc23 rfl rfl) rfl ?_
 refine cl rfl cal89 rfl rfl (c_dup_grd g.grs ag cg hl _ _) ?_
 rintro _ _ R1 ⟨o, rfl, ho, rfl, hR1⟩
 obtain rfl := hR1.symm
 clear hR1
 refine sp rfl (PE.fieldAddr fo25_2 rfl) rfl ?_
 refine stoE (l' := gtl g o.fs) rfl rfl rfl cn23 rfl (by rw [o.cells.1]; first | done | rfl) (by rw [o.cells.1]; simp [o.cells.2]) (by rw [o.cells.1]; first | done | rfl) (by rw [o.cells.1]; first | done | exact Nat.le_refl _) ?_
 refine sy_seq ?_
 refine sy_tx' [0, 1] rfl ?_
 refine spL rfl rfl (lhA (gtl g o.fs) ag25 rfl rfl rfl) rfl ?_
 refine stoE (l' := gtl g o.fs) rfl rfl rfl cn25 rfl rfl (by show (gtl _ o.fs).all (·.oneCell') = true; simp only [gtl, List.all_cons, List.all_nil, o.cells.2, Bool.and_true]; rfl) rfl (Nat.le_refl _) ?_
 refine sy_ret ?_
 exact sy_return (vs := [_]) rfl (.cons (RV.cell rfl (lhA [_, _, _] ag25 rfl rfl rfl)) .nil) rfl ⟨o, rfl, ho, rfl, rfl⟩ (fun w h => (h.del b2).del b1)
end Go.Proofs.YtndhkpnaeocnhaaGreat
namespace Go.Proofs.YtndhkpnaeocnhaaGreat
set_option linter.unusedSimpArgs false
set_option linter.unusedVariables false
open Go
theorem canR_len (g : Gat) (c : Crt) : (canR g c).length ≤ g.grs.length + 1 := by
  unfold canR
  cases decide (toldE g c false ≠ 0)
  · exact can_len _ _
  · simp
end Go.Proofs.YtndhkpnaeocnhaaGreat
namespace Go.Proofs.YtndhkpnaeocnhaaGreat
set_option linter.unusedSimpArgs false
set_option linter.unusedVariables false
open Go
theorem cal123 : cal Tryz.prog 123 = true := by kernel_rfl
theorem cal124 : cal Tryz.prog 124 = true := by kernel_rfl
theorem cal125 : cal Tryz.prog 125 = true := by kernel_rfl
theorem cal127 : cal Tryz.prog 127 = true := by kernel_rfl
theorem cal128 : cal Tryz.prog 128 = true := by kernel_rfl
theorem cal129 : cal Tryz.prog 129 = true := by kernel_rfl
theorem cal133 : cal Tryz.prog 133 = true := by kernel_rfl
theorem cal139 : cal Tryz.prog 139 = true := by kernel_rfl
theorem cal143 : cal Tryz.prog 143 = true := by kernel_rfl
theorem cal149 : cal Tryz.prog 149 = true := by kernel_rfl
theorem ik177 : intK Tryz.prog 177 = some .u64 := by kernel_rfl
theorem ik3 : intK Tryz.prog 3 = some .i64 := by kernel_rfl
theorem ik5 : intK Tryz.prog 5 = some .u8 := by kernel_rfl
theorem istr9 : isStr Tryz.prog 9 = true := by kernel_rfl
theorem us192 : (Tryz.prog.underlying 192).isSome = true := by kernel_rfl
theorem us3 : (Tryz.prog.underlying 3).isSome = true := by kernel_rfl
theorem us5 : (Tryz.prog.underlying 5).isSome = true := by kernel_rfl
structure InsI (l xs : List Int) (i j : Nat) : Prop where
  perm : xs.Perm l
  le : j ≤ i
  at_ : ∀ p q, p < q → q ≤ i → q ≠ j → nn xs p ≤ nn xs q
structure SrtI (l xs : List Int) (i : Nat) : Prop where
  perm : xs.Perm l
  at_ : ∀ p q, p < q → q < i → nn xs p ≤ nn xs q
theorem SrtI.start (l : List Int) : SrtI l l 1 := ⟨.refl _, fun p q h1 h2 => by omega⟩
theorem SrtI.ins {l xs : List Int} {i : Nat} (h : SrtI l xs i) : InsI l xs i i := ⟨h.perm, Nat.le_refl _, fun p q h1 h2 h3 => h.at_ p q h1 (by omega)⟩
theorem InsI.done {l xs : List Int} {i j : Nat} (h : InsI l xs i j) (hj : j = 0 ∨ nn xs (j - 1) ≤ nn xs j) : SrtI l xs (i + 1) := ⟨h.perm, fun p q h1 h2 => by
  by_cases hq : q = j
  · subst hq
    have h3 : nn xs (q - 1) ≤ nn xs q := hj.resolve_left (by omega)
    by_cases hp : p = q - 1
    · subst hp; exact h3
    · have := h.at_ p (q - 1) (by omega) (by omega) (by omega); omega
  · exact h.at_ p q h1 (by omega) hq⟩
theorem nn_at {xs : List Int} {k : Nat} (h : k < xs.length) : nn xs k = xs[k] := by unfold nn; rw [List.getD_eq_getElem?_getD, List.getElem?_eq_getElem h]; rfl
theorem InsI.swap {l xs : List Int} {i j : Nat} (h : InsI l xs i j) (hj : 0 < j) (hi : i < xs.length) (hlt : nn xs j < nn xs (j - 1)) : InsI l ((xs.set j (nn xs (j - 1))).set (j - 1) (nn xs j)) i (j - 1) := by
  have hle := h.le
  have hv : ∀ q, nn ((xs.set j (nn xs (j - 1))).set (j - 1) (nn xs j)) q = if q = j - 1 then nn xs j else if q = j then nn xs (j - 1) else nn xs q := fun q => by
    rw [nn_set (by rw [List.length_set]; omega), nn_set (by omega)]
    by_cases h1 : q = j - 1
    · subst h1; simp
    · have e1 : (j - 1 == q) = false := by simp; omega
      rw [e1, if_neg h1]
      by_cases h2 : q = j
      · subst h2; simp
      · have e2 : (j == q) = false := by simp; omega
        rw [e2, if_neg h2]; rfl
  refine ⟨?_, by omega, fun p q h1 h2 h3 => ?_⟩
  · have e := @List.set_set_perm Int xs j (j - 1) (by omega) (by omega)
    rw [nn_at (k := j - 1) (by omega), nn_at (k := j) (by omega)]
    exact e.trans h.perm
  · rw [hv p, hv q]
    have A := h.at_ p q h1 h2
    have B := h.at_ p (j - 1)
    have C := h.at_ j q
    have E := h.at_ (j - 1) q
    rw [if_neg h3]
    by_cases hq : q = j
    · rw [if_pos hq]
      split
      · omega
      · rw [if_neg (by omega)]; exact B (by omega) (by omega) (by omega)
    · rw [if_neg hq]
      split
      · exact C (by omega) h2 hq
      · split
        · exact E (by omega) h2 hq
        · exact A hq
theorem int_at {xs : List Int} {junk : List Value} {k : Nat} (h : k < xs.length) : (ints xs ++ junk)[0 + ((k : Nat) : Int).toNat * 1]? = some (.int .i64 (nn xs k)) := by
  rw [show 0 + ((k : Nat) : Int).toNat * 1 = k by omega, List.getElem?_append_left (by rw [ints_length]; exact h), nn_at h]
  simp [ints, h]
theorem int_at2 {xs : List Int} {junk : List Value} {q k : Nat} (h : q + k < xs.length) : (ints xs ++ junk)[0 + q * 1 + ((k : Nat) : Int).toNat * 1]? = some (.int .i64 (nn xs (q + k))) := by
  have := int_at (junk := junk) h
  rw [show 0 + q * 1 + ((k : Nat) : Int).toNat * 1 = 0 + ((q + k : Nat) : Int).toNat * 1 by omega]; exact this
theorem spl_int {xs : List Int} {junk : List Value} {k : Nat} (h : k < xs.length) (v : Int) : spl (ints xs ++ junk) (0 + ((k : Nat) : Int).toNat * 1) [.int .i64 v] = ints (xs.set k v) ++ junk := by
  rw [show 0 + ((k : Nat) : Int).toNat * 1 = k by omega]
  obtain ⟨A, y, B, rfl, rfl⟩ := cut_at h
  have h1 := spl_at (p := ints A) (q := [.int .i64 y]) (s := ints B ++ junk) (vs := [.int .i64 v]) rfl
  rw [show (ints A).length = A.length by simp [ints]] at h1
  rw [show ints (A ++ y :: B) ++ junk = ints A ++ ([.int .i64 y] ++ (ints B ++ junk)) by simp [ints], h1]
  simp [ints]
theorem pair_ne {xs : List Int} {k : Nat} (h : k + 1 < xs.length) (hn : xs.Nodup) : nn xs k ≠ nn xs (k + 1) := by
  rw [nn_at (k := k) (by omega), nn_at h]
  exact List.pairwise_iff_getElem.1 hn k (k + 1) (by omega) h (by omega)
theorem srt_nd {l xs : List Int} {n : Nat} (h : SrtI l xs n) (hn : xs.length ≤ n) (hd : ∀ p, p + 1 < xs.length → nn xs p ≠ nn xs (p + 1)) : l.Nodup := by
  refine h.perm.nodup_iff.1 (List.pairwise_iff_getElem.2 fun p q hp hq hpq e => ?_)
  rw [← nn_at hp, ← nn_at hq] at e
  have h1 := hd p (by omega)
  have h2 := h.at_ p (p + 1) (by omega) (by omega)
  by_cases h3 : q = p + 1
  · subst h3; exact h1 e
  · have h4 := h.at_ (p + 1) q (by omega) (by omega); omega
def agrE (g : Gat) (c : Crt) (l : List Int) : Int := bif decide (bothE g c ≠ 0) then bothE g c else bif !(l.all fun i => inb i 0 (c.hs.length - 1)) then 1 else bif !(decide l.Nodup) then 5 else 0
def agrR (g : Gat) (c : Crt) (l : List Int) : Bool := bif decide (agrE g c l ≠ 0) then false else agr g.miss c.hs (flt l)
theorem c_isNaN (x : Int) (H : Heap) (R : Facts) :
    FnV Tryz.prog 149 [.int .i64 x] H R (.bool false) := by
 refine fn_of Tryz.func149 rfl Tryz.ntmps149 rfl ?_
 refine sy_seq ?_
 refine sy_tx' [0] rfl ?_
 refine sp rfl (PE.assign rfl) rfl ?_
 refine sy_seq ?_
 refine sy_tx' [0, 1, 2, 3] rfl ?_
 refine sp rfl (PE.move rfl) rfl ?_
 refine sp rfl (PE.move rfl) rfl ?_
 refine sp rfl (PE.neq rfl rfl) rfl ?_
 refine sp rfl (PE.assign rfl) rfl ?_
 refine sy_ret ?_
 exact sy_return (vs := [_]) rfl (.cons (RV.tmp rfl) .nil) rfl ⟨by simp [retV], rfl, rfl⟩ drp
theorem c_Less (x y : Int) (H : Heap) (R : Facts) :
    FnV Tryz.prog 139 [.int .i64 x, .int .i64 y] H R (.bool (decide (x < y))) := by
 refine fn_of Tryz.func139 rfl Tryz.ntmps139 rfl ?_
 refine sy_seq ?_
 refine sy_tx' [0] rfl ?_
 refine sp rfl (PE.assign rfl) rfl ?_
 refine sy_seq ?_
 refine sy_tx' [0, 1, 2, 3, 4, 5, 6, 7, 8, 9, 10, 11, 12] rfl ?_
 refine sp rfl (PE.move rfl) rfl ?_
 refine clV rfl cal149 rfl rfl (c_isNaN x _ _) ?_
 refine sp rfl (PE.move rfl) rfl ?_
 repeat refine spN rfl rfl rfl rfl rfl rfl rfl rfl ?_
 refine sp rfl (PE.pick rfl rfl rfl) rfl ?_
 refine sp rfl (PE.move rfl) rfl ?_
 refine spG rfl rfl rfl rfl (PE.move rfl) rfl ?_
 refine spG rfl rfl rfl rfl (PE.move rfl) rfl ?_
 refine spG rfl rfl rfl rfl (PE.lss rfl rfl) rfl ?_
 refine sp rfl (PE.pick rfl rfl rfl) rfl ?_
 refine sp rfl (PE.assign rfl) rfl ?_
 refine sy_ret ?_
 exact sy_return (vs := [_]) rfl (.cons (RV.tmp rfl) .nil) rfl ⟨rfl, rfl, rfl⟩ drp
theorem c_insB (l : List Int) (b cap : Nat) (junk : List Value) (hl : l.length ≤ 12) (H : Heap) (R : Facts) :
    Fn Tryz.prog 133 [.slice (some ⟨b, 0, none⟩) l.length cap, .int .i64 0, .int .i64 l.length] ((b, cel 3 (ints l ++ junk)) :: H) R (fun v H' R' => ∃ ys, SrtI l ys l.length ∧ v = .tuple #[] ∧ H' = (b, cel 3 (ints ys ++ junk)) :: H ∧ R' = R) := by
 refine fn_of Tryz.func133 rfl Tryz.ntmps133 rfl ?_
 refine sy_seq ?_
 refine sy_tx' [0, 1, 2] rfl ?_
 refine sp rfl (PE.move rfl) rfl ?_
 refine sp rfl (PE.add rfl rfl (by omega)) rfl ?_
 refine sp rfl (PE.assign rfl) rfl ?_
 refine sy_block ?_
 refine sy_loop (ι := {x : Nat × List Int // 1 ≤ x.1 ∧ x.1 ≤ 13 ∧ SrtI l x.2 x.1}) (fun x => ⟨[(0, .slice (some ⟨b, 0, none⟩) l.length cap), (1, .int .i64 0), (2, .int .i64 l.length), (6, .int .i64 x.1.1)], (b, cel 3 (ints x.1.2 ++ junk)) :: H, R⟩) (fun x => l.length - x.1.1) ⟨(1, l), by omega, by omega, SrtI.start l⟩ ?_ (fun x => ?_)
 exact sy_at (by repeat' first | exact Sub.nil | apply Sub.cons | rfl | (simp [lk]; omega)) (fun _ h => h)
 ·
  obtain ⟨⟨i, xs⟩, hi1, hi2, hs⟩ := x
  dsimp only at hi1 hi2 hs ⊢
  have hxl := hs.perm.length_eq
  refine sy_seq ?_
  refine sy_seq ?_
  refine sy_tx' [0, 1, 2] rfl ?_
  refine sp rfl (PE.move rfl) rfl ?_
  refine sp rfl (PE.move rfl) rfl ?_
  refine sp rfl (PE.lss rfl rfl) rfl ?_
  refine sy_cond rfl (fun hc0 => ?_) (fun hc0 => ?_)
  ·
   try simp only [decide_eq_true_eq, decide_eq_false_iff_not, Bool.and_eq_true, Bool.or_eq_true, Bool.not_eq_true', Int.not_le, Int.not_lt] at hc0
   refine sy_skip ?_
   refine sy_seq ?_
   refine sy_block ?_
   refine sy_seq ?_
   refine sy_tx' [0, 1] rfl ?_
   refine sp rfl (PE.move rfl) rfl ?_
   refine sp rfl (PE.assign rfl) rfl ?_
   refine sy_block ?_
   refine sy_loop (ι := {x : Nat × List Int // InsI l x.2 i x.1}) (fun x => ⟨[(0, .slice (some ⟨b, 0, none⟩) l.length cap), (1, .int .i64 0), (2, .int .i64 l.length), (6, .int .i64 i), (7, .int .i64 x.1.1)], (b, cel 3 (ints x.1.2 ++ junk)) :: H, R⟩) (fun x => x.1.1) ⟨(i, xs), hs.ins⟩ ?_ (fun x => ?_)
   exact sy_at (by repeat' first | exact Sub.nil | apply Sub.cons | rfl | (simp [lk]; omega)) (fun _ h => h)
   ·
    obtain ⟨⟨j, ys⟩, hy⟩ := x
    dsimp only at hy ⊢
    have hyl := hy.perm.length_eq
    have hyj := hy.le
    refine sy_seq ?_
    refine sy_seq ?_
    refine sy_draw [0, 0, 3, 7, 15, 15, 63, 127, 15, 15, 527, 1807, 3855, 8191, 16383] (.tk 0 (.tk 1 (.tk 2 (.tk 3 (.tk 4 (.tk 5 (.tk 6 (.ld 7 (.tk 8 (.tk 9 (.tk 10 (.tk 11 (.ld 12 (.big 13 (.tk 14 .done))))))))))))))) mixed (by kernel_rfl) ?_
    refine tk rfl (PE.move rfl) rfl ?_
    refine tk rfl (PE.move rfl) rfl ?_
    refine tk rfl (PE.gtr rfl rfl) rfl ?_
    refine tk rfl (PE.move rfl) rfl ?_
    refine sy_case (t := 19) rfl (fun g19 => ?_) (fun g19 => ?_)
    ·
     try simp only [decide_eq_true_eq, decide_eq_false_iff_not, Bool.and_eq_true, Bool.or_eq_true, Bool.not_eq_true', Int.not_le, Int.not_lt] at g19
     refine tkG rfl rfl rfl rfl (PE.move rfl) rfl ?_
     refine tkG rfl rfl rfl rfl (PE.move rfl) rfl ?_
     refine tkG rfl rfl rfl rfl (PE.indexAddr el22 rfl rfl (by omega) (by omega)) rfl ?_
     refine ldG rfl rfl rfl rfl rfl (lh sc3 rfl (int_at (by omega))) rfl ?_
     refine tkG rfl rfl rfl rfl (PE.move rfl) rfl ?_
     refine tkG rfl rfl rfl rfl (PE.move rfl) rfl ?_
     refine tkG rfl rfl rfl rfl (PE.sub rfl rfl (by omega)) rfl ?_
     rw [show (j : Int) - 1 = ((j - 1 : Nat) : Int) from by omega]
     refine tkG rfl rfl rfl rfl (PE.indexAddr el22 rfl rfl (by omega) (by omega)) rfl ?_
     refine ldG rfl rfl rfl rfl rfl (lh sc3 rfl (int_at (by omega))) rfl ?_
     refine clVG rfl rfl rfl rfl cal139 rfl rfl (c_Less _ _ _ _) ?_
     refine bg (fun w hs => ⟨trivial, trivial, trivial⟩) ?_
     refine tk rfl (PE.pick rfl rfl rfl) rfl ?_
     refine sy_cond rfl (fun hc1 => ?_) (fun hc1 => ?_)
     ·
      try simp only [decide_eq_true_eq, decide_eq_false_iff_not, Bool.and_eq_true, Bool.or_eq_true, Bool.not_eq_true', Int.not_le, Int.not_lt] at hc1
      refine sy_skip ?_
      refine sy_seq ?_
      refine sy_block ?_
      refine sy_draw [0, 0, 0, 0, 8, 0, 0, 64, 224, 480, 0, 0, 3072, 7168, 16355, 32739, 65535, 131071] (.tk 0 (.tk 1 (.tk 2 (.tk 3 (.tk 4 (.tk 5 (.tk 6 (.tk 7 (.tk 8 (.ld 9 (.tk 10 (.tk 11 (.tk 12 (.ld 13 (.tk 14 (.big 15 (.tk 16 (.big 17 .done)))))))))))))))))) mixed (by kernel_rfl) ?_
      refine tk rfl (PE.move rfl) rfl ?_
      refine tk rfl (PE.move rfl) rfl ?_
      refine tk rfl (PE.move rfl) rfl ?_
      refine tk rfl (PE.move rfl) rfl ?_
      refine tk rfl (PE.sub rfl rfl (by omega)) rfl ?_
      refine tk rfl (PE.move rfl) rfl ?_
      refine tk rfl (PE.move rfl) rfl ?_
      refine tk rfl (PE.sub rfl rfl (by omega)) rfl ?_
      rw [show (j : Int) - 1 = ((j - 1 : Nat) : Int) from by omega]
      refine tk rfl (PE.indexAddr el22 rfl rfl (by omega) (by omega)) rfl ?_
      refine ld rfl rfl (lh sc3 rfl (int_at (by omega))) rfl ?_
      refine tk rfl (PE.move rfl) rfl ?_
      refine tk rfl (PE.move rfl) rfl ?_
      refine tk rfl (PE.indexAddr el22 rfl rfl (by omega) (by omega)) rfl ?_
      refine ld rfl rfl (lh sc3 rfl (int_at (by omega))) rfl ?_
      refine tk rfl (PE.indexAddr el22 rfl rfl (by omega) (by omega)) rfl ?_
      refine stoE (l' := ints ((ys).set j (nn ys (j - 1))) ++ junk) rfl rfl rfl cn3 rfl rfl rfl (spl_int (show j < ys.length by omega) _) (by rw [List.length_append, ints_length]; show 0 + ((j : Nat) : Int).toNat * 1 + 1 ≤ _; have := (show j < ys.length by omega); omega) ?_
      refine bg (fun w hs => ⟨trivial, trivial, trivial⟩) ?_
      refine tk rfl (PE.indexAddr el22 rfl rfl (by omega) (by omega)) rfl ?_
      refine stoE (l' := ints ((ys.set j (nn ys (j - 1))).set (j - 1) (nn ys j)) ++ junk) rfl rfl rfl cn3 rfl rfl rfl (spl_int (show j - 1 < (ys.set j (nn ys (j - 1))).length by rw [List.length_set]; omega) _) (by rw [List.length_append, ints_length]; show 0 + (((j - 1) : Nat) : Int).toNat * 1 + 1 ≤ _; have := (show j - 1 < (ys.set j (nn ys (j - 1))).length by rw [List.length_set]; omega); omega) ?_
      refine bg (fun w hs => trivial) ?_
      refine sy_tx' [0, 1, 2] rfl ?_
      refine sp rfl (PE.move rfl) rfl ?_
      refine sp rfl (PE.sub rfl rfl (by omega)) rfl ?_
      refine sp rfl (PE.assign rfl) rfl ?_
      rw [show (j : Int) - 1 = ((j - 1 : Nat) : Int) from by omega]
      exact sy_next ⟨(j - 1, (ys.set j (nn ys (j - 1))).set (j - 1) (nn ys j)), hy.swap (by omega) (by omega) (by omega)⟩ (by dsimp only; omega) (by repeat' first | exact Sub.nil | apply Sub.cons | rfl | (simp [lk]; omega)) (fun _ h => h)
     try simp only [decide_eq_true_eq, decide_eq_false_iff_not, Bool.and_eq_true, Bool.or_eq_true, Bool.not_eq_true', Int.not_le, Int.not_lt] at hc1
     have hfd := hy.done (.inr (by omega))
     refine sy_exit ?_
     repeat refine sy_tx ?_
     refine sy_bx ?_
     refine sy_tx' [0, 1, 2] rfl ?_
     refine sp rfl (PE.move rfl) rfl ?_
     refine sp rfl (PE.add rfl rfl (by omega)) rfl ?_
     refine sp rfl (PE.assign rfl) rfl ?_
     exact sy_next ⟨(i + 1, ys), by omega, by omega, hfd⟩ (by dsimp only; omega) (by repeat' first | exact Sub.nil | apply Sub.cons | rfl | (simp [lk]; omega)) (fun _ h => h)
    try simp only [decide_eq_true_eq, decide_eq_false_iff_not, Bool.and_eq_true, Bool.or_eq_true, Bool.not_eq_true', Int.not_le, Int.not_lt] at g19
    have hfd := hy.done (.inl (by omega))
    repeat refine tkN rfl rfl rfl rfl rfl rfl rfl rfl ?_
    refine ldN rfl rfl rfl rfl rfl rfl rfl rfl ?_
    repeat refine tkN rfl rfl rfl rfl rfl rfl rfl rfl ?_
    refine ldN rfl rfl rfl rfl rfl rfl rfl rfl ?_
    refine spN rfl rfl rfl rfl rfl rfl rfl rfl ?_
    refine bg (fun w hs => ⟨trivial, trivial, trivial⟩) ?_
    refine tk rfl (PE.pick rfl rfl rfl) rfl ?_
    refine sy_condF rfl ?_
    refine sy_exit ?_
    repeat refine sy_tx ?_
    refine sy_bx ?_
    refine sy_tx' [0, 1, 2] rfl ?_
    refine sp rfl (PE.move rfl) rfl ?_
    refine sp rfl (PE.add rfl rfl (by omega)) rfl ?_
    refine sp rfl (PE.assign rfl) rfl ?_
    exact sy_next ⟨(i + 1, ys), by omega, by omega, hfd⟩ (by dsimp only; omega) (by repeat' first | exact Sub.nil | apply Sub.cons | rfl | (simp [lk]; omega)) (fun _ h => h)
  try simp only [decide_eq_true_eq, decide_eq_false_iff_not, Bool.and_eq_true, Bool.or_eq_true, Bool.not_eq_true', Int.not_le, Int.not_lt] at hc0
  have hfin : SrtI l xs l.length := ⟨hs.perm, fun p q h1 h2 => hs.at_ p q h1 (by omega)⟩
  refine sy_exit ?_
  repeat refine sy_tx ?_
  refine sy_bx ?_
  exact sy_fall (vs := []) rfl .nil rfl ⟨xs, hfin, rfl, rfl, rfl⟩ (fun _ h => h)
theorem c_insN (H : Heap) (R : Facts) :
    FnV Tryz.prog 133 [.slice none 0 0, .int .i64 0, .int .i64 (([] : List Int).length : Nat)] H R (.tuple #[]) := by
 refine fn_of Tryz.func133 rfl Tryz.ntmps133 rfl ?_
 refine sy_seq ?_
 refine sy_tx' [0, 1, 2] rfl ?_
 refine sp rfl (PE.move rfl) rfl ?_
 refine sp rfl (PE.add rfl rfl (by omega)) rfl ?_
 refine sp rfl (PE.assign rfl) rfl ?_
 refine sy_block ?_
 refine sy_loop (ι := Unit) (fun _ => ⟨[(2, .int .i64 (([] : List Int).length : Nat)), (6, .int .i64 1)], H, R⟩) (fun x => 0) () ?_ (fun x => ?_)
 exact sy_at (by repeat' first | exact Sub.nil | apply Sub.cons | rfl | (simp [lk]; omega)) (fun _ h => h)
 refine sy_seq ?_
 refine sy_seq ?_
 refine sy_tx' [0, 1, 2] rfl ?_
 refine sp rfl (PE.move rfl) rfl ?_
 refine sp rfl (PE.move rfl) rfl ?_
 refine sp rfl (PE.lss rfl rfl) rfl ?_
 refine sy_cond rfl (fun hc0 => ?_) (fun hc0 => ?_)
 exact absurd hc0 (by simp)
 refine sy_exit ?_
 repeat refine sy_tx ?_
 refine sy_bx ?_
 exact sy_fall (vs := []) rfl .nil rfl ⟨rfl, rfl, rfl⟩ (fun _ h => h)
theorem c_ins (l : List Int) (o : OSl 3 1 (irows l)) (hl : l.length ≤ 12) (H : Heap) (R : Facts) : Fn Tryz.prog 133 [o.fs, .int .i64 0, .int .i64 l.length] (o.G ++ H) R (fun v H' R' => ∃ ys, ∃ o' : OSl 3 1 (irows ys), SrtI l ys l.length ∧ o'.fs = o.fs ∧ v = .tuple #[] ∧ H' = o'.G ++ H ∧ R' = R) := by
  have hir : (irows l).length = l.length := List.length_map _
  rcases o.is with ⟨h1, h2, h3⟩ | ⟨b, cap, junk, h2, h3, hj, hc, hm⟩
  · have hx : l = [] := List.map_eq_nil_iff.1 h1
    subst hx
    rw [h2, h3]
    exact Fn.mono (c_insN H R) (by rintro v H' R' ⟨rfl, rfl, rfl⟩; exact ⟨[], OSl.nil _ _, ⟨.refl _, fun p q h4 h5 => by simp at h5⟩, rfl, rfl, rfl, rfl⟩)
  · rw [hir] at h2 hj hc
    rw [h2, h3, irows_flat']
    exact Fn.mono (c_insB l b cap junk hl H R) (by
      rintro v H' R' ⟨ys, hs, rfl, rfl, rfl⟩
      have hyl := hs.perm.length_eq
      have hyi : (irows ys).length = l.length := by rw [List.length_map, hyl]
      exact ⟨ys, ⟨.slice (some ⟨b, 0, none⟩) (irows ys).length cap, [(b, cel 3 ((irows ys).flatten ++ junk))], ir_len _, .inr ⟨b, cap, junk, rfl, rfl, by rw [hyi]; exact hj, by rw [hyi]; exact hc, hm⟩⟩, hs, congrArg (fun q => Value.slice (some ⟨b, 0, none⟩) q cap) hyi, rfl, congrArg (fun q => (b, cel 3 (q ++ junk)) :: H) (irows_flat' ys).symm, rfl⟩)
theorem c_pdq (l : List Int) (o : OSl 3 1 (irows l)) (hl : l.length ≤ 12) (z : Int) (H : Heap) (R : Facts) :
    Fn Tryz.prog 128 [o.fs, .int .i64 0, .int .i64 l.length, .int .i64 z] (o.G ++ H) R (fun v H' R' => ∃ ys, ∃ o' : OSl 3 1 (irows ys), SrtI l ys l.length ∧ o'.fs = o.fs ∧ v = .tuple #[] ∧ H' = o'.G ++ H ∧ R' = R) := by
 refine fn_of Tryz.func128 rfl Tryz.ntmps128 rfl ?_
 refine sy_seq ?_
 refine sy_tx' [0] rfl ?_
 refine sp rfl (PE.assign rfl) rfl ?_
 refine sy_seq ?_
 refine sy_tx' [0] rfl ?_
 refine sp rfl (PE.assign rfl) rfl ?_
 refine sy_block ?_
 refine sy_loop (ι := Unit) (fun _ => ⟨[(0, o.fs), (1, .int .i64 0), (2, .int .i64 l.length)], o.G ++ H, R⟩) (fun x => 0) () ?_ (fun x => ?_)
 exact sy_at (by repeat' first | exact Sub.nil | apply Sub.cons | rfl | (simp [lk]; omega)) (fun _ h => h)
 refine sy_block ?_
 refine sy_seq ?_
 refine sy_tx' [0, 1, 2, 3] rfl ?_
 refine sp rfl (PE.move rfl) rfl ?_
 refine sp rfl (PE.move rfl) rfl ?_
 refine sp rfl (PE.sub rfl rfl (by omega)) rfl ?_
 refine sp rfl (PE.assign rfl) rfl ?_
 refine sy_seq ?_
 refine sy_seq ?_
 refine sy_tx' [0, 1] rfl ?_
 refine sp rfl (PE.move rfl) rfl ?_
 refine sp rfl (PE.leq rfl rfl) rfl ?_
 refine sy_cond rfl (fun hc0 => ?_) (fun hc0 => ?_)
 refine sy_seq ?_
 refine sy_tx' [0, 1, 2, 3] rfl ?_
 refine sp rfl (PE.move rfl) rfl ?_
 refine sp rfl (PE.move rfl) rfl ?_
 refine sp rfl (PE.move rfl) rfl ?_
 refine cl rfl cal133 rfl rfl (c_ins l o hl _ _) ?_
 rintro _ _ R1 ⟨ys, o', hs, hof, rfl, rfl, hR1⟩
 obtain rfl := hR1.symm
 clear hR1
 refine sy_ret ?_
 exact sy_return (vs := []) rfl .nil rfl ⟨ys, o', hs, hof, rfl, rfl, rfl⟩ (fun _ h => h)
 simp only [decide_eq_false_iff_not] at hc0
 omega
theorem c_Len64 (k : Nat) (hk : k ≤ 12) (H : Heap) (R : Facts) :
    Fn Tryz.prog 143 [.int .u64 k] H R (fun v H' R' => ∃ z : Int, v = .int .i64 z ∧ H' = H ∧ R' = R) := by
 refine fn_of Tryz.func143 rfl Tryz.ntmps143 rfl ?_
 refine sy_seq ?_
 refine sy_tx' [0] rfl ?_
 refine sp rfl (PE.assign rfl) rfl ?_
 refine sy_seq ?_
 refine sy_seq ?_
 refine sy_tx' [0, 1] rfl ?_
 refine sp rfl (PE.move rfl) rfl ?_
 refine sp rfl (PE.geq rfl rfl) rfl ?_
 refine sy_cond rfl (fun hc0 => ?_) (fun hc0 => ?_)
 simp only [decide_eq_true_eq] at hc0
 omega
 refine sy_skip ?_
 refine sy_seq ?_
 refine sy_seq ?_
 refine sy_tx' [0, 1] rfl ?_
 refine sp rfl (PE.move rfl) rfl ?_
 refine sp rfl (PE.geq rfl rfl) rfl ?_
 refine sy_cond rfl (fun hc1 => ?_) (fun hc1 => ?_)
 simp only [decide_eq_true_eq] at hc1
 omega
 refine sy_skip ?_
 refine sy_seq ?_
 refine sy_seq ?_
 refine sy_tx' [0, 1] rfl ?_
 refine sp rfl (PE.move rfl) rfl ?_
 refine sp rfl (PE.geq rfl rfl) rfl ?_
 refine sy_cond rfl (fun hc2 => ?_) (fun hc2 => ?_)
 simp only [decide_eq_true_eq] at hc2
 omega
 refine sy_skip ?_
 refine sy_seq ?_
 refine sy_tx' [0, 1, 2, 3, 4, 5, 6] rfl ?_
 refine sp rfl (PE.move rfl) rfl ?_
 refine sp rfl (PE.move rfl) rfl ?_
 refine sp rfl ((PE.convert us192 ik5 rfl).to (by rw [wrap_u8_id (by omega) (by omega)])) rfl ?_
 refine spE rfl (PE.indexS (m := 256) istr9 rfl rfl (by kernel_rfl) (by omega)) rfl ?_
 rintro _ ⟨u22, rfl, hu22⟩
 refine sp rfl (PE.conv64 us5 ik3 rfl (by omega)) rfl ?_
 refine sp rfl (PE.add rfl rfl (by omega)) rfl ?_
 refine sp rfl (PE.assign rfl) rfl ?_
 refine sy_ret ?_
 exact sy_return (vs := [_]) rfl (.cons (RV.tmp rfl) .nil) rfl ⟨_, rfl, rfl, rfl⟩ (fun _ h => h)
theorem c_Len (k : Nat) (hk : k ≤ 12) (H : Heap) (R : Facts) :
    Fn Tryz.prog 129 [.int .u64 k] H R (fun v H' R' => ∃ z : Int, v = .int .i64 z ∧ H' = H ∧ R' = R) := by
 refine fn_of Tryz.func129 rfl Tryz.ntmps129 rfl ?_
 refine sy_seq ?_
 refine sy_tx' [0] rfl ?_
 refine sp rfl (PE.assign rfl) rfl ?_
 refine sy_seq ?_
 refine sy_condF rfl ?_
 refine sy_skip ?_
 refine sy_seq ?_
 refine sy_tx' [0, 1, 2] rfl ?_
 refine sp rfl (PE.move rfl) rfl ?_
 refine cl rfl cal143 rfl rfl (c_Len64 k hk _ _) ?_
 rintro _ _ R1 ⟨z, rfl, rfl, hR1⟩
 obtain rfl := hR1.symm
 clear hR1
 refine sp rfl (PE.assign rfl) rfl ?_
 refine sy_ret ?_
 exact sy_return (vs := [_]) rfl (.cons (RV.tmp rfl) .nil) rfl ⟨_, rfl, rfl, rfl⟩ (fun _ h => h)
theorem c_Sort (l : List Int) (o : OSl 3 1 (irows l)) (hl : l.length ≤ 12) (H : Heap) (R : Facts) :
    Fn Tryz.prog 124 [o.fs] (o.G ++ H) R (fun v H' R' => ∃ ys, ∃ o' : OSl 3 1 (irows ys), SrtI l ys l.length ∧ o'.fs = o.fs ∧ v = .tuple #[] ∧ H' = o'.G ++ H ∧ R' = R) := by
 obtain ⟨a, c, he, hcc, _⟩ := o.freezeC
 rw [show (irows l).length = l.length from List.length_map _] at he hcc
 refine fn_of Tryz.func124 rfl Tryz.ntmps124 rfl ?_
 refine sy_seq ?_
 refine sy_tx' [0, 1, 2] rfl ?_
 refine sp rfl (PE.move rfl) rfl ?_
 refine sp rfl (PE.lenSl isl22 (congrArg some he)) rfl ?_
 refine sp rfl (PE.assign rfl) rfl ?_
 refine sy_tx' [0, 1, 2, 3, 4, 5] rfl ?_
 refine sp rfl (PE.move rfl) rfl ?_
 refine sp rfl (PE.move rfl) rfl ?_
 refine sp rfl (PE.move rfl) rfl ?_
 refine sp rfl ((PE.convert us3 ik177 rfl).to (by rw [wrap_u64_id (by omega) (by omega)])) rfl ?_
 refine cl rfl cal129 rfl rfl (c_Len l.length hl _ _) ?_
 rintro _ _ R1 ⟨z, rfl, rfl, hR1⟩
 obtain rfl := hR1.symm
 clear hR1
 refine cl rfl cal128 rfl rfl (c_pdq l o hl z _ _) ?_
 rintro _ _ R1 ⟨ys, o', hs, hof, rfl, rfl, hR1⟩
 obtain rfl := hR1.symm
 clear hR1
 exact sy_fall (vs := []) rfl .nil rfl ⟨ys, o', hs, hof, rfl, rfl, rfl⟩ (fun _ h => h)
theorem c_Values (xs : List Int) (a : Option Addr) (c : Nat) (H : Heap) (R : Facts) :
    Fn Tryz.prog 108 [.slice a xs.length c] H R (fun v H' R' => ∃ b1, v = .func (.func 125) #[] #[.pointer (some ⟨b1, 0, none⟩)] ∧ H' = (b1, cel 22 [.slice a xs.length c]) :: H ∧ R' = R) := by
 refine fn_of Tryz.func108 rfl Tryz.ntmps108 rfl ?_
 refine sy_seq ?_
 refine sy_tx' [0, 1] rfl ?_
 refine bx rfl rfl rfl (fun b1 => ?_)
 refine sp rfl (PE.assign rfl) rfl ?_
 refine sy_seq ?_
 refine sy_tx' [0, 1] rfl ?_
 refine sp rfl (PE.makeFunc rfl rfl) rfl ?_
 refine sp rfl (PE.assign rfl) rfl ?_
 refine sy_ret ?_
 exact sy_return (vs := [_]) rfl (.cons (RV.tmp rfl) .nil) rfl ⟨b1, rfl, rfl, rfl⟩ (fun _ h => h)
theorem c_vals1 (xs : List Int) (a : Option Addr) (c b1 bl0 : Nat) (hl : xs.length ≤ 9223372036854775807) (I : Nat → Heap → Prop) (T0 : Heap) (h0 : I 0 T0) (R : Facts) [hR : MemRows a 1 (irows xs) R] (hy : ∀ k x T1, xs[k]? = some x → I k T1 → Yd Tryz.prog bl0 [.int .i64 x] ((b1, cel 22 [.slice a xs.length c]) :: T1) R (fun v H' R' => v = .bool true ∧ (∃ T', I (k + 1) T' ∧ H' = (b1, cel 22 [.slice a xs.length c]) :: T') ∧ R' = R)) :
    Fn Tryz.prog 125 [yv bl0, .pointer (some ⟨b1, 0, none⟩)] ((b1, cel 22 [.slice a xs.length c]) :: T0) R (fun v H' R' => ∃ T', I xs.length T' ∧ v = .tuple #[] ∧ H' = (b1, cel 22 [.slice a xs.length c]) :: T' ∧ R' = R) := by
 refine fn_of Tryz.func125 rfl Tryz.ntmps125 rfl ?_
 refine sy_seq ?_
 refine sy_tx' [0, 1, 2] rfl ?_
 refine spL rfl rfl (lh sc22 rfl rfl) rfl ?_
 refine sp rfl (PE.lenSl isl22 rfl) rfl ?_
 refine sp rfl (PE.move rfl) rfl ?_
 refine sy_block ?_
 refine sy_loop (ι := {x : Nat × Heap // x.1 ≤ xs.length ∧ I x.1 x.2}) (fun x => ⟨[(0, yv bl0), (5, .slice a xs.length c), (6, .int .i64 xs.length), (7, .int .i64 x.1.1)], (b1, cel 22 [.slice a xs.length c]) :: x.1.2, R⟩) (fun x => xs.length - x.1.1) ⟨(0, T0), by omega, h0⟩ ?_ (fun x => ?_)
 exact sy_at (by repeat' first | exact Sub.nil | apply Sub.cons | rfl | (simp [lk]; omega)) (fun _ h => h)
 obtain ⟨⟨k, T1⟩, hk, hI⟩ := x
 dsimp only at hk hI ⊢
 refine sy_seq ?_
 refine sy_tx' [0] rfl ?_
 refine sp rfl (PE.lss rfl rfl) rfl ?_
 refine sy_seq ?_
 refine sy_cond rfl (fun hc0 => ?_) (fun hc0 => ?_)
 try simp only [decide_eq_true_eq, decide_eq_false_iff_not, Bool.and_eq_true, Bool.or_eq_true, Bool.not_eq_true', Int.not_le, Int.not_lt] at hc0
 obtain ⟨x, hx⟩ : ∃ x, xs[k]? = some x := ⟨_, List.getElem?_eq_getElem (by omega)⟩
 refine sy_addr (a := a) (sz := 1) (rows := irows xs) (by intro h0; simp [irows] at h0; simp [h0] at hx) (fun ba oa he => ?_)
 subst he
 refine sy_skip ?_
 refine sy_seq ?_
 refine sy_block ?_
 refine sy_seq ?_
 refine sy_tx' [0, 1, 2] rfl ?_
 refine sp rfl (PE.indexAddr el22 rfl rfl (by omega) (by omega)) rfl ?_
 refine spL rfl rfl (lf0 (x := .int .i64 x) sc3 (by simp [irows, hx]; rfl) rfl) rfl ?_
 refine sp rfl (PE.assign rfl) rfl ?_
 refine sy_seq ?_
 refine sy_tx' [0, 1, 2, 3] rfl ?_
 refine sp rfl (PE.move rfl) rfl ?_
 refine sp rfl (PE.move rfl) rfl ?_
 refine clY rfl rfl rfl rfl (hy k x T1 hx hI) ?_
 rintro _ _ _ ⟨rfl, ⟨T2, hI2, rfl⟩, rfl⟩
 refine sp rfl (PE.not rfl) rfl ?_
 refine sy_condF rfl ?_
 refine sy_skip ?_
 refine sy_tx' [0, 1] rfl ?_
 refine sp rfl (PE.add rfl rfl (by omega)) rfl ?_
 refine sp rfl (PE.move rfl) rfl ?_
 exact sy_next ⟨(k + 1, T2), by omega, hI2⟩ (by dsimp only; omega) (by repeat' first | exact Sub.nil | apply Sub.cons | rfl | (simp [lk]; omega)) (fun _ h => h)
 try simp only [decide_eq_true_eq, decide_eq_false_iff_not, Bool.and_eq_true, Bool.or_eq_true, Bool.not_eq_true', Int.not_le, Int.not_lt] at hc0
 obtain rfl : k = xs.length := by omega
 refine sy_exit ?_
 repeat refine sy_tx ?_
 refine sy_bx ?_
 exact sy_fall (vs := []) rfl .nil rfl ⟨T1, hI, rfl, rfl, rfl⟩ (fun _ h => h)
theorem c_AppSeq (xs : List Int) (a : Option Addr) (c b1 : Nat) (hl : xs.length ≤ 1000000) (H : Heap) (R : Facts) [hR : MemRows a 1 (irows xs) R] :
    Fn Tryz.prog 127 [.slice none 0 0, .func (.func 125) #[] #[.pointer (some ⟨b1, 0, none⟩)]] ((b1, cel 22 [.slice a xs.length c]) :: H) R (fun v H' R' => ∃ o : OSl 3 1 (irows xs), v = o.fs ∧ H' = o.G ++ H ∧ R' = R) := by
 refine fnM_of Tryz.func127 rfl Tryz.ntmps127 rfl ?_
 refine sy_seq ?_
 refine sy_tx' [0, 1] rfl ?_
 refine bx rfl rfl rfl (fun b2 => ?_)
 refine sp rfl (PE.assign rfl) rfl ?_
 refine sy_seq ?_
 refine sy_seq ?_
 refine sy_tx' [0] rfl ?_
 refine sp rfl (PE.move rfl) rfl ?_
 refine sy_block ?_
 refine sy_range rfl cal125 (fun c0 bl0 bd0 hcp0 hca0 hcb0 hck0 => ?_)
 refine ⟨fun st pend T1 R' => R' = R ∧ pend = none ∧ ∃ o : OSl 3 1 (irows xs), T1 = (bd0, .deferred (some [])) :: (b1, cel 22 [.slice a xs.length c]) :: (o.G ++ ((b2, cel 22 [o.fs]) :: H)),
   Fn.mono (Fn.heapP (H' := (b1, cel 22 [.slice a xs.length c]) :: ((bl0, lob c0 .ready none) :: (bd0, .deferred (some [])) :: (b2, cel 22 [.slice none 0 0]) :: H)) (List.perm_middle (l₁ := [(bl0, lob c0 .ready none), (bd0, .deferred (some [])), (b2, cel 22 [.slice none 0 0])]) (a := (b1, cel 22 [.slice a xs.length c])))
     (c_vals1 xs a c b1 bl0 (by omega) (fun k T1 => ∃ o : OSl 3 1 (irows (xs.take k)), T1 = (bl0, lob c0 .ready none) :: (bd0, .deferred (some [])) :: (o.G ++ ((b2, cel 22 [o.fs]) :: H))) _ ⟨OSl.nil _ _, rfl⟩ _ (fun k x T1 hx hI => ?_))) (fun v H' R' h => ?_), ?_⟩
 rotate_left
 · obtain ⟨T', ⟨o, rfl⟩, _, rfl, rfl⟩ := h
   exact ⟨.ready, none, (bd0, .deferred (some [])) :: (b1, cel 22 [.slice a xs.length c]) :: (o.G ++ ((b2, cel 22 [o.fs]) :: H)), by simp, (List.Perm.swap _ _ _).trans (List.Perm.cons _ (.swap _ _ _)), rfl, rfl, o.cast (by rw [List.take_length]), rfl⟩
 rotate_left
 obtain ⟨o, rfl⟩ := hI
 refine yd_of hcp0 hca0 hcb0 hck0 rfl ?_
 refine sy_tx' [0] rfl ?_
 refine sp rfl (PE.assign rfl) rfl ?_
 refine sy_beginRound ?_
 refine sy_block ?_
 refine sy_tx' [0, 1, 2, 3, 4] rfl ?_
 refine spL rfl rfl (lh sc22 rfl rfl) rfl ?_
 refine sp rfl (PE.move rfl) rfl ?_
 refine bsl (out := [_]) rfl sl22 zl3 rfl rfl rfl rfl rfl rfl (fun b10 => ?_)
 refine apO (o) rfl ap22 rfl rfl (rowsH (row := [.int .i64 x]) rfl) rfl rfl ((by simp only [irows, List.length_map, List.length_singleton, List.length_take]; omega)) rfl (fun o11 => ?_)
 refine stoE (l' := [o11.fs]) rfl rfl rfl cn22 rfl (by rw [o11.cells.1]; first | done | rfl) (by rw [o11.cells.1]; simp [o11.cells.2]) (by rw [o11.cells.1]; first | done | rfl) (by rw [o11.cells.1]; first | done | exact Nat.le_refl _) ?_
 exact sy_roundOn ⟨rfl, ⟨_, ⟨o11.cast (by rw [List.take_add_one, hx]; simp [irows, List.map_take]), rfl⟩, rfl⟩, rfl⟩ (fun w h => ((h.del b10).pull b1))
 rintro _ _ _ _ ⟨rfl, rfl, o, rfl⟩
 refine sy_jn ?_
 refine sy_seq ?_
 refine sy_tx' [0, 1] rfl ?_
 refine spL rfl rfl (lh sc22 rfl rfl) rfl ?_
 refine sp rfl (PE.assign rfl) rfl ?_
 refine sy_ret ?_
 exact sy_returnM [bd0] (fun _ h => h) rfl (.cons (RV.tmp rfl) .nil) rfl ⟨o, rfl, rfl, rfl⟩ (fun w h => (h.del b1).del b2)
theorem c_Collect (xs : List Int) (a : Option Addr) (c b1 : Nat) (hl : xs.length ≤ 1000000) (H : Heap) (R : Facts) [hR : MemRows a 1 (irows xs) R] :
    Fn Tryz.prog 123 [.func (.func 125) #[] #[.pointer (some ⟨b1, 0, none⟩)]] ((b1, cel 22 [.slice a xs.length c]) :: H) R (fun v H' R' => ∃ o : OSl 3 1 (irows xs), v = o.fs ∧ H' = o.G ++ H ∧ R' = R) := by
 refine fn_of Tryz.func123 rfl Tryz.ntmps123 rfl ?_
 refine sy_seq ?_
 refine sy_tx' [0] rfl ?_
 refine sp rfl (PE.assign rfl) rfl ?_
 refine sy_seq ?_
 refine sy_tx' [0, 1, 2] rfl ?_
 refine sp rfl (PE.move rfl) rfl ?_
 refine cl rfl cal127 rfl rfl (c_AppSeq xs a c b1 hl _ _) ?_
 rintro _ _ R1 ⟨o, rfl, rfl, hR1⟩
 obtain rfl := hR1.symm
 clear hR1
 refine sp rfl (PE.assign rfl) rfl ?_
 refine sy_ret ?_
 exact sy_return (vs := [_]) rfl (.cons (RV.tmp rfl) .nil) rfl ⟨o, rfl, rfl, rfl⟩ (fun _ h => h)
theorem c_Sorted (xs : List Int) (a : Option Addr) (c b1 : Nat) (hl : xs.length ≤ 12) (H : Heap) (R : Facts) [hR : MemRows a 1 (irows xs) R] :
    Fn Tryz.prog 107 [.func (.func 125) #[] #[.pointer (some ⟨b1, 0, none⟩)]] ((b1, cel 22 [.slice a xs.length c]) :: H) R (fun v H' R' => ∃ ys, ∃ o : OSl 3 1 (irows ys), SrtI xs ys xs.length ∧ v = o.fs ∧ H' = o.G ++ H ∧ R' = R) := by
 refine fn_of Tryz.func107 rfl Tryz.ntmps107 rfl ?_
 refine sy_seq ?_
 refine sy_tx' [0] rfl ?_
 refine sp rfl (PE.assign rfl) rfl ?_
 refine sy_seq ?_
 refine sy_tx' [0, 1, 2] rfl ?_
 refine sp rfl (PE.move rfl) rfl ?_
 refine cl rfl cal123 rfl rfl (c_Collect xs a c b1 (by omega) _ _) ?_
 rintro _ _ R1 ⟨o, rfl, rfl, hR1⟩
 obtain rfl := hR1.symm
 clear hR1
 refine sp rfl (PE.assign rfl) rfl ?_
 refine sy_seq ?_
 refine sy_tx' [0, 1] rfl ?_
 refine sp rfl (PE.move rfl) rfl ?_
 refine cl rfl cal124 rfl rfl (c_Sort xs o hl _ _) ?_
 rintro _ _ R1 ⟨ys, o', hs, hof, rfl, rfl, hR1⟩
 obtain rfl := hR1.symm
 clear hR1
 rw [← hof]
 refine sy_seq ?_
 refine sy_tx' [0, 1] rfl ?_
 refine sp rfl (PE.move rfl) rfl ?_
 refine sp rfl (PE.assign rfl) rfl ?_
 refine sy_ret ?_
 exact sy_return (vs := [_]) rfl (.cons (RV.tmp rfl) .nil) rfl ⟨ys, o', hs, rfl, rfl, rfl⟩ (fun _ h => h)
theorem c_Compact (l : List Int) (o : OSl 3 1 (irows l)) (hl : l.length ≤ 1000) (H : Heap) (R : Facts) :
    Fn Tryz.prog 109 [o.fs] (o.G ++ H) R (fun v H' R' => ∃ a m c', v = .slice a m c' ∧ ((m = l.length ∧ ∀ p, p + 1 < l.length → nn l p ≠ nn l (p + 1)) ∨ (m < l.length ∧ ∃ p, p + 1 < l.length ∧ nn l p = nn l (p + 1))) ∧ H' = H ∧ R' = R) := by
 obtain ⟨a, c, he, hcc, _⟩ := o.freezeC
 rw [show (irows l).length = l.length from List.length_map _] at he hcc
 refine fn_of Tryz.func109 rfl Tryz.ntmps109 rfl ?_
 refine sy_seq ?_
 refine sy_tx' [0] rfl ?_
 refine sp rfl (PE.assign rfl) rfl ?_
 refine sy_seq ?_
 refine sy_seq ?_
 refine sy_tx' [0, 1, 2] rfl ?_
 refine sp rfl (PE.move rfl) rfl ?_
 refine sp rfl (PE.lenSl isl22 (congrArg some he)) rfl ?_
 refine sp rfl (PE.lss rfl rfl) rfl ?_
 refine sy_cond rfl (fun hc0 => ?_) (fun hc0 => ?_)
 try simp only [decide_eq_true_eq, decide_eq_false_iff_not, Bool.and_eq_true, Bool.or_eq_true, Bool.not_eq_true', Int.not_le, Int.not_lt] at hc0
 rw [he]
 refine sy_seq ?_
 refine sy_tx' [0, 1] rfl ?_
 refine sp rfl (PE.move rfl) rfl ?_
 refine sp rfl (PE.assign rfl) rfl ?_
 refine sy_ret ?_
 exact sy_return (vs := [_]) rfl (.cons (RV.tmp rfl) .nil) rfl ⟨a, l.length, c, rfl, .inl ⟨rfl, fun p hp => by omega⟩, rfl, rfl⟩ (fun w h => St.drop h)
 try simp only [decide_eq_true_eq, decide_eq_false_iff_not, Bool.and_eq_true, Bool.or_eq_true, Bool.not_eq_true', Int.not_le, Int.not_lt] at hc0
 have hir : (irows l).length = l.length := List.length_map _
 obtain ⟨b, cap, junk, hfs, hG, hj, hcap, hmx⟩ := o.is.resolve_left (fun h => by rw [h.1] at hir; simp at hir; omega)
 rw [hir] at hfs hcap hj
 rw [hfs, hG, irows_flat']
 refine Sy.heap (H' := (b, cel 3 (ints l ++ junk)) :: H) (fun w h => h) ?_
 clear he
 refine sy_skip ?_
 refine sy_seq ?_
 refine sy_seq ?_
 refine sy_tx' [0] rfl ?_
 refine sp rfl (PE.assign rfl) rfl ?_
 refine sy_block ?_
 refine sy_loop (ι := {k : Nat // 1 ≤ k ∧ k ≤ l.length ∧ ∀ p, p + 1 < k → nn l p ≠ nn l (p + 1)}) (fun k => ⟨[(0, .slice (some ⟨b, 0, none⟩) l.length cap), (3, .int .i64 k.1)], (b, cel 3 (ints l ++ junk)) :: H, R⟩) (fun k => l.length - k.1) ⟨1, by omega, by omega, fun p hp => by omega⟩ ?_ (fun k => ?_)
 exact sy_at (by repeat' first | exact Sub.nil | apply Sub.cons | rfl | (simp [lk]; omega)) (fun _ h => h)
 obtain ⟨k, hk1, hk2, hne⟩ := k
 dsimp only at hk1 hk2 hne ⊢
 refine sy_seq ?_
 refine sy_seq ?_
 refine sy_tx' [0, 1, 2, 3] rfl ?_
 refine sp rfl (PE.move rfl) rfl ?_
 refine sp rfl (PE.move rfl) rfl ?_
 refine sp rfl (PE.lenSl isl22 rfl) rfl ?_
 refine sp rfl (PE.lss rfl rfl) rfl ?_
 refine sy_cond rfl (fun hc1 => ?_) (fun hc1 => ?_)
 try simp only [decide_eq_true_eq, decide_eq_false_iff_not, Bool.and_eq_true, Bool.or_eq_true, Bool.not_eq_true', Int.not_le, Int.not_lt] at hc1
 refine sy_skip ?_
 refine sy_seq ?_
 refine sy_block ?_
 refine sy_seq ?_
 refine sy_draw [0, 0, 3, 7, 0, 0, 32, 112, 240, 511] (.tk 0 (.tk 1 (.tk 2 (.ld 3 (.tk 4 (.tk 5 (.tk 6 (.tk 7 (.ld 8 (.tk 9 .done)))))))))) mixed (by kernel_rfl) ?_
 refine tk rfl (PE.move rfl) rfl ?_
 refine tk rfl (PE.move rfl) rfl ?_
 refine tk rfl (PE.indexAddr el22 rfl rfl (by omega) (by omega)) rfl ?_
 refine ld rfl rfl (lh sc3 rfl (int_at (by omega))) rfl ?_
 refine tk rfl (PE.move rfl) rfl ?_
 refine tk rfl (PE.move rfl) rfl ?_
 refine tk rfl (PE.sub rfl rfl (by omega)) rfl ?_
 rw [show (k : Int) - 1 = ((k - 1 : Nat) : Int) from by omega]
 refine tk rfl (PE.indexAddr el22 rfl rfl (by omega) (by omega)) rfl ?_
 refine ld rfl rfl (lh sc3 rfl (int_at (by omega))) rfl ?_
 refine tk rfl (PE.eql rfl rfl) rfl ?_
 refine sy_cond rfl (fun hc2 => ?_) (fun hc2 => ?_)
 try simp only [decide_eq_true_eq, decide_eq_false_iff_not, Bool.and_eq_true, Bool.or_eq_true, Bool.not_eq_true', Int.not_le, Int.not_lt] at hc2
 refine sy_seq ?_
 refine sy_tx' [0, 1, 2, 3] rfl ?_
 refine sp rfl (PE.move rfl) rfl ?_
 refine sp rfl (PE.move rfl) rfl ?_
 refine sp rfl (PE.slLo sl22 rfl rfl (by omega) (by omega)) rfl ?_
 refine sp rfl (PE.assign rfl) rfl ?_
 refine sy_seq ?_
 refine sy_seq ?_
 refine sy_tx' [0] rfl ?_
 refine sp rfl (PE.assign rfl) rfl ?_
 refine sy_block ?_
 refine sy_loop (ι := {x : Nat × Nat × List Int // k ≤ x.1 ∧ x.1 + 1 ≤ k + x.2.1 ∧ 1 ≤ x.2.1 ∧ x.2.1 ≤ l.length - k ∧ x.2.2.length = l.length}) (fun x => ⟨[(0, .slice (some ⟨b, 0, none⟩) l.length cap), (3, .int .i64 x.1.1), (4, .slice (some ⟨b, 0 + k * 1, none⟩) (l.length - k) (cap - k)), (5, .int .i64 x.1.2.1)], (b, cel 3 (ints x.1.2.2 ++ junk)) :: H, R⟩) (fun x => l.length - x.1.2.1) ⟨(k, 1, l), by dsimp only; omega, by dsimp only; omega, by dsimp only; omega, by dsimp only; omega, rfl⟩ ?_ (fun x => ?_)
 exact sy_at (by repeat' first | exact Sub.nil | apply Sub.cons | rfl | (simp [lk]; omega)) (fun _ h => h)
 obtain ⟨⟨m, q, ys⟩, hm1, hm2, hq1, hq2, hyl⟩ := x
 dsimp only at hm1 hm2 hq1 hq2 hyl ⊢
 refine sy_seq ?_
 refine sy_seq ?_
 refine sy_tx' [0, 1, 2, 3] rfl ?_
 refine sp rfl (PE.move rfl) rfl ?_
 refine sp rfl (PE.move rfl) rfl ?_
 refine sp rfl (PE.lenSl isl22 rfl) rfl ?_
 refine sp rfl (PE.lss rfl rfl) rfl ?_
 refine sy_cond rfl (fun hc3 => ?_) (fun hc3 => ?_)
 try simp only [decide_eq_true_eq, decide_eq_false_iff_not, Bool.and_eq_true, Bool.or_eq_true, Bool.not_eq_true', Int.not_le, Int.not_lt] at hc3
 refine sy_skip ?_
 refine sy_seq ?_
 refine sy_block ?_
 refine sy_seq ?_
 refine sy_draw [0, 0, 3, 7, 0, 0, 32, 112, 240, 511] (.tk 0 (.tk 1 (.tk 2 (.ld 3 (.tk 4 (.tk 5 (.tk 6 (.tk 7 (.ld 8 (.tk 9 .done)))))))))) mixed (by kernel_rfl) ?_
 refine tk rfl (PE.move rfl) rfl ?_
 refine tk rfl (PE.move rfl) rfl ?_
 refine tk rfl (PE.indexAddr el22 rfl rfl (by omega) (by omega)) rfl ?_
 refine ld rfl rfl (lh sc3 rfl (int_at2 (by omega))) rfl ?_
 refine tk rfl (PE.move rfl) rfl ?_
 refine tk rfl (PE.move rfl) rfl ?_
 refine tk rfl (PE.sub rfl rfl (by omega)) rfl ?_
 rw [show (q : Int) - 1 = ((q - 1 : Nat) : Int) from by omega]
 refine tk rfl (PE.indexAddr el22 rfl rfl (by omega) (by omega)) rfl ?_
 refine ld rfl rfl (lh sc3 rfl (int_at2 (by omega))) rfl ?_
 refine tk rfl (PE.neq rfl rfl) rfl ?_
 refine sy_cond rfl (fun hc4 => ?_) (fun hc4 => ?_)
 try simp only [decide_eq_true_eq, decide_eq_false_iff_not, Bool.and_eq_true, Bool.or_eq_true, Bool.not_eq_true', Int.not_le, Int.not_lt] at hc4
 refine sy_seq ?_
 refine sy_tx' [0, 1, 2, 3, 4, 5, 6, 7] rfl ?_
 refine sp rfl (PE.move rfl) rfl ?_
 refine sp rfl (PE.move rfl) rfl ?_
 refine sp rfl (PE.move rfl) rfl ?_
 refine sp rfl (PE.move rfl) rfl ?_
 refine sp rfl (PE.indexAddr el22 rfl rfl (by omega) (by omega)) rfl ?_
 refine spL rfl rfl (lh sc3 rfl (int_at2 (by omega))) rfl ?_
 refine sp rfl (PE.indexAddr el22 rfl rfl (by omega) (by omega)) rfl ?_
 refine stoE (l' := ints ((ys).set m (nn ys (k + q))) ++ junk) rfl rfl rfl cn3 rfl rfl rfl (spl_int (show m < ys.length by omega) _) (by rw [List.length_append, ints_length]; show 0 + ((m : Nat) : Int).toNat * 1 + 1 ≤ _; have := (show m < ys.length by omega); omega) ?_
 refine sy_tx' [0, 1, 2] rfl ?_
 refine sp rfl (PE.move rfl) rfl ?_
 refine sp rfl (PE.add rfl rfl (by omega)) rfl ?_
 refine sp rfl (PE.assign rfl) rfl ?_
 refine sy_tx' [0, 1, 2] rfl ?_
 refine sp rfl (PE.move rfl) rfl ?_
 refine sp rfl (PE.add rfl rfl (by omega)) rfl ?_
 refine sp rfl (PE.assign rfl) rfl ?_
 exact sy_next ⟨(m + 1, q + 1, ys.set m (nn ys (k + q))), by dsimp only; omega, by dsimp only; omega, by dsimp only; omega, by dsimp only; omega, by rw [List.length_set]; exact hyl⟩ (by dsimp only; omega) (by repeat' first | exact Sub.nil | apply Sub.cons | rfl | (simp [lk]; omega)) (fun _ h => h)
 try simp only [decide_eq_true_eq, decide_eq_false_iff_not, Bool.and_eq_true, Bool.or_eq_true, Bool.not_eq_true', Int.not_le, Int.not_lt] at hc4
 refine sy_skip ?_
 refine sy_tx' [0, 1, 2] rfl ?_
 refine sp rfl (PE.move rfl) rfl ?_
 refine sp rfl (PE.add rfl rfl (by omega)) rfl ?_
 refine sp rfl (PE.assign rfl) rfl ?_
 exact sy_next ⟨(m, q + 1, ys), by dsimp only; omega, by dsimp only; omega, by dsimp only; omega, by dsimp only; omega, hyl⟩ (by dsimp only; omega) (by repeat' first | exact Sub.nil | apply Sub.cons | rfl | (simp [lk]; omega)) (fun _ h => h)
 try simp only [decide_eq_true_eq, decide_eq_false_iff_not, Bool.and_eq_true, Bool.or_eq_true, Bool.not_eq_true', Int.not_le, Int.not_lt] at hc3
 refine sy_exit ?_
 repeat refine sy_tx ?_
 refine sy_bx ?_
 refine sy_seq ?_
 refine sy_tx' [0, 1, 2, 3] rfl ?_
 refine sp rfl (PE.move rfl) rfl ?_
 refine sp rfl (PE.move rfl) rfl ?_
 refine sp rfl (PE.slLo sl22 rfl rfl (by omega) (by omega)) rfl ?_
 refine clrA rfl rfl sl22 zl3 rfl rfl rfl (by rw [List.length_append, ints_length]; omega) ?_
 refine sy_seq ?_
 refine sy_tx' [0, 1, 2, 3] rfl ?_
 refine sp rfl (PE.move rfl) rfl ?_
 refine sp rfl (PE.move rfl) rfl ?_
 refine sp rfl (PE.slHi sl22 rfl rfl (by omega)) rfl ?_
 refine sp rfl (PE.assign rfl) rfl ?_
 refine sy_ret ?_
 first
   | exact sy_return (vs := [_]) rfl (.cons (RV.tmp rfl) .nil) rfl ⟨_, m, cap, rfl, .inr ⟨by omega, k - 1, by omega, by rw [show k - 1 + 1 = k from by omega]; exact hc2.symm⟩, rfl, rfl⟩ (fun w h => h.del b)
   | exact sy_return (vs := [_]) rfl (.cons (RV.tmp rfl) .nil) rfl ⟨_, l.length, cap, rfl, .inl ⟨rfl, hne⟩, rfl, rfl⟩ (fun w h => h.del b)
 try simp only [decide_eq_true_eq, decide_eq_false_iff_not, Bool.and_eq_true, Bool.or_eq_true, Bool.not_eq_true', Int.not_le, Int.not_lt] at hc2
 refine sy_skip ?_
 refine sy_tx' [0, 1, 2] rfl ?_
 refine sp rfl (PE.move rfl) rfl ?_
 refine sp rfl (PE.add rfl rfl (by omega)) rfl ?_
 refine sp rfl (PE.assign rfl) rfl ?_
 exact sy_next ⟨k + 1, by omega, by omega, fun p hp => by rcases Nat.lt_or_ge (p + 1) k with h1 | h1; exact hne p h1; obtain rfl : p + 1 = k := (by omega); simp only [Nat.add_sub_cancel] at hc2; exact fun e => hc2 e.symm⟩ (by dsimp only; omega) (by repeat' first | exact Sub.nil | apply Sub.cons | rfl | (simp [lk]; omega)) (fun _ h => h)
 try simp only [decide_eq_true_eq, decide_eq_false_iff_not, Bool.and_eq_true, Bool.or_eq_true, Bool.not_eq_true', Int.not_le, Int.not_lt] at hc1
 obtain rfl : k = l.length := by omega
 refine sy_exit ?_
 repeat refine sy_tx ?_
 refine sy_bx ?_
 refine sy_seq ?_
 refine sy_tx' [0, 1] rfl ?_
 refine sp rfl (PE.move rfl) rfl ?_
 refine sp rfl (PE.assign rfl) rfl ?_
 refine sy_ret ?_
 first
   | exact sy_return (vs := [_]) rfl (.cons (RV.tmp rfl) .nil) rfl ⟨_, m, cap, rfl, .inr ⟨by omega, k - 1, by omega, by rw [show k - 1 + 1 = k from by omega]; exact hc2.symm⟩, rfl, rfl⟩ (fun w h => h.del b)
   | exact sy_return (vs := [_]) rfl (.cons (RV.tmp rfl) .nil) rfl ⟨_, l.length, cap, rfl, .inl ⟨rfl, hne⟩, rfl, rfl⟩ (fun w h => h.del b)
end Go.Proofs.YtndhkpnaeocnhaaGreat
namespace Go.Proofs.YtndhkpnaeocnhaaGreat
set_option linter.unusedSimpArgs false
set_option linter.unusedVariables false
open Go
theorem cal107 : cal Tryz.prog 107 = true := by kernel_rfl
theorem cal108 : cal Tryz.prog 108 = true := by kernel_rfl
theorem cal109 : cal Tryz.prog 109 = true := by kernel_rfl
theorem cal98 : cal Tryz.prog 98 = true := by kernel_rfl
def letE (g : Gat) (c : Crt) (n k : Int) : Int := bif decide (bothE g c ≠ 0) then bothE g c else bif !(inb n 0 ((c.hs.length : Int) - 1)) || !(inb k 0 3) then 1 else match c.hs[n.toNat]? with
  | some h => bif decide ((letS g.miss h k.toNat).2 < (letS g.miss h k.toNat).1) then 6 else 0
  | none => 1
def letP (g : Gat) (c : Crt) (n k : Int) : Int × Int := bif decide (letE g c n k ≠ 0) then (0, 0) else match c.hs[n.toNat]? with
  | some h => letS g.miss h k.toNat
  | none => (0, 0)
theorem letP_no {g : Gat} {c : Crt} {n k e : Int} (h : letE g c n k = e) (h0 : e ≠ 0) : letP g c n k = (0, 0) := by
  unfold letP; rw [h, decide_eq_true h0]; rfl
theorem letE_bad {g : Gat} {c : Crt} {n k : Int} (h0 : bothE g c = 0) (h : inb n 0 ((c.hs.length : Int) - 1) = false ∨ inb k 0 3 = false) : letE g c n k = 1 := by
  unfold letE
  rw [decide_eq_false (by omega)]
  rcases h with h | h <;> rw [h] <;> simp
theorem letE_at {g : Gat} {c : Crt} {i k : Nat} {h : Hnd} (h0 : bothE g c = 0) (hh : c.hs[i]? = some h) (hk : k < 4) : letE g c i k = bif decide ((letS g.miss h k).2 < (letS g.miss h k).1) then 6 else 0 := by
  have hi := (List.getElem?_eq_some_iff.1 hh).1
  unfold letE
  rw [decide_eq_false (by omega), show inb (i : Int) 0 ((c.hs.length : Int) - 1) = true by simp [inb]; omega, show inb (k : Int) 0 3 = true by simp [inb]; omega]
  simp only [Bool.not_true, Bool.or_self, cond_false, Int.toNat_natCast, hh]
theorem letP_at {g : Gat} {c : Crt} {i k : Nat} {h : Hnd} (h0 : bothE g c = 0) (hh : c.hs[i]? = some h) (hk : k < 4) (hl : (letS g.miss h k).1 ≤ (letS g.miss h k).2) : letP g c i k = letS g.miss h k := by
  unfold letP
  rw [letE_at h0 hh hk, decide_eq_false (show ¬ (letS g.miss h k).2 < (letS g.miss h k).1 by omega)]
  simp only [cond_false, ne_eq, not_true_eq_false, decide_false, Int.toNat_natCast, hh]
theorem agrE_0 {g : Gat} {c : Crt} {l : List Int} (h0 : bothE g c = 0) (h1 : (l.all fun i => inb i 0 ((c.hs.length : Int) - 1)) = true) (h2 : l.Nodup) : agrE g c l = 0 := by
  unfold agrE
  rw [decide_eq_false (by omega), h1, decide_eq_true h2]; rfl
theorem agrR_no {g : Gat} {c : Crt} {l : List Int} {e : Int} (h : agrE g c l = e) (h0 : e ≠ 0) : agrR g c l = false := by
  unfold agrR; rw [h, decide_eq_true h0]; rfl
theorem agrR_0 {g : Gat} {c : Crt} {l : List Int} (h : agrE g c l = 0) : agrR g c l = agr g.miss c.hs (flt l) := by
  unfold agrR; rw [h]; rfl
theorem c_hasHnd (g : Gat) (hg : g.ok) (ag : Option Addr) (cg : Nat) (c : Crt) (hc : c.ok) (ah : Option Addr) (ch : Nat) (bw : Nat) (n : Int) (H : Heap) (R : Facts) [hW : MemRows (some ⟨bw, 0, none⟩) 6 [wrow g c (g.sl ag cg) (c.sl ah ch)] R] [hG : MemRows ag 5 (grows g.grs) R] [hA : MemRows ah 5 (hrows c.hs) R] :
    FnV Tryz.prog 98 [.pointer (some ⟨bw, 0, none⟩), .int .i64 n] H R (.bool (inb n 0 ((c.hs.length : Int) - 1))) := by
 refine fn_of Tryz.func98 rfl Tryz.ntmps98 rfl ?_
 refine sy_seq ?_
 refine sy_tx' [0] rfl ?_
 refine sp rfl (PE.assign rfl) rfl ?_
 refine sy_seq ?_
 refine sy_tx' [0, 1, 2, 3, 4, 5, 6, 7, 8, 9] rfl ?_
 refine sp rfl (PE.move rfl) rfl ?_
 refine sp rfl (PE.move rfl) rfl ?_
 refine sp rfl (PE.nilCheck rfl) rfl ?_
 refine sp rfl (PE.fieldAddr fo148_0 rfl) rfl ?_
 refine sp rfl (PE.fieldAddr fo28_2 rfl) rfl ?_
 refine spL rfl rfl (lfB (sz := 6) sc26 rfl) rfl ?_
 refine sp rfl (PE.lenSl isl26 rfl) rfl ?_
 refine sp rfl (PE.sub rfl rfl (by have := hc.many; omega)) rfl ?_
 refine clV rfl cal14 rfl rfl (c_in _ _ _ _ _) ?_
 refine sp rfl (PE.assign rfl) rfl ?_
 refine sy_ret ?_
 exact sy_return (vs := [_]) rfl (.cons (RV.tmp rfl) .nil) rfl ⟨rfl, rfl, rfl⟩ drp
theorem c_Lets (g : Gat) (ag : Option Addr) (cg : Nat) (hlg : g.grs.length ≤ 9223372036854775807) (c : Crt) (ah : Option Addr) (ch : Nat) (hlh : c.hs.length ≤ 9223372036854775807) (n k : Int) (H : Heap) (R : Facts) [hG : MemRows ag 5 (grows g.grs) R] [hA : MemRows ah 5 (hrows c.hs) R] :
    FnV Tryz.prog 54 [g.v (g.sl ag cg), c.v (c.sl ah ch), .int .i64 n, .int .i64 k] H R (.tuple #[spv (letP g c n k).1 (letP g c n k).2, .int .i64 (letE g c n k)]) := by
 refine fn_of Tryz.func54 rfl Tryz.ntmps54 rfl ?_
 refine sy_seq ?_
 refine sy_tx' [0, 1, 2, 3] rfl ?_
 refine bx rfl rfl rfl (fun b4 => ?_)
 refine bx rfl rfl rfl (fun b5 => ?_)
 refine alc rfl zl61 rfl (fun b8 => ?_)
 refine sp rfl (PE.assign rfl) rfl ?_
 refine sy_seq ?_
 refine sy_tx' [0, 1, 2, 3, 4, 5, 6, 7] rfl ?_
 refine spL rfl rfl (lhA [_, _, _] ag25 rfl rfl rfl) rfl ?_
 refine spL rfl rfl (lhA [_, _, _] ag28 rfl rfl rfl) rfl ?_
 refine cl rfl cal78 rfl rfl (c_opened g ag cg hlg c ah ch hlh _ _) ?_
 rintro _ _ _ ⟨rfl, ho⟩
 rcases ho with ⟨hne, rfl, rfl⟩ | ⟨hg, hc, h0, bw, rfl, rfl⟩
 refine sp rfl (PE.move rfl) rfl ?_
 refine sp rfl (PE.extract rfl rfl) rfl ?_
 refine sp rfl (PE.extract rfl rfl) rfl ?_
 refine sp rfl (PE.assign rfl) rfl ?_
 refine sp rfl (PE.assign rfl) rfl ?_
 refine sy_seq ?_
 refine sy_seq ?_
 refine sy_tx' [0, 1] rfl ?_
 refine sp rfl (PE.move rfl) rfl ?_
 refine sp rfl (PE.neq rfl rfl) rfl ?_
 refine sy_cond rfl (fun hc0 => ?_) (fun hc0 => ?_)
 have he2 : letE g c n k = bothE g c := by unfold letE; rw [decide_eq_true hne]; rfl
 have he1 := letP_no he2 hne
 refine sy_seq ?_
 refine sy_tx' [0, 1, 2, 3] rfl ?_
 refine sp rfl (PE.build (out := [_, _]) pl61 zl61 rfl rfl) rfl ?_
 refine sp rfl (PE.move rfl) rfl ?_
 refine sto rfl rfl rfl cn61 rfl rfl rfl rfl ?_
 refine sp rfl (PE.assign rfl) rfl ?_
 refine sy_ret ?_
 exact sy_return (vs := [_, _]) rfl (.cons (RV.cell rfl (lhA [_, _] ag61 rfl rfl rfl)) (.cons (RV.tmp rfl) .nil)) (by rw [he1, he2]; rfl) ⟨rfl, rfl, rfl⟩ drp
 exact absurd hc0 (by simp [hne])
 refine sp rfl (PE.move rfl) rfl ?_
 refine sp rfl (PE.extract rfl rfl) rfl ?_
 refine sp rfl (PE.extract rfl rfl) rfl ?_
 refine sp rfl (PE.assign rfl) rfl ?_
 refine sp rfl (PE.assign rfl) rfl ?_
 refine sy_seq ?_
 refine sy_seq ?_
 refine sy_tx' [0, 1] rfl ?_
 refine sp rfl (PE.move rfl) rfl ?_
 refine sp rfl (PE.neq rfl rfl) rfl ?_
 refine sy_cond rfl (fun hc0 => ?_) (fun hc0 => ?_)
 exact absurd hc0 (by simp)
 have hmany := hc.many
 refine sy_skip ?_
 refine sy_seq ?_
 refine sy_tx' [0, 1, 2] rfl ?_
 refine sp rfl (PE.move rfl) rfl ?_
 refine sp rfl (PE.makeFunc rfl rfl) rfl ?_
 refine sp rfl (PE.assign rfl) rfl ?_
 refine sy_seq ?_
 refine sy_seq ?_
 refine sy_tx' [0, 1, 2, 3, 4, 5, 6, 7, 8] rfl ?_
 refine sp rfl (PE.move rfl) rfl ?_
 refine sp rfl (PE.move rfl) rfl ?_
 refine clFV rfl rfl (cal98) rfl rfl (c_hasHnd g hg ag cg c hc ah ch bw n _ _) ?_
 refine sp rfl (PE.not rfl) rfl ?_
 refine sp rfl (PE.move rfl) rfl ?_
 refine sy_case (t := 30) rfl (fun g30 => ?_) (fun g30 => ?_)
 have hin : inb n 0 ((c.hs.length : Int) - 1) = false := by rw [← Bool.not_eq_true']; exact g30
 have he2 := letE_bad (k := k) h0 (.inl hin)
 have he1 := letP_no he2 (by decide)
 repeat refine spN rfl rfl rfl rfl rfl rfl rfl rfl ?_
 refine sp rfl (PE.pick rfl rfl rfl) rfl ?_
 refine sy_condT rfl ?_
 refine sy_seq ?_
 refine sy_tx' [0, 1, 2] rfl ?_
 refine sp rfl (PE.build (out := [_, _]) pl61 zl61 rfl rfl) rfl ?_
 refine sto rfl rfl rfl cn61 rfl rfl rfl rfl ?_
 refine sp rfl (PE.assign rfl) rfl ?_
 refine sy_ret ?_
 exact sy_return (vs := [_, _]) rfl (.cons (RV.cell rfl (lhA [_, _] ag61 rfl rfl rfl)) (.cons (RV.tmp rfl) .nil)) (by rw [he1, he2]; rfl) ⟨rfl, rfl, rfl⟩ drp
 have hin : inb n 0 ((c.hs.length : Int) - 1) = true := by rw [← Bool.not_eq_false']; exact g30
 refine spG rfl rfl rfl rfl (PE.move rfl) rfl ?_
 refine clVG rfl rfl rfl rfl cal14 rfl rfl (c_in _ _ _ _ _) ?_
 refine spG rfl rfl rfl rfl (PE.not rfl) rfl ?_
 refine sp rfl (PE.pick rfl rfl rfl) rfl ?_
 refine sy_cond rfl (fun hc1 => ?_) (fun hc1 => ?_)
 have hik : inb k 0 3 = false := by rw [← Bool.not_eq_true']; exact hc1
 have he2 := letE_bad (n := n) h0 (.inr hik)
 have he1 := letP_no he2 (by decide)
 refine sy_seq ?_
 refine sy_tx' [0, 1, 2] rfl ?_
 refine sp rfl (PE.build (out := [_, _]) pl61 zl61 rfl rfl) rfl ?_
 refine sto rfl rfl rfl cn61 rfl rfl rfl rfl ?_
 refine sp rfl (PE.assign rfl) rfl ?_
 refine sy_ret ?_
 exact sy_return (vs := [_, _]) rfl (.cons (RV.cell rfl (lhA [_, _] ag61 rfl rfl rfl)) (.cons (RV.tmp rfl) .nil)) (by rw [he1, he2]; rfl) ⟨rfl, rfl, rfl⟩ drp
 have hik : inb k 0 3 = true := by rw [← Bool.not_eq_false']; exact hc1
 simp only [inb, Bool.and_eq_true, decide_eq_true_eq] at hin hik
 obtain ⟨i, rfl⟩ : ∃ i : Nat, n = i := ⟨n.toNat, by omega⟩
 obtain ⟨q, rfl⟩ : ∃ q : Nat, k = q := ⟨k.toNat, by omega⟩
 have hq4 : q < 4 := by omega
 obtain ⟨h, hh⟩ : ∃ h, c.hs[i]? = some h := ⟨_, List.getElem?_eq_getElem (by omega)⟩
 have hok := hc.hs h (List.mem_of_getElem? hh)
 have hle := letE_at (g := g) h0 hh hq4
 refine sy_addr (a := ah) (sz := 5) (rows := hrows c.hs) (by intro h0; simp [hrows] at h0; simp [h0] at hh) (fun ba oa he => ?_)
 subst he
 refine sy_skip ?_
 refine sy_seq ?_
 refine sy_tx' [0, 1, 2, 3, 4, 5, 6, 7, 8, 9, 10, 11, 12] rfl ?_
 refine sp rfl (PE.move rfl) rfl ?_
 refine sp rfl (PE.move rfl) rfl ?_
 refine sp rfl (PE.nilCheck rfl) rfl ?_
 refine sp rfl (PE.fieldAddr fo148_0 rfl) rfl ?_
 refine sp rfl (PE.fieldAddr fo28_2 rfl) rfl ?_
 refine spL rfl rfl (lfB (sz := 6) sc26 rfl) rfl ?_
 refine sp rfl (PE.move rfl) rfl ?_
 refine sp rfl (PE.indexAddr el26 rfl rfl (by omega) (by omega)) rfl ?_
 refine spL rfl rfl (lfA ag33 (row := hrow h) (hr_get (by simpa using hh)) rfl) rfl ?_
 refine sp rfl (PE.move rfl) rfl ?_
 refine clV rfl cal99 rfl rfl (c_lets g hg ag cg c hc (some ⟨ba, oa, none⟩) ch bw h hok q hq4 _ _) ?_
 refine alc rfl zl61 rfl (fun b13 => ?_)
 refine sto rfl rfl rfl cn61 rfl rfl rfl rfl ?_
 refine sy_seq ?_
 refine sy_seq ?_
 refine sy_tx' [0, 1, 2, 3, 4] rfl ?_
 refine sp rfl (PE.fieldAddr fo61_0 rfl) rfl ?_
 refine spL rfl rfl (lh sc3 rfl rfl) rfl ?_
 refine sp rfl (PE.fieldAddr fo61_1 rfl) rfl ?_
 refine spL rfl rfl (lh sc3 rfl rfl) rfl ?_
 refine sp rfl (PE.gtr rfl rfl) rfl ?_
 refine sy_cond rfl (fun hc2 => ?_) (fun hc2 => ?_)
 try simp only [decide_eq_true_eq, decide_eq_false_iff_not, Bool.and_eq_true, Bool.or_eq_true, Bool.not_eq_true', Int.not_le, Int.not_lt] at hc2
 have he2 : letE g c i q = 6 := by rw [hle, decide_eq_true (by omega)]; rfl
 have he1 := letP_no he2 (by decide)
 refine sy_seq ?_
 refine sy_tx' [0, 1, 2] rfl ?_
 refine sp rfl (PE.build (out := [_, _]) pl61 zl61 rfl rfl) rfl ?_
 refine sto rfl rfl rfl cn61 rfl rfl rfl rfl ?_
 refine sp rfl (PE.assign rfl) rfl ?_
 refine sy_ret ?_
 exact sy_return (vs := [_, _]) rfl (.cons (RV.cell rfl (lhA [_, _] ag61 rfl rfl rfl)) (.cons (RV.tmp rfl) .nil)) (by rw [he1, he2]; rfl) ⟨rfl, rfl, rfl⟩ drp
 try simp only [decide_eq_true_eq, decide_eq_false_iff_not, Bool.and_eq_true, Bool.or_eq_true, Bool.not_eq_true', Int.not_le, Int.not_lt] at hc2
 have he2 : letE g c i q = 0 := by rw [hle, decide_eq_false (by omega)]; rfl
 have he1 := letP_at (g := g) h0 hh hq4 (by omega)
 refine sy_skip ?_
 refine sy_seq ?_
 refine sy_tx' [0, 1, 2] rfl ?_
 refine spL rfl rfl (lhA [_, _] ag61 rfl rfl rfl) rfl ?_
 refine sto rfl rfl rfl cn61 rfl rfl rfl rfl ?_
 refine sp rfl (PE.assign rfl) rfl ?_
 refine sy_ret ?_
 exact sy_return (vs := [_, _]) rfl (.cons (RV.cell rfl (lhA [_, _] ag61 rfl rfl rfl)) (.cons (RV.tmp rfl) .nil)) (by rw [he1, he2]; rfl) ⟨rfl, rfl, rfl⟩ drp
theorem c_Agree (g : Gat) (ag : Option Addr) (cg : Nat) (hlg : g.grs.length ≤ 9223372036854775807) (c : Crt) (ah : Option Addr) (ch : Nat) (hlh : c.hs.length ≤ 9223372036854775807) (l : List Int) (al : Option Addr) (cy : Nat) (hl : l.length ≤ 12) (H : Heap) (R : Facts) [hG : MemRows ag 5 (grows g.grs) R] [hA : MemRows ah 5 (hrows c.hs) R] [hL : MemRows al 1 (irows l) R] :
    FnV Tryz.prog 66 [g.v (g.sl ag cg), c.v (c.sl ah ch), .slice al l.length cy] H R (.tuple #[.bool (agrR g c l), .int .i64 (agrE g c l)]) := by
 refine fn_of Tryz.func66 rfl Tryz.ntmps66 rfl ?_
 refine sy_seq ?_
 refine sy_tx' [0, 1, 2, 3] rfl ?_
 refine bx rfl rfl rfl (fun b3 => ?_)
 refine bx rfl rfl rfl (fun b4 => ?_)
 refine sp rfl (PE.assign rfl) rfl ?_
 refine sp rfl (PE.assign rfl) rfl ?_
 refine sy_seq ?_
 refine sy_tx' [0, 1, 2, 3, 4, 5, 6, 7] rfl ?_
 refine spL rfl rfl (lhA [_, _, _] ag25 rfl rfl rfl) rfl ?_
 refine spL rfl rfl (lhA [_, _, _] ag28 rfl rfl rfl) rfl ?_
 refine cl rfl cal78 rfl rfl (c_opened g ag cg hlg c ah ch hlh _ _) ?_
 rintro _ _ _ ⟨rfl, ho⟩
 rcases ho with ⟨hne, rfl, rfl⟩ | ⟨hg, hc, h0, bw, rfl, rfl⟩
 refine sp rfl (PE.move rfl) rfl ?_
 refine sp rfl (PE.extract rfl rfl) rfl ?_
 refine sp rfl (PE.extract rfl rfl) rfl ?_
 refine sp rfl (PE.assign rfl) rfl ?_
 refine sp rfl (PE.assign rfl) rfl ?_
 refine sy_seq ?_
 refine sy_seq ?_
 refine sy_tx' [0, 1] rfl ?_
 refine sp rfl (PE.move rfl) rfl ?_
 refine sp rfl (PE.neq rfl rfl) rfl ?_
 refine sy_cond rfl (fun hc0 => ?_) (fun hc0 => ?_)
 have he2 : agrE g c l = bothE g c := by unfold agrE; rw [decide_eq_true hne]; rfl
 have he1 := agrR_no he2 hne
 refine sy_seq ?_
 refine sy_tx' [0, 1, 2] rfl ?_
 refine sp rfl (PE.move rfl) rfl ?_
 refine sp rfl (PE.assign rfl) rfl ?_
 refine sp rfl (PE.assign rfl) rfl ?_
 refine sy_ret ?_
 exact sy_return (vs := [_, _]) rfl (.cons (RV.tmp rfl) (.cons (RV.tmp rfl) .nil)) (by rw [he1, he2]; rfl) ⟨rfl, rfl, rfl⟩ drp
 exact absurd hc0 (by simp [hne])
 refine sp rfl (PE.move rfl) rfl ?_
 refine sp rfl (PE.extract rfl rfl) rfl ?_
 refine sp rfl (PE.extract rfl rfl) rfl ?_
 refine sp rfl (PE.assign rfl) rfl ?_
 refine sp rfl (PE.assign rfl) rfl ?_
 refine sy_seq ?_
 refine sy_seq ?_
 refine sy_tx' [0, 1] rfl ?_
 refine sp rfl (PE.move rfl) rfl ?_
 refine sp rfl (PE.neq rfl rfl) rfl ?_
 refine sy_cond rfl (fun hc0 => ?_) (fun hc0 => ?_)
 exact absurd hc0 (by simp)
 refine sy_skip ?_
 refine sy_seq ?_
 refine sy_seq ?_
 refine sy_tx' [0, 1, 2, 3, 4] rfl ?_
 refine sp rfl (PE.move rfl) rfl ?_
 refine sp rfl (PE.move rfl) rfl ?_
 refine sp rfl (PE.makeFunc rfl rfl) rfl ?_
 refine clV rfl cal17 rfl rfl (c_every_int l al cy 98 [.pointer (some ⟨bw, 0, none⟩)] [] (fun i => inb i 0 ((c.hs.length : Int) - 1)) cal98 (by omega) _ _ (fun b y _ => c_hasHnd g hg ag cg c hc ah ch bw y _ _)) ?_
 refine sp rfl (PE.not rfl) rfl ?_
 refine sy_cond rfl (fun hc1 => ?_) (fun hc1 => ?_)
 have hal : (l.all fun i => inb i 0 ((c.hs.length : Int) - 1)) = false := by simpa using hc1
 have he2 : agrE g c l = 1 := by unfold agrE; rw [decide_eq_false (by omega), hal]; rfl
 have he1 := agrR_no he2 (by decide)
 refine sy_seq ?_
 refine sy_tx' [0, 1] rfl ?_
 refine sp rfl (PE.assign rfl) rfl ?_
 refine sp rfl (PE.assign rfl) rfl ?_
 refine sy_ret ?_
 exact sy_return (vs := [_, _]) rfl (.cons (RV.tmp rfl) (.cons (RV.tmp rfl) .nil)) (by rw [he1, he2]; rfl) ⟨rfl, rfl, rfl⟩ drp
 have hal : (l.all fun i => inb i 0 ((c.hs.length : Int) - 1)) = true := by simpa using hc1
 refine sy_skip ?_
 refine sy_seq ?_
 refine sy_seq ?_
 refine sy_tx' [0, 1, 2, 3] rfl ?_
 refine sp rfl (PE.move rfl) rfl ?_
 refine cl rfl cal108 rfl rfl (c_Values l al cy _ _) ?_
 rintro _ _ R1 ⟨b1, rfl, rfl, hR1⟩
 obtain rfl := hR1.symm
 clear hR1
 refine cl rfl cal107 rfl rfl (c_Sorted l al cy b1 hl _ _) ?_
 rintro _ _ R1 ⟨ys, o, hs, rfl, rfl, hR1⟩
 obtain rfl := hR1.symm
 clear hR1
 have hyl := hs.perm.length_eq
 refine sp rfl (PE.assign rfl) rfl ?_
 refine sy_seq ?_
 refine sy_tx' [0, 1, 2, 3, 4, 5] rfl ?_
 refine sp rfl (PE.move rfl) rfl ?_
 refine cl rfl cal109 rfl rfl (c_Compact ys o (by omega) _ _) ?_
 rintro _ _ R1 ⟨az, m, cz, rfl, hm, rfl, hR1⟩
 obtain rfl := hR1.symm
 clear hR1
 refine sp rfl (PE.lenSl isl22 rfl) rfl ?_
 refine sp rfl (PE.move rfl) rfl ?_
 refine sp rfl (PE.lenSl isl22 rfl) rfl ?_
 refine sp rfl (PE.lss rfl rfl) rfl ?_
 refine sy_cond rfl (fun hc2 => ?_) (fun hc2 => ?_)
 try simp only [decide_eq_true_eq, decide_eq_false_iff_not, Bool.and_eq_true, Bool.or_eq_true, Bool.not_eq_true', Int.not_le, Int.not_lt] at hc2
 obtain ⟨p, hp, hpe⟩ := (hm.resolve_left (fun h => by omega)).2
 have hnd : ¬ l.Nodup := fun h => pair_ne hp (hs.perm.nodup_iff.2 h) hpe
 have he2 : agrE g c l = 5 := by unfold agrE; rw [decide_eq_false (by omega), hal, decide_eq_false hnd]; rfl
 have he1 := agrR_no he2 (by decide)
 refine sy_seq ?_
 refine sy_tx' [0, 1] rfl ?_
 refine sp rfl (PE.assign rfl) rfl ?_
 refine sp rfl (PE.assign rfl) rfl ?_
 refine sy_ret ?_
 exact sy_return (vs := [_, _]) rfl (.cons (RV.tmp rfl) (.cons (RV.tmp rfl) .nil)) (by rw [he1, he2]; rfl) ⟨rfl, rfl, rfl⟩ drp
 try simp only [decide_eq_true_eq, decide_eq_false_iff_not, Bool.and_eq_true, Bool.or_eq_true, Bool.not_eq_true', Int.not_le, Int.not_lt] at hc2
 have hnd : l.Nodup := srt_nd hs (by omega) (hm.resolve_right (fun h => by omega)).2
 have he2 := agrE_0 h0 hal hnd
 have he1 := agrR_0 he2
 refine sy_skip ?_
 refine sy_seq ?_
 refine sy_tx' [0, 1, 2, 3, 4, 5] rfl ?_
 refine sp rfl (PE.move rfl) rfl ?_
 refine sp rfl (PE.move rfl) rfl ?_
 refine cl rfl cal86 rfl rfl (c_some l al cy _ _) ?_
 rintro _ _ R1 ⟨bs, rfl, rfl, hR1⟩
 obtain rfl := hR1.symm
 clear hR1
 refine clV rfl cal83 rfl rfl (c_agree g hg ag cg c hc ah ch bw 117 [.pointer (some ⟨bs, 0, none⟩)] (flt l) cal117 _ _ (fun G i hi => c_some1 l al cy bs (by omega) i _ _)) ?_
 refine sp rfl (PE.assign rfl) rfl ?_
 refine sp rfl (PE.assign rfl) rfl ?_
 refine sy_ret ?_
 exact sy_return (vs := [_, _]) rfl (.cons (RV.tmp rfl) (.cons (RV.tmp rfl) .nil)) (by rw [he1, he2]; rfl) ⟨rfl, rfl, rfl⟩ (fun w h => St.ftail (((h.del bs).del b4).del b3))
end Go.Proofs.YtndhkpnaeocnhaaGreat
namespace Go.Proofs.YtndhkpnaeocnhaaGreat
set_option linter.unusedSimpArgs false
set_option linter.unusedVariables false
open Go
theorem bnd_len (g : Gat) (c : Crt) : (bndB g c).length = 8 := by
  unfold bndB
  cases hcl : clo (boxF g.miss c.hs fun _ => true) with
  | none => cases decide (toldE g c false ≠ 0) <;> rfl
  | some b =>
    have := (clo_some (boxF_ok _ _ _) hcl).1.ok.len
    cases decide (toldE g c false ≠ 0)
    · exact this
    · rfl
end Go.Proofs.YtndhkpnaeocnhaaGreat
