/- Walks of the functions of the program, and the laws that join them: what the last theorem of this claim needs, in order. -/
import Derived.Test.YtelegnmfhjfbaaaGreatKp5
namespace Go.Proofs.YtelegnmfhjfbaaaGreat
set_option linter.unusedSimpArgs false
set_option linter.unusedVariables false
open Go
theorem cal74 : cal Tryz.prog 74 = true := by kernel_rfl
theorem cal75 : cal Tryz.prog 75 = true := by kernel_rfl
theorem cal76 : cal Tryz.prog 76 = true := by kernel_rfl
theorem ipt52 : isPt Tryz.prog 52 = true := by kernel_rfl
def Barn.wdC (b : Barn) (cl ws l : List Int) (k : Nat) : Int := (bif hasI l k then min (na ws k) b.cool else na ws k) + na b.rise (na cl k).toNat
def Barn.hotC (b : Barn) (cl ws l : List Int) (k : Nat) : Bool := decide ((b.bins.getD k hb0).mark < b.wdC cl ws l k)
def Barn.dayC (b : Barn) (cl ws l : List Int) : List Int := (List.range b.bins.length).map (b.wdC cl ws l)
def Barn.burnsC (b : Barn) (cl : List Int) : List Int → List (List Int) → Nat → Option Nat
  | _, [], _ => none
  | ws, l :: p, d => match (List.range b.bins.length).find? (b.hotC cl ws l) with
    | some _ => some d
    | none => b.burnsC cl (b.dayC cl ws l) p (d + 1)
def dayN (o : Option Nat) : Int := match o with
  | none => -1
  | some d => d
theorem Barn.dayC_len (b : Barn) (cl ws l : List Int) : (b.dayC cl ws l).length = b.bins.length := by simp [Barn.dayC]
theorem Barn.dayC_at {b : Barn} {cl ws l : List Int} {k : Nat} (hk : k < b.bins.length) : (b.dayC cl ws l)[k]? = some (b.wdC cl ws l k) := by unfold Barn.dayC; rw [List.getElem?_map, List.getElem?_range hk]; rfl
theorem Barn.burnsC_drop {b : Barn} {cl ws : List Int} {p : List (List Int)} {d : Nat} {l : List Int} (h : p[d]? = some l) : b.burnsC cl ws (p.drop d) d = match (List.range b.bins.length).find? (b.hotC cl ws l) with
    | some _ => some d
    | none => b.burnsC cl (b.dayC cl ws l) (p.drop (d + 1)) (d + 1) := by
  rw [show p.drop d = l :: p.drop (d + 1) by rw [List.drop_eq_getElem_cons (List.getElem?_eq_some_iff.1 h).1, (List.getElem?_eq_some_iff.1 h).2]]
  rfl
theorem find_congr {α : Type} {f g : α → Bool} : ∀ {l : List α}, (∀ x ∈ l, f x = g x) → l.find? f = l.find? g
  | [], _ => rfl
  | x :: l, h => by
    rw [List.find?_cons, List.find?_cons, h x (by simp), find_congr fun y hy => h y (by simp [hy])]
theorem burnsC_worst {b : Barn} {cl : List Int} (hc : ∀ k < b.bins.length, na cl k = (b.bins.getD k hb0).hi) : ∀ (p : List (List Int)) (ws : List Int) (d : Nat), b.burnsC cl ws p d = (b.burnsF ws p d).1.map (·.1)
  | [], _, _ => rfl
  | l :: p, ws, d => by
    have hw : ∀ k < b.bins.length, b.wdC cl ws l k = b.wdAt ws l k := fun k hk => by
      unfold Barn.wdC Barn.wdAt Barn.wd Barn.worst
      rw [hc k hk]
    have h1 : (List.range b.bins.length).find? (b.hotC cl ws l) = (List.range b.bins.length).find? (b.hotAt ws l) := find_congr fun k hk => by
      unfold Barn.hotC Barn.hotAt
      rw [hw k (List.mem_range.1 hk)]
    have h2 : b.dayC cl ws l = b.dayW ws l := by
      unfold Barn.dayC Barn.dayW
      exact List.map_congr_left fun k hk => hw k (List.mem_range.1 hk)
    rw [b.burns_cons]
    unfold Barn.burnsC
    rw [h1, h2]
    cases (List.range b.bins.length).find? (b.hotAt ws l) with
    | some k => rfl
    | none => exact burnsC_worst hc p _ _
theorem burnsC_none {b : Barn} {cl : List Int} (hc : ∀ k < b.bins.length, na b.rise (na cl k).toNat ≤ b.worst (b.bins.getD k hb0)) : ∀ (p : List (List Int)) (ws us : List Int) (d : Nat), (∀ k < b.bins.length, na us k ≤ na ws k) → (b.burnsF ws p d).1 = none → b.burnsC cl us p d = none
  | [], _, _, _, _, _ => rfl
  | l :: p, ws, us, d, hle, h => by
    have hw : ∀ k < b.bins.length, b.wdC cl us l k ≤ b.wdAt ws l k := fun k hk => by
      have := hc k hk; have := hle k hk
      unfold Barn.wdC Barn.wdAt Barn.wd
      cases hasI l k <;> simp only [cond_true, cond_false] <;> omega
    rw [b.burns_cons] at h
    cases hf : (List.range b.bins.length).find? (b.hotAt ws l) with
    | some k => rw [hf] at h; cases h
    | none =>
      rw [hf] at h
      have h1 : (List.range b.bins.length).find? (b.hotC cl us l) = none := List.find?_eq_none.2 fun k hk => by
        have h2 := List.find?_eq_none.1 hf k hk
        have h3 := hw k (List.mem_range.1 hk)
        unfold Barn.hotC
        unfold Barn.hotAt at h2
        simp only [decide_eq_true_eq] at h2 ⊢
        omega
      unfold Barn.burnsC
      rw [h1]
      exact burnsC_none hc p _ _ (d + 1) (fun k hk => by rw [na_at (b.dayC_at hk), na_at (b.dayW_at hk)]; exact hw k hk) h
theorem sort_trs {d : Dsk} {l ys : List Int} (hs : SrtI l ys l.length) (hn : l.Nodup) (hb : ∀ x ∈ l, 0 ≤ x ∧ x < (d.n : Int)) (hl : (l.length : Int) ≤ d.gangs) : ∃ m, ys = il m ∧ m ∈ d.trs false := by
  have hyl := hs.perm.length_eq
  have hyn : ys.Nodup := hs.perm.nodup_iff.2 hn
  have hyb : ∀ x ∈ ys, 0 ≤ x ∧ x < (d.n : Int) := fun x hx => hb x (hs.perm.mem_iff.1 hx)
  refine trs_of_day (d := d) ?_
  unfold dayErr
  have e1 : (ys.all fun k => inB k 0 ((d.n : Int) - 1)) = true := by
    rw [List.all_eq_true]
    intro x hx
    have := hyb x hx
    simp [inB]; omega
  have e2 : sinc ys = true := sinc_yes fun i x y hx hy => by
    have hi := (List.getElem?_eq_some_iff.1 hx).1
    have hj := (List.getElem?_eq_some_iff.1 hy).1
    have h1 := hs.at_ i (i + 1) (by omega) (by omega)
    rw [nn_at hi, nn_at hj] at h1
    have ex := (List.getElem?_eq_some_iff.1 hx).2
    have ey := (List.getElem?_eq_some_iff.1 hy).2
    have hne := List.pairwise_iff_getElem.1 hyn i (i + 1) hi hj (by omega)
    rw [ex, ey] at h1 hne
    omega
  rw [e1, e2, decide_eq_false (by omega)]; rfl
structure DayI (sp : List Nat) (k : Nat) (l : List Int) : Prop where
  nd : l.Nodup
  mem : ∀ y ∈ l, ∃ i j : Nat, i < k ∧ sp[i]? = some j ∧ y = (j : Int)
theorem DayI.skip {sp : List Nat} {k : Nat} {l : List Int} (h : DayI sp k l) : DayI sp (k + 1) l := ⟨h.nd, fun y hy => by obtain ⟨i, j, h1, h2⟩ := h.mem y hy; exact ⟨i, j, by omega, h2⟩⟩
theorem DayI.more {sp : List Nat} {k j : Nat} {l : List Int} (h : DayI sp k l) (hn : sp.Nodup) (hj : sp[k]? = some j) : DayI sp (k + 1) (l ++ [(j : Int)]) := by
  refine ⟨List.nodup_append.2 ⟨h.nd, by simp, fun x hx y hy e => ?_⟩, fun y hy => ?_⟩
  · rw [List.mem_singleton] at hy
    obtain ⟨i, j', h1, h2, h3⟩ := h.mem x hx
    have e2 : j' = j := by omega
    subst e2
    have hi := (List.getElem?_eq_some_iff.1 h2).1
    have := (List.getElem?_inj hi hn).1 (h2.trans hj.symm)
    omega
  · rcases List.mem_append.1 hy with hy | hy
    · obtain ⟨i, j', h1, h2⟩ := h.mem y hy; exact ⟨i, j', by omega, h2⟩
    · rw [List.mem_singleton.1 hy]; exact ⟨k, j, by omega, hj, rfl⟩
theorem burnsC_hit {b : Barn} {cl ws : List Int} {p : List (List Int)} {d k : Nat} {l : List Int} (h : p[d]? = some l) (hk : k < b.bins.length) (hh : b.hotC cl ws l k = true) : b.burnsC cl ws (p.drop d) d = some d := by
  rw [b.burnsC_drop h]
  cases hf : (List.range b.bins.length).find? (b.hotC cl ws l) with
  | some _ => rfl
  | none => have := List.find?_eq_none.1 hf k (List.mem_range.2 hk); rw [hh] at this; simp at this
theorem burnsC_pass {b : Barn} {cl ws : List Int} {p : List (List Int)} {d : Nat} {l : List Int} (h : p[d]? = some l) (hn : ∀ k < b.bins.length, b.hotC cl ws l k = false) : b.burnsC cl ws (p.drop d) d = b.burnsC cl (b.dayC cl ws l) (p.drop (d + 1)) (d + 1) := by
  rw [b.burnsC_drop h, List.find?_eq_none.2 (fun k hk => by rw [hn k (List.mem_range.1 hk)]; simp)]
structure Cls (b : Barn) (cl : List Int) : Prop where
  len : cl.length = b.bins.length
  at_ : ∀ k x, b.bins[k]? = some x → x.lo ≤ na cl k ∧ na cl k ≤ x.hi
theorem na_rise {b : Barn} (hok : b.ok) (j : Nat) : 0 ≤ na b.rise j ∧ na b.rise j ≤ 20 := by
  unfold na
  rw [List.getD_eq_getElem?_getD]
  cases h : b.rise[j]? with
  | none => simp
  | some v => have := hok.rise v (List.mem_of_getElem? h); simp only [Option.getD_some]; omega
def hiL (b : Barn) : List Int := b.bins.map (·.hi)
theorem hiL_at {b : Barn} {k : Nat} {x : HBin} (hx : b.bins[k]? = some x) : na (hiL b) k = x.hi := by unfold na hiL; rw [List.getD_eq_getElem?_getD, List.getElem?_map, hx]; rfl
theorem hiL_cls {b : Barn} (hok : b.ok) : Cls b (hiL b) := ⟨List.length_map _, fun k x hx => by rw [hiL_at hx]; exact ⟨hok.ord x (List.mem_of_getElem? hx), Int.le_refl _⟩⟩
theorem hiL_worst {b : Barn} (k : Nat) (hk : k < b.bins.length) : na (hiL b) k = (b.bins.getD k hb0).hi := by
  obtain ⟨x, hx⟩ : ∃ x, b.bins[k]? = some x := ⟨_, List.getElem?_eq_getElem hk⟩
  rw [hiL_at hx, bin_getD hx]
theorem Cls.rise {b : Barn} (hok : b.ok) {cl : List Int} (h : Cls b cl) : ∀ k < b.bins.length, na b.rise (na cl k).toNat ≤ b.worst (b.bins.getD k hb0) := fun k hk => by
  obtain ⟨x, hx⟩ : ∃ x, b.bins[k]? = some x := ⟨_, List.getElem?_eq_getElem hk⟩
  rw [bin_getD hx]
  have h1 := h.at_ k x hx
  have h2 := hok.bins x (List.mem_of_getElem? hx)
  exact srt_le hok.srt (by omega) (by rw [hok.len]; omega)
theorem set_same {α : Type} {l : List α} {k : Nat} {v : α} (h : l[k]? = some v) : l.set k v = l := by
  refine List.ext_getElem? fun j => ?_
  rw [List.getElem?_set]
  by_cases e : k = j
  · subst e; rw [if_pos rfl, if_pos (List.getElem?_eq_some_iff.1 h).1, h]
  · rw [if_neg e]
theorem take_drop_zero {α : Type} (l m : List α) : l.take 0 ++ m.drop 0 = m := by simp
theorem btl_cls {b : Barn} {sl : Value} {c : Int} (h : 0 ≤ c ∧ c ≤ 5) : (btl b sl)[0 + 2 + c.toNat * 1]? = some (.int .i64 (na b.rise c.toNat)) := by
  obtain ⟨n, rfl⟩ : ∃ n : Nat, c = n := ⟨c.toNat, by omega⟩
  rw [Int.toNat_natCast]
  have hn : n < 6 := by omega
  match n, hn with
  | 0, _ | 1, _ | 2, _ | 3, _ | 4, _ | 5, _ => rfl
theorem c_tried (g : List Int) (ag : Option Addr) (cg bk : Nat) (hgl : g.length ≤ 9223372036854775807) (tq mx : Int) (htq : 0 ≤ tq ∧ tq ≤ 10000) (hmx : 0 ≤ mx ∧ mx ≤ 4294967295) (b : Barn) (ab : Option Addr) (cb : Nat) (hok : b.ok) (days : Nat) (hdy : days ≤ 24) (H : Heap) (R : Facts) [hG : MemRows ag 1 (urows g) R] [hB : MemRows ab 4 (brows b.bins) R] :
    Fn Tryz.prog 23 [.pointer (some ⟨bk, 0, none⟩), b.v (b.sl ab cb), .int .i64 days] ((bk, cel 125 [.slice ag g.length cg, .int .i64 (tq), .int .u32 (mx)]) :: H) R (fun v H' R' => ∃ (p : List (List Nat)) (pl : List PL) (ap : Option Addr) (cp : Nat) (tq' mx' : Int), lls pl = p.map il ∧ p.length = days ∧ (∀ l ∈ p, l ∈ b.dsk.trs false) ∧ v = .slice ap pl.length cp ∧ (tq ≤ tq' ∧ tq' ≤ tq + 8 * days) ∧ (0 ≤ mx' ∧ mx' ≤ 4294967295) ∧ H' = (bk, cel 125 [.slice ag g.length cg, .int .i64 (tq'), .int .u32 (mx')]) :: H ∧ R' = RowsA ap 1 (plrows pl) :: Inn pl :: R) := by
 have hmn := hok.many
 have hgn := hok.gangs
 refine fn_of Tryz.func23 rfl Tryz.ntmps23 rfl ?_
 refine sy_seq ?_
 refine sy_tx' [0, 1] rfl ?_
 refine bx rfl rfl rfl (fun b4 => ?_)
 refine sp rfl (PE.assign rfl) rfl ?_
 refine sy_seq ?_
 refine sy_tx' [0] rfl ?_
 refine sp rfl (PE.assign rfl) rfl ?_
 refine sy_seq ?_
 refine sy_seq ?_
 refine sy_tx' [0, 1] rfl ?_
 refine sp rfl (PE.move rfl) rfl ?_
 refine sp rfl (PE.move rfl) rfl ?_
 refine sy_block ?_
 refine sy_pull bk ?_
 refine sy_loop (ι := (x : {x : Nat × List (List Nat) × List PL × Int × Int // x.1 ≤ days ∧ x.2.1.length = x.1 ∧ lls x.2.2.1 = x.2.1.map il ∧ (∀ l ∈ x.2.1, l ∈ b.dsk.trs false) ∧ (tq ≤ x.2.2.2.1 ∧ x.2.2.2.1 ≤ tq + 8 * x.1) ∧ (0 ≤ x.2.2.2.2 ∧ x.2.2.2.2 ≤ 4294967295)}) × OSl 22 1 (plrows x.1.2.2.1)) (fun x => ⟨[(0, .pointer (some ⟨bk, 0, none⟩)), (4, .pointer (some ⟨b4, 0, none⟩)), (7, x.2.fs), (11, .int .i64 days), (12, .int .i64 x.1.1.1)], (bk, cel 125 [.slice ag g.length cg, .int .i64 (x.1.1.2.2.2.1), .int .u32 (x.1.1.2.2.2.2)]) :: (x.2.G ++ (b4, cel 27 (btl b (b.sl ab cb))) :: H), Inn x.1.1.2.2.1 :: R⟩) (fun x => days - x.1.1.1) ⟨⟨(0, [], [], tq, mx), Nat.zero_le _, rfl, rfl, by simp, by dsimp only; omega, by assumption⟩, OSl.nil _ _⟩ ?_ (fun x => ?_)
 exact sy_at (by repeat' first | exact Sub.nil | apply Sub.cons | rfl | (simp [lk]; omega)) (fun w h => St.inn0 h)
 obtain ⟨⟨⟨i, p, pl, tq2, mx2⟩, hi, hpl, hlp, hpt, htq2, hmx2⟩, o⟩ := x
 dsimp only at hi hpl hlp hpt htq2 hmx2 o ⊢
 have hpll : pl.length = i := by have := congrArg List.length hlp; rw [lls_len, List.length_map] at this; omega
 refine sy_seq ?_
 refine sy_tx' [0] rfl ?_
 refine sp rfl (PE.lss rfl rfl) rfl ?_
 refine sy_seq ?_
 refine sy_cond rfl (fun hc0 => ?_) (fun hc0 => ?_)
 try simp only [decide_eq_true_eq, decide_eq_false_iff_not, Bool.and_eq_true, Bool.or_eq_true, Bool.not_eq_true', Int.not_le, Int.not_lt] at hc0
 refine sy_skip ?_
 refine sy_seq ?_
 refine sy_block ?_
 refine sy_seq ?_
 refine sy_tx' [0] rfl ?_
 refine sp rfl (PE.assign rfl) rfl ?_
 refine sy_seq ?_
 refine sy_seq ?_
 refine sy_tx' [0, 1, 2, 3, 4, 5, 6] rfl ?_
 refine sp rfl (PE.move rfl) rfl ?_
 refine sp rfl (PE.fieldAddr fo27_3 rfl) rfl ?_
 refine spL rfl rfl (lh sc25 rfl rfl) rfl ?_
 refine sp rfl (PE.lenSl isl25 rfl) rfl ?_
 refine cl rfl cal74 rfl rfl (c_Shuffle g ag cg bk hgl _ _ (by omega) (by assumption) b.bins.length (by omega) _ _) ?_
 rintro _ _ R1 ⟨sho, so, tq3, mx3, hsp, rfl, htq3, hmx3, rfl, hR1⟩
 obtain rfl := hR1.symm
 clear hR1
 obtain ⟨as', cs, he, hf⟩ := so.freeze
 rw [he, show (irows (sho.map fun (j : Nat) => (j : Int))).length = b.bins.length by rw [irows_len, List.length_map, hsp.len]]
 refine Sy.heap (H' := _) (fun w h => hf (h.perm (List.perm_middle (l₁ := so.G) (a := _)).symm)) ?_
 clear he hf
 have hspl := hsp.len
 refine sp rfl (PE.lenSl isl22 rfl) rfl ?_
 refine sp rfl (PE.move rfl) rfl ?_
 refine sy_block ?_
 refine sy_loop (ι := (x : {x : Nat × List Int × Int × Int // x.1 ≤ b.bins.length ∧ DayI sho x.1 x.2.1 ∧ (x.2.1.length : Int) ≤ b.gangs ∧ (tq3 ≤ x.2.2.1 ∧ x.2.2.1 ≤ tq3 + x.1) ∧ (0 ≤ x.2.2.2 ∧ x.2.2.2 ≤ 4294967295)}) × OSl 3 1 (irows x.1.2.1)) (fun x => ⟨[(0, .pointer (some ⟨bk, 0, none⟩)), (4, .pointer (some ⟨b4, 0, none⟩)), (7, o.fs), (11, .int .i64 days), (12, .int .i64 i), (8, x.2.fs), (18, .slice as' b.bins.length cs), (19, .int .i64 b.bins.length), (20, .int .i64 x.1.1.1)], (bk, cel 125 [.slice ag g.length cg, .int .i64 (x.1.1.2.2.1), .int .u32 (x.1.1.2.2.2)]) :: (x.2.G ++ (o.G ++ (b4, cel 27 (btl b (b.sl ab cb))) :: H)), RowsA as' 1 (irows (sho.map fun (j : Nat) => (j : Int))) :: Inn pl :: R⟩) (fun x => b.bins.length - x.1.1.1) ⟨⟨(0, [], tq3, mx3), Nat.zero_le _, ⟨List.nodup_nil, by simp⟩, by show (0 : Int) ≤ b.gangs; omega, by dsimp only; omega, by assumption⟩, OSl.nil _ _⟩ ?_ (fun x => ?_)
 exact sy_at (by repeat' first | exact Sub.nil | apply Sub.cons | rfl | (simp [lk]; omega)) (fun _ h => h)
 obtain ⟨⟨⟨k, l, tq4, mx4⟩, hk, hdi, hlg, htq4, hmx4⟩, lo⟩ := x
 dsimp only at hk hdi hlg htq4 hmx4 lo ⊢
 refine sy_seq ?_
 refine sy_tx' [0] rfl ?_
 refine sp rfl (PE.lss rfl rfl) rfl ?_
 refine sy_seq ?_
 refine sy_cond rfl (fun hc1 => ?_) (fun hc1 => ?_)
 try simp only [decide_eq_true_eq, decide_eq_false_iff_not, Bool.and_eq_true, Bool.or_eq_true, Bool.not_eq_true', Int.not_le, Int.not_lt] at hc1
 obtain ⟨j, hj⟩ : ∃ j, sho[k]? = some j := ⟨_, List.getElem?_eq_getElem (by omega)⟩
 have hjr : (sho.map fun (j : Nat) => (j : Int))[k]? = some (j : Int) := by rw [List.getElem?_map, hj]; rfl
 obtain ⟨a8, c8, he8, _⟩ := lo.freeze
 have hll : (irows l).length = l.length := irows_len l
 refine sy_addr (a := as') (sz := 1) (rows := irows (sho.map fun (j : Nat) => (j : Int))) (by intro h0; have := congrArg List.length h0; rw [irows_len, List.length_map] at this; simp only [List.length_nil] at this; omega) (fun bs os he => ?_)
 subst he
 refine sy_skip ?_
 refine sy_seq ?_
 refine sy_block ?_
 refine sy_seq ?_
 refine sy_tx' [0, 1, 2] rfl ?_
 refine sp rfl (PE.indexAddr el22 rfl rfl (by omega) (by omega)) rfl ?_
 refine spL rfl rfl (lf0 sc3 (ir_get hjr) rfl) rfl ?_
 refine sp rfl (PE.assign rfl) rfl ?_
 refine sy_seq ?_
 refine sy_tx' [0, 1, 2, 3, 4, 5, 6, 7, 8, 9] rfl ?_
 refine sp rfl (PE.move rfl) rfl ?_
 refine sp rfl (PE.lenSl isl22 (show _ = some (Value.slice a8 (irows l).length c8) from congrArg some he8)) rfl ?_
 refine sp rfl (PE.fieldAddr fo27_1 rfl) rfl ?_
 refine spL rfl rfl (lh sc3 rfl rfl) rfl ?_
 refine sp rfl (PE.lss rfl rfl) rfl ?_
 refine sp rfl (PE.move rfl) rfl ?_
 refine sy_case (t := 29) rfl (fun g29 => ?_) (fun g29 => ?_)
 try simp only [decide_eq_true_eq, decide_eq_false_iff_not, Bool.and_eq_true, Bool.or_eq_true, Bool.not_eq_true', Int.not_le, Int.not_lt] at g29
 refine spG rfl rfl rfl rfl (PE.move rfl) rfl ?_
 refine clG rfl rfl rfl rfl cal75 rfl rfl (c_Rare g ag cg bk hgl _ _ (by omega) (by assumption) (3) _ _) ?_
 rintro _ _ R1 ⟨x31, m31, rfl, hm31, rfl, hR1⟩
 obtain rfl := hR1.symm
 refine spG rfl rfl rfl rfl (PE.not rfl) rfl ?_
 refine sp rfl (PE.pick rfl rfl rfl) rfl ?_
 refine sy_cond rfl (fun hc2 => ?_) (fun hc2 => ?_)
 refine sy_tx' [0, 1, 2, 3, 4] rfl ?_
 refine sp rfl (PE.move rfl) rfl ?_
 refine sp rfl (PE.move rfl) rfl ?_
 refine bsl (out := [_]) rfl sl22 zl3 rfl rfl rfl rfl rfl rfl (fun b36 => ?_)
 refine apO (lo) rfl ap22 rfl rfl (rowsH (row := [.int .i64 (j : Int)]) rfl) rfl rfl ((by rw [irows_len]; simp only [List.length_singleton]; omega)) rfl (fun o37 => ?_)
 refine sp rfl (PE.assign rfl) rfl ?_
 refine sy_tx' [0, 1] rfl ?_
 refine sp rfl (PE.add rfl rfl (by omega)) rfl ?_
 refine sp rfl (PE.move rfl) rfl ?_
 first
   | exact sy_next ⟨⟨(k + 1, l ++ [(j : Int)], tq4 + 1, m31), by dsimp only; omega, hdi.more hsp.nd hj, by dsimp only; rw [List.length_append, List.length_singleton]; omega, by dsimp only; omega, by assumption⟩, o37.cast (by simp [irows])⟩ (by dsimp only; omega) (by repeat' first | exact Sub.nil | apply Sub.cons | rfl | (simp [lk]; omega)) (fun w h => h.del b36)
   | exact sy_next ⟨⟨(k + 1, l, tq4 + 1, m31), by dsimp only; omega, hdi.skip, hlg, by dsimp only; omega, by assumption⟩, lo⟩ (by dsimp only; omega) (by repeat' first | exact Sub.nil | apply Sub.cons | rfl | (simp [lk]; omega)) (fun _ h => h)
   | exact sy_next ⟨⟨(k + 1, l, tq4, mx4), by dsimp only; omega, hdi.skip, hlg, by dsimp only; omega, by assumption⟩, lo⟩ (by dsimp only; omega) (by repeat' first | exact Sub.nil | apply Sub.cons | rfl | (simp [lk]; omega)) (fun _ h => h)
 refine sy_skip ?_
 refine sy_tx' [0, 1] rfl ?_
 refine sp rfl (PE.add rfl rfl (by omega)) rfl ?_
 refine sp rfl (PE.move rfl) rfl ?_
 first
   | exact sy_next ⟨⟨(k + 1, l ++ [(j : Int)], tq4 + 1, m31), by dsimp only; omega, hdi.more hsp.nd hj, by dsimp only; rw [List.length_append, List.length_singleton]; omega, by dsimp only; omega, by assumption⟩, o37.cast (by simp [irows])⟩ (by dsimp only; omega) (by repeat' first | exact Sub.nil | apply Sub.cons | rfl | (simp [lk]; omega)) (fun w h => h.del b36)
   | exact sy_next ⟨⟨(k + 1, l, tq4 + 1, m31), by dsimp only; omega, hdi.skip, hlg, by dsimp only; omega, by assumption⟩, lo⟩ (by dsimp only; omega) (by repeat' first | exact Sub.nil | apply Sub.cons | rfl | (simp [lk]; omega)) (fun _ h => h)
   | exact sy_next ⟨⟨(k + 1, l, tq4, mx4), by dsimp only; omega, hdi.skip, hlg, by dsimp only; omega, by assumption⟩, lo⟩ (by dsimp only; omega) (by repeat' first | exact Sub.nil | apply Sub.cons | rfl | (simp [lk]; omega)) (fun _ h => h)
 try simp only [decide_eq_true_eq, decide_eq_false_iff_not, Bool.and_eq_true, Bool.or_eq_true, Bool.not_eq_true', Int.not_le, Int.not_lt] at g29
 repeat refine spN rfl rfl rfl rfl rfl rfl rfl rfl ?_
 refine sp rfl (PE.pick rfl rfl rfl) rfl ?_
 refine sy_condF rfl ?_
 refine sy_skip ?_
 refine sy_tx' [0, 1] rfl ?_
 refine sp rfl (PE.add rfl rfl (by omega)) rfl ?_
 refine sp rfl (PE.move rfl) rfl ?_
 first
   | exact sy_next ⟨⟨(k + 1, l ++ [(j : Int)], tq4 + 1, m31), by dsimp only; omega, hdi.more hsp.nd hj, by dsimp only; rw [List.length_append, List.length_singleton]; omega, by dsimp only; omega, by assumption⟩, o37.cast (by simp [irows])⟩ (by dsimp only; omega) (by repeat' first | exact Sub.nil | apply Sub.cons | rfl | (simp [lk]; omega)) (fun w h => h.del b36)
   | exact sy_next ⟨⟨(k + 1, l, tq4 + 1, m31), by dsimp only; omega, hdi.skip, hlg, by dsimp only; omega, by assumption⟩, lo⟩ (by dsimp only; omega) (by repeat' first | exact Sub.nil | apply Sub.cons | rfl | (simp [lk]; omega)) (fun _ h => h)
   | exact sy_next ⟨⟨(k + 1, l, tq4, mx4), by dsimp only; omega, hdi.skip, hlg, by dsimp only; omega, by assumption⟩, lo⟩ (by dsimp only; omega) (by repeat' first | exact Sub.nil | apply Sub.cons | rfl | (simp [lk]; omega)) (fun _ h => h)
 try simp only [decide_eq_true_eq, decide_eq_false_iff_not, Bool.and_eq_true, Bool.or_eq_true, Bool.not_eq_true', Int.not_le, Int.not_lt] at hc1
 obtain rfl : k = b.bins.length := by omega
 refine sy_exit ?_
 repeat refine sy_tx ?_
 refine sy_bx ?_
 refine sy_seq ?_
 refine sy_tx' [0, 1] rfl ?_
 refine sp rfl (PE.move rfl) rfl ?_
 refine Sy.heap (H' := lo.G ++ ((bk, cel 125 [.slice ag g.length cg, .int .i64 (tq4), .int .u32 (mx4)]) :: (o.G ++ (b4, cel 27 (btl b (b.sl ab cb))) :: H))) (fun w h => h.perm (List.perm_middle (l₁ := lo.G) (a := _)).symm) ?_
 refine cl rfl cal76 rfl rfl (c_Sort l lo (by omega) _ _) ?_
 rintro _ _ R1 ⟨ys, lo', hsr, hof, rfl, rfl, hR1⟩
 obtain rfl := hR1.symm
 clear hR1
 rw [← hof]
 obtain ⟨m, rfl, hm⟩ := sort_trs (d := b.dsk) hsr hdi.nd (fun x hx => by
   obtain ⟨i2, j2, h1, h2, rfl⟩ := hdi.mem x hx
   have h3 := hsp.lt j2 (List.mem_of_getElem? h2)
   exact ⟨by omega, by show (j2 : Int) < (b.bins.length : Int); omega⟩) hlg
 obtain ⟨al, c7, he, hf⟩ := lo'.freeze
 rw [he, irows_len]
 refine Sy.heap (fun w h => hf h) ?_
 clear he hf
 refine sy_tx' [0, 1, 2, 3, 4] rfl ?_
 refine sp rfl (PE.move rfl) rfl ?_
 refine sp rfl (PE.move rfl) rfl ?_
 refine bsl (out := [_]) rfl sl23 zl22 rfl rfl rfl rfl rfl rfl (fun b43 => ?_)
 refine apO (o) rfl ap23 rfl rfl (rowsH (row := [.slice al (il m).length c7]) rfl) rfl rfl ((by rw [plrows_len]; simp only [List.length_singleton]; omega)) rfl (fun o44 => ?_)
 refine sp rfl (PE.assign rfl) rfl ?_
 refine sy_tx' [0, 1] rfl ?_
 refine sp rfl (PE.add rfl rfl (by omega)) rfl ?_
 refine sp rfl (PE.move rfl) rfl ?_
 exact sy_next ⟨⟨(i + 1, p ++ [m], pl ++ [⟨al, c7, il m⟩], tq4, mx4), by dsimp only; omega, by dsimp only; rw [List.length_append, List.length_singleton]; omega, by dsimp only; rw [lls_snoc, hlp, List.map_append]; rfl, fun l2 hl2 => by
   rcases List.mem_append.1 hl2 with hl2 | hl2
   · exact hpt l2 hl2
   · rw [List.mem_singleton.1 hl2]; exact hm, by dsimp only; push_cast; omega, by assumption⟩, o44.cast (by rw [plrows_app]; rfl)⟩ (by dsimp only; omega) (by repeat' first | exact Sub.nil | apply Sub.cons | rfl | (simp [lk]; omega)) (fun w h => (St.innSnoc (a := al) (c := c7) (l0 := il m) (l := pl) ((h.del b43).pull bk)).facts (fun g hg => by simp only [List.mem_cons] at hg ⊢; rcases hg with hg | hg <;> simp [hg]))
 try simp only [decide_eq_true_eq, decide_eq_false_iff_not, Bool.and_eq_true, Bool.or_eq_true, Bool.not_eq_true', Int.not_le, Int.not_lt] at hc0
 obtain rfl : i = days := by omega
 obtain ⟨ap, cp, he, hf⟩ := o.freeze
 rw [he, plrows_len]
 refine Sy.heap (H' := _) (fun w h => hf (h.perm (List.perm_middle (l₁ := o.G) (a := _)).symm)) ?_
 clear he hf
 refine sy_exit ?_
 repeat refine sy_tx ?_
 refine sy_bx ?_
 refine sy_seq ?_
 refine sy_tx' [0, 1] rfl ?_
 refine sp rfl (PE.move rfl) rfl ?_
 refine sp rfl (PE.assign rfl) rfl ?_
 refine sy_ret ?_
 exact sy_return (vs := [_]) rfl (.cons (RV.tmp rfl) .nil) rfl ⟨p, pl, ap, cp, tq2, mx2, hlp, hpl, hpt, rfl, by omega, by assumption, rfl, rfl⟩ (fun w h => h.del b4)
theorem c_classesN (b : Barn) (ab : Option Addr) (cb : Nat) (hok : b.ok) (H : Heap) (R : Facts) [hB : MemRows ab 4 (brows b.bins) R] :
    Fn Tryz.prog 17 [b.v (b.sl ab cb), .pointer none] H R (fun v H' R' => ∃ (ac : Option Addr) (cc : Nat), v = .slice ac b.bins.length cc ∧ H' = H ∧ R' = RowsA ac 1 (irows (hiL b)) :: R) := by
 have hmn := hok.many
 refine fn_of Tryz.func17 rfl Tryz.ntmps17 rfl ?_
 refine sy_seq ?_
 refine sy_tx' [0, 1] rfl ?_
 refine bx rfl rfl rfl (fun b2 => ?_)
 refine sp rfl (PE.assign rfl) rfl ?_
 refine sy_seq ?_
 refine sy_tx' [0] rfl ?_
 refine sp rfl (PE.assign rfl) rfl ?_
 refine sy_seq ?_
 refine sy_seq ?_
 refine sy_tx' [0, 1, 2, 3] rfl ?_
 refine sp rfl (PE.fieldAddr fo27_3 rfl) rfl ?_
 refine spL rfl rfl (lh sc25 rfl rfl) rfl ?_
 refine sp rfl (PE.lenSl isl25 rfl) rfl ?_
 refine sp rfl (PE.move rfl) rfl ?_
 refine sy_block ?_
 refine sy_loop (ι := (x : {k : Nat // k ≤ b.bins.length}) × OSl 3 1 (irows ((hiL b).take x.1))) (fun x => ⟨[(1, .pointer none), (2, .pointer (some ⟨b2, 0, none⟩)), (5, x.2.fs), (10, b.sl ab cb), (11, .int .i64 b.bins.length), (12, .int .i64 x.1.1)], x.2.G ++ (b2, cel 27 (btl b (b.sl ab cb))) :: H, R⟩) (fun x => b.bins.length - x.1.1) ⟨⟨0, Nat.zero_le _⟩, OSl.nil _ _⟩ ?_ (fun x => ?_)
 exact sy_at (by repeat' first | exact Sub.nil | apply Sub.cons | rfl | (simp [lk]; omega)) (fun _ h => h)
 obtain ⟨⟨k, hk⟩, o⟩ := x
 dsimp only at hk o ⊢
 refine sy_seq ?_
 refine sy_tx' [0] rfl ?_
 refine sp rfl (PE.lss rfl rfl) rfl ?_
 refine sy_seq ?_
 refine sy_cond rfl (fun hc0 => ?_) (fun hc0 => ?_)
 try simp only [decide_eq_true_eq, decide_eq_false_iff_not, Bool.and_eq_true, Bool.or_eq_true, Bool.not_eq_true', Int.not_le, Int.not_lt] at hc0
 obtain ⟨x, hx⟩ : ∃ x, b.bins[k]? = some x := ⟨_, List.getElem?_eq_getElem (by omega)⟩
 have hg : (hiL b)[k]? = some x.hi := by unfold hiL; rw [List.getElem?_map, hx]; rfl
 refine sy_addr (a := ab) (sz := 4) (rows := brows b.bins) (by intro h0; simp [brows] at h0; simp [h0] at hx) (fun ba oa he => ?_)
 subst he
 refine sy_skip ?_
 refine sy_seq ?_
 refine sy_block ?_
 refine sy_seq ?_
 refine sy_tx' [0, 1, 2, 3] rfl ?_
 refine sp rfl (PE.indexAddr el25 rfl rfl (by omega) (by omega)) rfl ?_
 refine spL rfl rfl (lfA ag40 (row := brow x) (br_get hx) rfl) rfl ?_
 refine alc rfl zl40 rfl (fun b7 => ?_)
 refine sto rfl rfl rfl cn40 rfl rfl rfl rfl ?_
 refine sy_seq ?_
 refine sy_tx' [0, 1, 2, 3] rfl ?_
 refine sp rfl (PE.fieldAddr fo40_2 rfl) rfl ?_
 refine sp rfl (PE.fieldAddr fo31_1 rfl) rfl ?_
 refine spL rfl rfl (lh sc3 rfl rfl) rfl ?_
 refine sp rfl (PE.assign rfl) rfl ?_
 refine sy_seq ?_
 refine sy_seq ?_
 refine sy_tx' [0, 1] rfl ?_
 refine sp rfl (PE.move rfl) rfl ?_
 refine sp rfl (PE.neqPtr ipt52 rfl rfl) rfl ?_
 refine sy_cond rfl (fun hc1 => ?_) (fun hc1 => ?_)
 exact absurd hc1 (by decide)
 refine sy_skip ?_
 refine sy_tx' [0, 1, 2, 3, 4] rfl ?_
 refine sp rfl (PE.move rfl) rfl ?_
 refine sp rfl (PE.move rfl) rfl ?_
 refine bsl (out := [_]) rfl sl22 zl3 rfl rfl rfl rfl rfl rfl (fun b31 => ?_)
 refine apO (o) rfl ap22 rfl rfl (rowsH (row := [.int .i64 x.hi]) rfl) rfl rfl ((by rw [irows_len, List.length_take]; simp only [List.length_singleton]; omega)) rfl (fun o32 => ?_)
 refine sp rfl (PE.assign rfl) rfl ?_
 refine sy_tx' [0, 1] rfl ?_
 refine sp rfl (PE.add rfl rfl (by omega)) rfl ?_
 refine sp rfl (PE.move rfl) rfl ?_
 exact sy_next ⟨⟨k + 1, by omega⟩, o32.cast (by rw [take_snoc hg]; simp [irows])⟩ (by dsimp only; omega) (by repeat' first | exact Sub.nil | apply Sub.cons | rfl | (simp [lk]; omega)) (fun w h => (h.del b31).del b7)
 try simp only [decide_eq_true_eq, decide_eq_false_iff_not, Bool.and_eq_true, Bool.or_eq_true, Bool.not_eq_true', Int.not_le, Int.not_lt] at hc0
 obtain rfl : k = b.bins.length := by omega
 obtain ⟨ac, cc, he, hf⟩ := o.freeze
 have hhl : (hiL b).length = b.bins.length := List.length_map _
 rw [he, irows_len, List.length_take, hhl, Nat.min_self]
 refine Sy.heap (fun w h => hf h) ?_
 clear he hf
 rw [show (hiL b).take b.bins.length = hiL b from List.take_of_length_le (by rw [hhl]; exact Nat.le_refl _)]
 refine sy_exit ?_
 repeat refine sy_tx ?_
 refine sy_bx ?_
 refine sy_seq ?_
 refine sy_tx' [0, 1] rfl ?_
 refine sp rfl (PE.move rfl) rfl ?_
 refine sp rfl (PE.assign rfl) rfl ?_
 refine sy_ret ?_
 exact sy_return (vs := [_]) rfl (.cons (RV.tmp rfl) .nil) rfl ⟨ac, cc, rfl, rfl, rfl⟩ (fun w h => h.del b2)
theorem c_classesQ (g : List Int) (ag : Option Addr) (cg bk : Nat) (hgl : g.length ≤ 9223372036854775807) (tq mx : Int) (htq : 0 ≤ tq ∧ tq ≤ 100000) (hmx : 0 ≤ mx ∧ mx ≤ 4294967295) (b : Barn) (ab : Option Addr) (cb : Nat) (hok : b.ok) (H : Heap) (R : Facts) [hG : MemRows ag 1 (urows g) R] [hB : MemRows ab 4 (brows b.bins) R] :
    Fn Tryz.prog 17 [b.v (b.sl ab cb), .pointer (some ⟨bk, 0, none⟩)] ((bk, cel 125 [.slice ag g.length cg, .int .i64 (tq), .int .u32 (mx)]) :: H) R (fun v H' R' => ∃ (qc : List Int) (ac : Option Addr) (cc : Nat) (tq' mx' : Int), Cls b qc ∧ v = .slice ac qc.length cc ∧ (tq ≤ tq' ∧ tq' ≤ tq + 4) ∧ (0 ≤ mx' ∧ mx' ≤ 4294967295) ∧ H' = (bk, cel 125 [.slice ag g.length cg, .int .i64 (tq'), .int .u32 (mx')]) :: H ∧ R' = RowsA ac 1 (irows qc) :: R) := by
 have hmn := hok.many
 refine fn_of Tryz.func17 rfl Tryz.ntmps17 rfl ?_
 refine sy_seq ?_
 refine sy_tx' [0, 1] rfl ?_
 refine bx rfl rfl rfl (fun b2 => ?_)
 refine sp rfl (PE.assign rfl) rfl ?_
 refine sy_seq ?_
 refine sy_tx' [0] rfl ?_
 refine sp rfl (PE.assign rfl) rfl ?_
 refine sy_seq ?_
 refine sy_seq ?_
 refine sy_tx' [0, 1, 2, 3] rfl ?_
 refine sp rfl (PE.fieldAddr fo27_3 rfl) rfl ?_
 refine spL rfl rfl (lh sc25 rfl rfl) rfl ?_
 refine sp rfl (PE.lenSl isl25 rfl) rfl ?_
 refine sp rfl (PE.move rfl) rfl ?_
 refine sy_block ?_
 refine sy_pull bk ?_
 refine sy_loop (ι := (x : {x : Nat × List Int × Int × Int // x.1 ≤ b.bins.length ∧ x.2.1.length = x.1 ∧ (∀ k y, k < x.1 → b.bins[k]? = some y → y.lo ≤ na x.2.1 k ∧ na x.2.1 k ≤ y.hi) ∧ (tq ≤ x.2.2.1 ∧ x.2.2.1 ≤ tq + x.1) ∧ (0 ≤ x.2.2.2 ∧ x.2.2.2 ≤ 4294967295)}) × OSl 3 1 (irows x.1.2.1)) (fun x => ⟨[(1, .pointer (some ⟨bk, 0, none⟩)), (2, .pointer (some ⟨b2, 0, none⟩)), (5, x.2.fs), (10, b.sl ab cb), (11, .int .i64 b.bins.length), (12, .int .i64 x.1.1.1)], (bk, cel 125 [.slice ag g.length cg, .int .i64 (x.1.1.2.2.1), .int .u32 (x.1.1.2.2.2)]) :: (x.2.G ++ (b2, cel 27 (btl b (b.sl ab cb))) :: H), R⟩) (fun x => b.bins.length - x.1.1.1) ⟨⟨(0, [], tq, mx), Nat.zero_le _, rfl, fun k y hk => absurd hk (Nat.not_lt_zero _), by dsimp only; omega, by assumption⟩, OSl.nil _ _⟩ ?_ (fun x => ?_)
 exact sy_at (by repeat' first | exact Sub.nil | apply Sub.cons | rfl | (simp [lk]; omega)) (fun _ h => h)
 obtain ⟨⟨⟨k, qc, tq2, mx2⟩, hk, hcl, hca, htq2, hmx2⟩, o⟩ := x
 dsimp only at hk hcl hca htq2 hmx2 o ⊢
 refine sy_seq ?_
 refine sy_tx' [0] rfl ?_
 refine sp rfl (PE.lss rfl rfl) rfl ?_
 refine sy_seq ?_
 refine sy_cond rfl (fun hc0 => ?_) (fun hc0 => ?_)
 try simp only [decide_eq_true_eq, decide_eq_false_iff_not, Bool.and_eq_true, Bool.or_eq_true, Bool.not_eq_true', Int.not_le, Int.not_lt] at hc0
 obtain ⟨x, hx⟩ : ∃ x, b.bins[k]? = some x := ⟨_, List.getElem?_eq_getElem (by omega)⟩
 have hxo := hok.bins x (List.mem_of_getElem? hx)
 have hxr := hok.ord x (List.mem_of_getElem? hx)
 refine sy_addr (a := ab) (sz := 4) (rows := brows b.bins) (by intro h0; simp [brows] at h0; simp [h0] at hx) (fun ba oa he => ?_)
 subst he
 refine sy_skip ?_
 refine sy_seq ?_
 refine sy_block ?_
 refine sy_seq ?_
 refine sy_tx' [0, 1, 2, 3] rfl ?_
 refine sp rfl (PE.indexAddr el25 rfl rfl (by omega) (by omega)) rfl ?_
 refine spL rfl rfl (lfA ag40 (row := brow x) (br_get hx) rfl) rfl ?_
 refine alc rfl zl40 rfl (fun b7 => ?_)
 refine sto rfl rfl rfl cn40 rfl rfl rfl rfl ?_
 refine sy_seq ?_
 refine sy_tx' [0, 1, 2, 3] rfl ?_
 refine sp rfl (PE.fieldAddr fo40_2 rfl) rfl ?_
 refine sp rfl (PE.fieldAddr fo31_1 rfl) rfl ?_
 refine spL rfl rfl (lh sc3 rfl rfl) rfl ?_
 refine sp rfl (PE.assign rfl) rfl ?_
 refine sy_seq ?_
 refine sy_seq ?_
 refine sy_tx' [0, 1] rfl ?_
 refine sp rfl (PE.move rfl) rfl ?_
 refine sp rfl (PE.neqPtr ipt52 rfl rfl) rfl ?_
 refine sy_cond rfl (fun hc1 => ?_) (fun hc1 => ?_)
 refine sy_tx' [0, 1, 2, 3, 4, 5, 6, 7, 8] rfl ?_
 refine sp rfl (PE.move rfl) rfl ?_
 refine sp rfl (PE.fieldAddr fo40_2 rfl) rfl ?_
 refine sp rfl (PE.fieldAddr fo31_0 rfl) rfl ?_
 refine spL rfl rfl (lh sc3 rfl rfl) rfl ?_
 refine sp rfl (PE.fieldAddr fo40_2 rfl) rfl ?_
 refine sp rfl (PE.fieldAddr fo31_1 rfl) rfl ?_
 refine spL rfl rfl (lh sc3 rfl rfl) rfl ?_
 refine sy_pull bk ?_
 refine cl rfl cal64 rfl rfl (c_Among g ag cg bk hgl _ _ (by omega) (by assumption) (x.lo) (x.hi) (by first | omega | (dsimp only; omega)) _ _) ?_
 rintro _ _ R1 ⟨x28, m28, hx28, rfl, hm28, rfl, hR1⟩
 obtain rfl := hR1.symm
 refine sp rfl (PE.assign rfl) rfl ?_
 refine sy_tx' [0, 1, 2, 3, 4] rfl ?_
 refine sp rfl (PE.move rfl) rfl ?_
 refine sp rfl (PE.move rfl) rfl ?_
 refine bsl (out := [_]) rfl sl22 zl3 rfl rfl rfl rfl rfl rfl (fun b31 => ?_)
 refine apO (o) rfl ap22 rfl rfl (rowsH (row := [.int .i64 x28]) rfl) rfl rfl ((by rw [irows_len]; simp only [List.length_singleton]; omega)) rfl (fun o32 => ?_)
 refine sp rfl (PE.assign rfl) rfl ?_
 refine sy_tx' [0, 1] rfl ?_
 refine sp rfl (PE.add rfl rfl (by omega)) rfl ?_
 refine sp rfl (PE.move rfl) rfl ?_
 exact sy_next ⟨⟨(k + 1, qc ++ [x28], tq2 + 1, m28), by dsimp only; omega, by dsimp only; rw [List.length_append, List.length_singleton]; omega, fun j y hj hy => by
   dsimp only at hj ⊢
   rw [na_snoc]
   rcases Nat.lt_or_ge j k with h1 | h1
   · rw [if_pos (by omega)]; exact hca j y h1 hy
   · obtain rfl : j = k := by omega
     rw [hx] at hy; cases hy
     rw [if_neg (by omega), if_pos hcl.symm]; omega, by dsimp only; omega, by assumption⟩, o32.cast (by simp [irows])⟩ (by dsimp only; omega) (by repeat' first | exact Sub.nil | apply Sub.cons | rfl | (simp [lk]; omega)) (fun w h => (h.del b31).del b7)
 exact absurd hc1 (by simp)
 try simp only [decide_eq_true_eq, decide_eq_false_iff_not, Bool.and_eq_true, Bool.or_eq_true, Bool.not_eq_true', Int.not_le, Int.not_lt] at hc0
 obtain rfl : k = b.bins.length := by omega
 obtain ⟨ac, cc, he, hf⟩ := o.freeze
 rw [he, irows_len]
 refine Sy.heap (H' := _) (fun w h => hf (h.perm (List.perm_middle (l₁ := o.G) (a := _)).symm)) ?_
 clear he hf
 have hcls : Cls b qc := ⟨hcl, fun k x hx => hca k x (List.getElem?_eq_some_iff.1 hx).1 hx⟩
 refine sy_exit ?_
 repeat refine sy_tx ?_
 refine sy_bx ?_
 refine sy_seq ?_
 refine sy_tx' [0, 1] rfl ?_
 refine sp rfl (PE.move rfl) rfl ?_
 refine sp rfl (PE.assign rfl) rfl ?_
 refine sy_ret ?_
 exact sy_return (vs := [_]) rfl (.cons (RV.tmp rfl) .nil) rfl ⟨qc, ac, cc, tq2, mx2, hcls, rfl, by omega, by assumption, rfl, rfl⟩ (fun w h => h.del b2)
theorem c_lburns (b : Barn) (ab : Option Addr) (cb : Nat) (hok : b.ok) (pl : List PL) (ap : Option Addr) (cp : Nat) (hpl : pl.length ≤ 9223372036854775807) (hpi : ∀ x ∈ pl, x.l.length ≤ 9223372036854775807) (qc : List Int) (ac : Option Addr) (cc : Nat) (hcl : Cls b qc) (H : Heap) (R : Facts) [hB : MemRows ab 4 (brows b.bins) R] [hP : MemRows ap 1 (plrows pl) R] [hI : MemF (Inn pl) R] [hC : MemRows ac 1 (irows qc) R] :
    FnV Tryz.prog 21 [b.v (b.sl ab cb), .slice ap pl.length cp, .slice ac qc.length cc] H R (.int .i64 (dayN (b.burnsC qc b.warms (lls pl) 0))) := by
 have hmn := hok.many
 refine fn_of Tryz.func21 rfl Tryz.ntmps21 rfl ?_
 refine sy_seq ?_
 refine sy_tx' [0, 1] rfl ?_
 refine bx rfl rfl rfl (fun b3 => ?_)
 refine sp rfl (PE.assign rfl) rfl ?_
 refine sy_seq ?_
 refine sy_tx' [0] rfl ?_
 refine sp rfl (PE.assign rfl) rfl ?_
 refine sy_seq ?_
 refine sy_seq ?_
 refine sy_tx' [0, 1, 2, 3] rfl ?_
 refine sp rfl (PE.fieldAddr fo27_3 rfl) rfl ?_
 refine spL rfl rfl (lh sc25 rfl rfl) rfl ?_
 refine sp rfl (PE.lenSl isl25 rfl) rfl ?_
 refine sp rfl (PE.move rfl) rfl ?_
 refine sy_block ?_
 refine sy_loop (ι := (x : {k : Nat // k ≤ b.bins.length}) × OSl 3 1 (irows (b.warms.take x.1))) (fun x => ⟨[(1, .slice ap pl.length cp), (2, .slice ac qc.length cc), (3, .pointer (some ⟨b3, 0, none⟩)), (7, x.2.fs), (15, b.sl ab cb), (16, .int .i64 b.bins.length), (17, .int .i64 x.1.1)], x.2.G ++ (b3, cel 27 (btl b (b.sl ab cb))) :: H, R⟩) (fun x => b.bins.length - x.1.1) ⟨⟨0, Nat.zero_le _⟩, OSl.nil _ _⟩ ?_ (fun x => ?_)
 exact sy_at (by repeat' first | exact Sub.nil | apply Sub.cons | rfl | (simp [lk]; omega)) (fun _ h => h)
 obtain ⟨⟨k, hk⟩, o⟩ := x
 dsimp only at hk o ⊢
 refine sy_seq ?_
 refine sy_tx' [0] rfl ?_
 refine sp rfl (PE.lss rfl rfl) rfl ?_
 refine sy_seq ?_
 refine sy_cond rfl (fun hc0 => ?_) (fun hc0 => ?_)
 try simp only [decide_eq_true_eq, decide_eq_false_iff_not, Bool.and_eq_true, Bool.or_eq_true, Bool.not_eq_true', Int.not_le, Int.not_lt] at hc0
 obtain ⟨x, hx⟩ : ∃ x, b.bins[k]? = some x := ⟨_, List.getElem?_eq_getElem (by omega)⟩
 have hg : b.warms[k]? = some x.warm := by unfold Barn.warms; rw [List.getElem?_map, hx]; rfl
 refine sy_addr (a := ab) (sz := 4) (rows := brows b.bins) (by intro h0; simp [brows] at h0; simp [h0] at hx) (fun ba oa he => ?_)
 subst he
 refine sy_skip ?_
 refine sy_seq ?_
 refine sy_block ?_
 refine sy_seq ?_
 refine sy_tx' [0, 1, 2, 3] rfl ?_
 refine sp rfl (PE.indexAddr el25 rfl rfl (by omega) (by omega)) rfl ?_
 refine spL rfl rfl (lfA ag40 (row := brow x) (br_get hx) rfl) rfl ?_
 refine alc rfl zl40 rfl (fun b9 => ?_)
 refine sto rfl rfl rfl cn40 rfl rfl rfl rfl ?_
 refine sy_tx' [0, 1, 2, 3, 4, 5] rfl ?_
 refine sp rfl (PE.move rfl) rfl ?_
 refine sp rfl (PE.fieldAddr fo40_0 rfl) rfl ?_
 refine spL rfl rfl (lh sc3 rfl rfl) rfl ?_
 refine bsl (out := [_]) rfl sl22 zl3 rfl rfl rfl rfl rfl rfl (fun b24 => ?_)
 refine apO (o) rfl ap22 rfl rfl (rowsH (row := [.int .i64 x.warm]) rfl) rfl rfl ((by rw [irows_len, List.length_take]; simp only [List.length_singleton]; omega)) rfl (fun o25 => ?_)
 refine sp rfl (PE.assign rfl) rfl ?_
 refine sy_tx' [0, 1] rfl ?_
 refine sp rfl (PE.add rfl rfl (by omega)) rfl ?_
 refine sp rfl (PE.move rfl) rfl ?_
 exact sy_next ⟨⟨k + 1, by omega⟩, o25.cast (by rw [take_snoc hg]; simp [irows])⟩ (by dsimp only; omega) (by repeat' first | exact Sub.nil | apply Sub.cons | rfl | (simp [lk]; omega)) (fun w h => (h.del b24).del b9)
 try simp only [decide_eq_true_eq, decide_eq_false_iff_not, Bool.and_eq_true, Bool.or_eq_true, Bool.not_eq_true', Int.not_le, Int.not_lt] at hc0
 obtain rfl : k = b.bins.length := by omega
 have hwl : b.warms.length = b.bins.length := List.length_map _
 obtain ⟨o2, e21, e22⟩ : ∃ o2 : OSl 3 1 (irows b.warms), o2.fs = o.fs ∧ o2.G = o.G := ⟨o.cast (by rw [show b.warms.take b.bins.length = b.warms from List.take_of_length_le (by rw [hwl]; exact Nat.le_refl _)]), rfl, rfl⟩
 rw [← e21]
 refine Sy.heap (fun w h => by rw [← e22] at h; exact h) ?_
 clear e21 e22
 obtain ⟨bw, cw, junk, hfs, hG, hj, hcap, hmx⟩ := o2.is.resolve_left (fun h => by have := congrArg List.length h.1; rw [irows_len, hwl] at this; simp only [List.length_nil] at this; omega)
 rw [irows_len, hwl] at hfs
 rw [show (irows b.warms).flatten = ints b.warms from irows_flat b.warms] at hG
 rw [hfs]
 refine Sy.heap (H' := (bw, cel 3 (ints b.warms ++ junk)) :: (b3, cel 27 (btl b (b.sl ab cb))) :: H) (fun w h => by rw [hG] at h; exact h) ?_
 have hw0 : ∀ k < b.bins.length, 0 ≤ na b.warms k ∧ na b.warms k ≤ 60 := fun k hk => by
   obtain ⟨x, hx⟩ : ∃ x, b.bins[k]? = some x := ⟨_, List.getElem?_eq_getElem hk⟩
   have h1 := hok.bins x (List.mem_of_getElem? hx)
   rw [Barn.warms_at hk, bin_getD hx]; omega
 refine sy_exit ?_
 repeat refine sy_tx ?_
 refine sy_bx ?_
 refine sy_seq ?_
 refine sy_seq ?_
 refine sy_tx' [0, 1, 2] rfl ?_
 refine sp rfl (PE.move rfl) rfl ?_
 refine sp rfl (PE.lenSl isl23 rfl) rfl ?_
 refine sp rfl (PE.move rfl) rfl ?_
 refine sy_block ?_
 refine sy_loop (ι := {y : Nat × List Int // y.1 ≤ pl.length ∧ b.burnsC qc b.warms (lls pl) 0 = b.burnsC qc y.2 ((lls pl).drop y.1) y.1 ∧ y.2.length = b.bins.length ∧ ∀ k < b.bins.length, 0 ≤ na y.2 k ∧ na y.2 k ≤ 60}) (fun y => ⟨[(2, .slice ac qc.length cc), (3, .pointer (some ⟨b3, 0, none⟩)), (7, .slice (some ⟨bw, 0, none⟩) b.bins.length cw), (27, .slice ap pl.length cp), (28, .int .i64 pl.length), (29, .int .i64 y.1.1)], (bw, cel 3 (ints y.1.2 ++ junk)) :: (b3, cel 27 (btl b (b.sl ab cb))) :: H, R⟩) (fun y => pl.length - y.1.1) ⟨(0, b.warms), Nat.zero_le _, rfl, hwl, hw0⟩ ?_ (fun y => ?_)
 exact sy_at (by repeat' first | exact Sub.nil | apply Sub.cons | rfl | (simp [lk]; omega)) (fun _ h => h)
 obtain ⟨⟨d, ws⟩, hd, hbe, hws, hwb⟩ := y
 dsimp only at hd hbe hws hwb ⊢
 refine sy_seq ?_
 refine sy_tx' [0] rfl ?_
 refine sp rfl (PE.lss rfl rfl) rfl ?_
 refine sy_seq ?_
 refine sy_cond rfl (fun hc1 => ?_) (fun hc1 => ?_)
 try simp only [decide_eq_true_eq, decide_eq_false_iff_not, Bool.and_eq_true, Bool.or_eq_true, Bool.not_eq_true', Int.not_le, Int.not_lt] at hc1
 obtain ⟨x, hx⟩ : ∃ x, pl[d]? = some x := ⟨_, List.getElem?_eq_getElem (by omega)⟩
 have hxm := List.mem_of_getElem? hx
 have hxl := hpi x hxm
 refine sy_addr (a := ap) (sz := 1) (rows := plrows pl) (by intro h0; have := congrArg List.length h0; rw [plrows_len] at this; simp only [List.length_nil] at this; omega) (fun bp op he => ?_)
 subst he
 refine Sy.heap (fun w h => St.inn (x := x) h hxm) ?_
 refine sy_skip ?_
 refine sy_seq ?_
 refine sy_block ?_
 refine sy_seq ?_
 refine sy_tx' [0, 1, 2, 3, 4] rfl ?_
 refine sp rfl (PE.move rfl) rfl ?_
 refine sp rfl (PE.indexAddr el23 rfl rfl (by omega) (by omega)) rfl ?_
 refine spL rfl rfl (lf0 sc22 (pl_get hx) rfl) rfl ?_
 refine sp rfl (PE.assign rfl) rfl ?_
 refine sp rfl (PE.assign rfl) rfl ?_
 refine sy_seq ?_
 refine sy_tx' [0, 1, 2, 3] rfl ?_
 refine sp rfl (PE.fieldAddr fo27_3 rfl) rfl ?_
 refine spL rfl rfl (lh sc25 rfl rfl) rfl ?_
 refine sp rfl (PE.lenSl isl25 rfl) rfl ?_
 refine sp rfl (PE.move rfl) rfl ?_
 refine sy_block ?_
 refine sy_loop (ι := {k : Nat // k ≤ b.bins.length ∧ ∀ j < k, b.hotC qc ws x.l j = false}) (fun k => ⟨[(2, .slice ac qc.length cc), (3, .pointer (some ⟨b3, 0, none⟩)), (7, .slice (some ⟨bw, 0, none⟩) b.bins.length cw), (27, .slice (some ⟨bp, op, none⟩) pl.length cp), (28, .int .i64 pl.length), (29, .int .i64 d), (10, .int .i64 d), (11, .slice x.a x.l.length x.c), (35, b.sl ab cb), (36, .int .i64 b.bins.length), (37, .int .i64 k.1)], (bw, cel 3 (ints ((b.dayC qc ws x.l).take k.1 ++ ws.drop k.1) ++ junk)) :: (b3, cel 27 (btl b (b.sl ab cb))) :: H, RowsA x.a 1 (irows x.l) :: R⟩) (fun k => b.bins.length - k.1) ⟨0, Nat.zero_le _, fun j hj => absurd hj (Nat.not_lt_zero _)⟩ ?_ (fun k => ?_)
 exact sy_at (by repeat' first | exact Sub.nil | apply Sub.cons | rfl | (simp [lk]; omega)) (fun w h => by dsimp only; rw [take_drop_zero]; exact h)
 obtain ⟨k, hk, hno⟩ := k
 dsimp only at hk hno ⊢
 refine sy_seq ?_
 refine sy_tx' [0] rfl ?_
 refine sp rfl (PE.lss rfl rfl) rfl ?_
 refine sy_seq ?_
 refine sy_cond rfl (fun hc2 => ?_) (fun hc2 => ?_)
 try simp only [decide_eq_true_eq, decide_eq_false_iff_not, Bool.and_eq_true, Bool.or_eq_true, Bool.not_eq_true', Int.not_le, Int.not_lt] at hc2
 obtain ⟨z, hz⟩ : ∃ z, b.bins[k]? = some z := ⟨_, List.getElem?_eq_getElem (by omega)⟩
 have hzo := hok.bins z (List.mem_of_getElem? hz)
 have hcz := hcl.at_ k z hz
 have hcll := hcl.len
 have hwk := hwb k (by omega)
 have hcool := hok.cool
 have hrk := na_rise hok (na qc k).toNat
 have hdl := b.dayC_len qc ws x.l
 have hml : ((b.dayC qc ws x.l).take k ++ ws.drop k).length = b.bins.length := by rw [List.length_append, List.length_take, List.length_drop, hdl]; omega
 have hmk : ((b.dayC qc ws x.l).take k ++ ws.drop k)[k]? = some (na ws k) := by
   rw [List.getElem?_append_right (by rw [List.length_take, hdl]; omega), List.length_take, hdl, show k - min k b.bins.length = 0 by omega, List.getElem?_drop]
   exact na_get (by omega)
 have hms : ((b.dayC qc ws x.l).take k ++ ws.drop k).set k (b.wdC qc ws x.l k) = ((b.dayC qc ws x.l).take (k + 1) ++ ws.drop (k + 1)) := set_take (by rw [hdl]; exact hws) (b.dayC_at (by omega))
 have hwd : b.wdC qc ws x.l k = (bif hasI x.l k then min (na ws k) b.cool else na ws k) + na b.rise (na qc k).toNat := rfl
 have hht : 0 ≤ (bif hasI x.l k then min (na ws k) b.cool else na ws k) ∧ (bif hasI x.l k then min (na ws k) b.cool else na ws k) ≤ 60 := by cases hasI x.l k <;> simp only [cond_true, cond_false] <;> omega
 refine sy_addr (a := ab) (sz := 4) (rows := brows b.bins) (by intro h0; simp [brows] at h0; simp [h0] at hz) (fun ba oa he => ?_)
 subst he
 refine sy_addr (a := ac) (sz := 1) (rows := irows qc) (by intro h0; have := congrArg List.length h0; rw [irows_len] at this; simp only [List.length_nil] at this; omega) (fun bc oc he => ?_)
 subst he
 refine sy_skip ?_
 refine sy_seq ?_
 refine sy_block ?_
 refine sy_seq ?_
 refine sy_tx' [0, 1, 2, 3, 4, 5] rfl ?_
 refine sp rfl (PE.move rfl) rfl ?_
 refine sp rfl (PE.indexAddr el25 rfl rfl (by omega) (by omega)) rfl ?_
 refine spL rfl rfl (lfA ag40 (row := brow z) (br_get hz) rfl) rfl ?_
 refine alc rfl zl40 rfl (fun b13 => ?_)
 refine sp rfl (PE.assign rfl) rfl ?_
 refine sto rfl rfl rfl cn40 rfl rfl rfl rfl ?_
 refine sy_seq ?_
 refine sy_seq ?_
 refine sy_tx' [0, 1, 2] rfl ?_
 refine sp rfl (PE.move rfl) rfl ?_
 refine sp rfl (PE.move rfl) rfl ?_
 refine clV rfl cal70 rfl rfl (c_contains_int x.l x.a x.c k hxl _ _) ?_
 refine sy_join (ι := Unit) (fun _ => ⟨[(2, .slice (some ⟨bc, oc, none⟩) qc.length cc), (3, .pointer (some ⟨b3, 0, none⟩)), (7, .slice (some ⟨bw, 0, none⟩) b.bins.length cw), (27, .slice (some ⟨bp, op, none⟩) pl.length cp), (28, .int .i64 pl.length), (29, .int .i64 d), (10, .int .i64 d), (11, .slice x.a x.l.length x.c), (35, b.sl (some ⟨ba, oa, none⟩) cb), (36, .int .i64 b.bins.length), (37, .int .i64 k), (12, .int .i64 k), (13, .pointer (some ⟨b13, 0, none⟩))], (b13, cel 40 (brow z)) :: (bw, cel 3 (ints (((b.dayC qc ws x.l).take k ++ ws.drop k).set k (bif hasI x.l k then min (na ws k) b.cool else na ws k)) ++ junk)) :: (b3, cel 27 (btl b (b.sl (some ⟨ba, oa, none⟩) cb))) :: H, RowsA x.a 1 (irows x.l) :: R⟩) ?_ ?_
 refine sy_cond rfl (fun hc3 => ?_) (fun hc3 => ?_)
 have hhi : hasI x.l k = true := hc3
 refine sy_draw [0, 0, 0, 0, 12, 28, 0, 64, 252, 511, 1023] (.tk 0 (.tk 1 (.tk 2 (.tk 3 (.tk 4 (.ld 5 (.tk 6 (.ld 7 (.tk 8 (.tk 9 (.big 10 .done))))))))))) mixed (by kernel_rfl) ?_
 refine tk rfl (PE.move rfl) rfl ?_
 refine tk rfl (PE.move rfl) rfl ?_
 refine tk rfl (PE.move rfl) rfl ?_
 refine tk rfl (PE.move rfl) rfl ?_
 refine tk rfl (PE.indexAddr el22 rfl rfl (by omega) (by omega)) rfl ?_
 refine ld rfl rfl (lh sc3 rfl (get_junk hmk (by show 0 + ((k : Nat) : Int).toNat * 1 = k; omega))) rfl ?_
 refine tk rfl (PE.fieldAddr fo27_0 rfl) rfl ?_
 refine ld rfl rfl (lh sc3 rfl rfl) rfl ?_
 refine tk rfl (PE.min rfl rfl) rfl ?_
 refine tk rfl (PE.indexAddr el22 rfl rfl (by omega) (by omega)) rfl ?_
 refine stoE (l' := ints (((b.dayC qc ws x.l).take k ++ ws.drop k).set k (min (na ws k) b.cool)) ++ junk) rfl rfl rfl cn3 rfl rfl rfl (spl_junk (by omega) (by show 0 + ((k : Nat) : Int).toNat * 1 = k; omega)) (by rw [List.length_append, ints_length]; show 0 + ((k : Nat) : Int).toNat * 1 + 1 ≤ _; omega) ?_
 refine bg (fun w hs => ⟨trivial, trivial, trivial⟩) ?_
 first | exact sy_jend () (by repeat' first | exact Sub.nil | apply Sub.cons | rfl | (simp [lk]; omega)) (fun w h => by dsimp only; rw [hhi, cond_true]; exact h) | exact sy_jend () (by repeat' first | exact Sub.nil | apply Sub.cons | rfl | (simp [lk]; omega)) (fun w h => by dsimp only; rw [hhi, cond_false, set_same hmk]; exact h)
 have hhi : hasI x.l k = false := hc3
 refine sy_skip ?_
 first | exact sy_jend () (by repeat' first | exact Sub.nil | apply Sub.cons | rfl | (simp [lk]; omega)) (fun w h => by dsimp only; rw [hhi, cond_true]; exact h) | exact sy_jend () (by repeat' first | exact Sub.nil | apply Sub.cons | rfl | (simp [lk]; omega)) (fun w h => by dsimp only; rw [hhi, cond_false, set_same hmk]; exact h)
 rintro ⟨⟩
 refine sy_seq ?_
 refine sy_draw [0, 0, 3, 7, 0, 0, 48, 112, 0, 496, 1008, 2047, 4095, 8191] (.tk 0 (.tk 1 (.tk 2 (.ld 3 (.tk 4 (.tk 5 (.tk 6 (.ld 7 (.tk 8 (.tk 9 (.ld 10 (.tk 11 (.tk 12 (.big 13 .done)))))))))))))) mixed (by kernel_rfl) ?_
 refine tk rfl (PE.move rfl) rfl ?_
 refine tk rfl (PE.move rfl) rfl ?_
 refine tk rfl (PE.indexAddr el22 rfl rfl (by omega) (by omega)) rfl ?_
 refine ld rfl rfl (lh sc3 rfl (get_junk (l := ((b.dayC qc ws x.l).take k ++ ws.drop k).set k (bif hasI x.l k then min (na ws k) b.cool else na ws k)) (v := bif hasI x.l k then min (na ws k) b.cool else na ws k) (List.getElem?_set_self (by omega)) (by show 0 + ((k : Nat) : Int).toNat * 1 = k; omega))) rfl ?_
 refine tk rfl (PE.move rfl) rfl ?_
 refine tk rfl (PE.move rfl) rfl ?_
 refine tk rfl (PE.indexAddr el22 rfl rfl (by omega) (by omega)) rfl ?_
 refine ld rfl rfl (lf0 sc3 (ir_get (na_get (l := qc) (k := k) (by omega))) rfl) rfl ?_
 refine tk rfl (PE.fieldAddr fo27_2 rfl) rfl ?_
 refine tk rfl (PE.indexArr ar24 rfl rfl (by omega) (by omega)) rfl ?_
 refine ld rfl rfl (lh sc3 rfl (btl_cls (by omega))) rfl ?_
 refine tk rfl (PE.add rfl rfl (by omega)) rfl ?_
 refine tk rfl (PE.indexAddr el22 rfl rfl (by omega) (by omega)) rfl ?_
 refine stoE (l' := ints ((b.dayC qc ws x.l).take (k + 1) ++ ws.drop (k + 1)) ++ junk) rfl rfl rfl cn3 rfl rfl rfl ((spl_junk (l := ((b.dayC qc ws x.l).take k ++ ws.drop k).set k (bif hasI x.l k then min (na ws k) b.cool else na ws k)) (k := k) (by rw [List.length_set]; omega) (by show 0 + ((k : Nat) : Int).toNat * 1 = k; omega)).trans (by rw [List.set_set, ← hwd, hms])) (by rw [List.length_append, ints_length, List.length_set]; show 0 + ((k : Nat) : Int).toNat * 1 + 1 ≤ _; omega) ?_
 refine bg (fun w hs => ⟨trivial, trivial, trivial, trivial⟩) ?_
 refine sy_seq ?_
 refine sy_draw [0, 0, 3, 7, 0, 16, 63] (.tk 0 (.tk 1 (.tk 2 (.ld 3 (.tk 4 (.ld 5 (.tk 6 .done))))))) mixed (by kernel_rfl) ?_
 refine tk rfl (PE.move rfl) rfl ?_
 refine tk rfl (PE.move rfl) rfl ?_
 refine tk rfl (PE.indexAddr el22 rfl rfl (by omega) (by omega)) rfl ?_
 refine ld rfl rfl (lh sc3 rfl (get_junk (l := ((b.dayC qc ws x.l).take (k + 1) ++ ws.drop (k + 1))) (v := b.wdC qc ws x.l k) (by rw [← hms]; exact List.getElem?_set_self (by omega)) (by show 0 + ((k : Nat) : Int).toNat * 1 = k; omega))) rfl ?_
 refine tk rfl (PE.fieldAddr fo40_1 rfl) rfl ?_
 refine ld rfl rfl (lh sc3 rfl rfl) rfl ?_
 refine tk rfl (PE.gtr rfl rfl) rfl ?_
 refine sy_cond rfl (fun hc4 => ?_) (fun hc4 => ?_)
 try simp only [decide_eq_true_eq, decide_eq_false_iff_not, Bool.and_eq_true, Bool.or_eq_true, Bool.not_eq_true', Int.not_le, Int.not_lt] at hc4
 have hhot : b.hotC qc ws x.l k = true := by unfold Barn.hotC; rw [bin_getD hz]; exact decide_eq_true hc4
 have hfin := hbe.trans (burnsC_hit (lls_get hx) (show k < b.bins.length by omega) hhot)
 refine sy_seq ?_
 refine sy_tx' [0, 1] rfl ?_
 refine sp rfl (PE.move rfl) rfl ?_
 refine sp rfl (PE.assign rfl) rfl ?_
 refine sy_ret ?_
 exact sy_return (vs := [_]) rfl (.cons (RV.tmp rfl) .nil) rfl ⟨by rw [hfin]; rfl, rfl, rfl⟩ (fun w h => (((h.del b13).del bw).del b3).facts (fun g hg => by simp [hg]))
 try simp only [decide_eq_true_eq, decide_eq_false_iff_not, Bool.and_eq_true, Bool.or_eq_true, Bool.not_eq_true', Int.not_le, Int.not_lt] at hc4
 have hcold : b.hotC qc ws x.l k = false := by unfold Barn.hotC; rw [bin_getD hz]; exact decide_eq_false (by omega)
 refine sy_skip ?_
 refine sy_tx' [0, 1] rfl ?_
 refine sp rfl (PE.add rfl rfl (by omega)) rfl ?_
 refine sp rfl (PE.move rfl) rfl ?_
 exact sy_next ⟨k + 1, by omega, fun j hj => by
   rcases Nat.lt_or_ge j k with h1 | h1
   · exact hno j h1
   · obtain rfl : j = k := by omega
     exact hcold⟩ (by dsimp only; omega) (by repeat' first | exact Sub.nil | apply Sub.cons | rfl | (simp [lk]; omega)) (fun w h => h.del b13)
 try simp only [decide_eq_true_eq, decide_eq_false_iff_not, Bool.and_eq_true, Bool.or_eq_true, Bool.not_eq_true', Int.not_le, Int.not_lt] at hc2
 obtain rfl : k = b.bins.length := by omega
 have hdl := b.dayC_len qc ws x.l
 rw [show ((b.dayC qc ws x.l).take b.bins.length ++ ws.drop b.bins.length) = b.dayC qc ws x.l by rw [← hws, List.drop_length, List.append_nil, List.take_of_length_le (by rw [hdl, hws]; exact Nat.le_refl _)]]
 refine sy_exit ?_
 repeat refine sy_tx ?_
 refine sy_bx ?_
 refine sy_tx' [0, 1] rfl ?_
 refine sp rfl (PE.add rfl rfl (by omega)) rfl ?_
 refine sp rfl (PE.move rfl) rfl ?_
 exact sy_next ⟨(d + 1, b.dayC qc ws x.l), by dsimp only; omega, hbe.trans (burnsC_pass (lls_get hx) hno), hdl, fun k hk => by
   obtain ⟨z, hz⟩ : ∃ z, b.bins[k]? = some z := ⟨_, List.getElem?_eq_getElem hk⟩
   have h1 := of_decide_eq_false (hno k hk)
   rw [bin_getD hz] at h1
   have h2 := hwb k hk
   have h3 := na_rise hok (na qc k).toNat
   have h4 := hok.bins z (List.mem_of_getElem? hz)
   have h5 := hok.cool
   dsimp only
   rw [na_at (b.dayC_at hk)]
   have h6 : b.wdC qc ws x.l k = (bif hasI x.l k then min (na ws k) b.cool else na ws k) + na b.rise (na qc k).toNat := rfl
   cases h7 : hasI x.l k <;> rw [h7] at h6 <;> simp only [cond_true, cond_false] at h6 <;> omega⟩ (by dsimp only; omega) (by repeat' first | exact Sub.nil | apply Sub.cons | rfl | (simp [lk]; omega)) (fun w h => h.ftail)
 try simp only [decide_eq_true_eq, decide_eq_false_iff_not, Bool.and_eq_true, Bool.or_eq_true, Bool.not_eq_true', Int.not_le, Int.not_lt] at hc1
 obtain rfl : d = pl.length := by omega
 have hfin : b.burnsC qc b.warms (lls pl) 0 = none := by rw [hbe, show (lls pl).drop pl.length = [] by rw [List.drop_eq_nil_iff, lls_len]; exact Nat.le_refl _]; rfl
 refine sy_exit ?_
 repeat refine sy_tx ?_
 refine sy_bx ?_
 refine sy_seq ?_
 refine sy_tx' [0] rfl ?_
 refine sp rfl (PE.assign rfl) rfl ?_
 refine sy_ret ?_
 exact sy_return (vs := [_]) rfl (.cons (RV.tmp rfl) .nil) rfl ⟨by rw [hfin]; rfl, rfl, rfl⟩ (fun w h => ((h.del bw).del b3).facts (fun g hg => by simp [hg]))
end Go.Proofs.YtelegnmfhjfbaaaGreat
namespace Go.Proofs.YtelegnmfhjfbaaaGreat
set_option linter.unusedSimpArgs false
set_option linter.unusedVariables false
open Go
theorem planned_of {b : Barn} (hck : b.check = 0) {p : List (List Nat)} (hl : p.length ≤ 20000) (h : ∀ l ∈ p, l ∈ b.dsk.trs false) : b.planned (p.map il) = 0 := by
  unfold Barn.planned
  rw [decide_eq_true hck, cond_true]
  exact plan_of_trs (d := b.dsk) hl h
end Go.Proofs.YtelegnmfhjfbaaaGreat
namespace Go.Proofs.YtelegnmfhjfbaaaGreat
set_option linter.unusedSimpArgs false
set_option linter.unusedVariables false
open Go
theorem burnsC_hi {b : Barn} (p : List (List Int)) : dayN (b.burnsC (hiL b) b.warms p 0) = bif (brnQ b p).2.2 then ((brnQ b p).1 : Int) else -1 := by
  rw [burnsC_worst (fun k hk => hiL_worst k hk)]
  rcases brn_cases b p with ⟨ws, h1, h2⟩ | ⟨d, k, ws, h1, h2⟩ <;> rw [h1, h2] <;> rfl
theorem brn_hot {b : Barn} {p : List (List Int)} {d k : Nat} {ws : List Int} (h : b.burnsF b.warms p 0 = (some (d, k), ws)) : k < b.bins.length ∧ d < p.length ∧ ∀ x, b.bins[k]? = some x → x.mark < wst b.cool (b.worst x) k x.warm (p.take (d + 1)) := by
  rcases b.burns_spec p b.warms 0 with ⟨h1, _⟩ | ⟨k', e, h1, h2, h3, h4, _⟩
  · rw [h] at h1; cases h1
  · rw [h] at h1
    cases h1
    rw [Nat.zero_add]
    refine ⟨h2, h3, fun x hx => ?_⟩
    unfold hotW at h4
    rw [Barn.warms_at h2, show b.binD k = x from bin_getD hx, bin_getD hx] at h4
    exact h4
theorem c_LongestX (b : Barn) (ab : Option Addr) (cb : Nat) (hl : b.bins.length ≤ 9223372036854775807) (hr : b.rise.length = 6) (hck : b.check = 0) (H : Heap) (R : Facts) [hB : MemRows ab 4 (brows b.bins) R] : Fn Tryz.prog 15 [b.v (b.sl ab cb)] H R (fun v H' R' => (∃ m, Kpt b.dsk b.state m ∧ v = .tuple #[.int .i64 m, .int .i64 0]) ∧ H' = H ∧ R' = R) := fun w hw => by
  refine CallsIn.mono (c_Longest b ab cb hl hr H R w hw) ?_
  rintro e' w' ⟨u, H', R', ⟨h1, h2, h3⟩, he, hs'⟩
  refine ⟨u, H', R', ⟨?_, h2, h3⟩, he, hs'⟩
  rcases h1 with ⟨h, _⟩ | ⟨_, m, hm, rfl⟩
  · exact absurd hck h
  · exact ⟨m, hm, rfl⟩
end Go.Proofs.YtelegnmfhjfbaaaGreat
namespace Go.Proofs.YtelegnmfhjfbaaaGreat
set_option linter.unusedSimpArgs false
set_option linter.unusedVariables false
open Go
theorem brn_b {b : Barn} {p : List (List Int)} : (brnQ b p).2.2 = decide ((b.burnsF b.warms p 0).1 ≠ none) := by
  rcases brn_cases b p with ⟨ws, h1, h2⟩ | ⟨d, k, ws, h1, h2⟩ <;> rw [h1, h2] <;> simp
theorem PlnOk.cold {b : Barn} (hok : b.ok) {n c : Nat} {p : List (List Nat)} (h : PlnOk b n c p) : (brnQ b (p.map il)).2.2 = false := by
  obtain ⟨t, ht⟩ := h.run
  rw [brn_iff]
  rcases Barn.run_burns hok p b.warms 0 (Cool.start hok) (fun l hl => b.dsk.trs_lt (h.trs l hl)) with ⟨ws, h3, _⟩ | ⟨x, ws, _, h4⟩
  · rw [h3]
  · rw [Barn.stw_warms hok, ht] at h4; cases h4
theorem c_DupRowsO (pl : List PL) (ap : Option Addr) (cp : Nat) (hpl : pl.length ≤ 1000000) (hpi : ∀ x ∈ pl, x.l.length ≤ 1000000) (H : Heap) (R : Facts) [hP : MemRows ap 1 (plrows pl) R] [hI : MemF (Inn pl) R] :
    Fn Tryz.prog 20 [.slice ap pl.length cp] H R (fun v H' R' => ∃ (ql : List PL) (o : OSl 22 1 (plrows ql)), lls ql = lls pl ∧ v = o.fs ∧ H' = o.G ++ H ∧ R' = Inn ql :: R) := by
 refine fn_of Tryz.func20 rfl Tryz.ntmps20 rfl ?_
 refine sy_seq ?_
 refine sy_tx' [0] rfl ?_
 refine sp rfl (PE.assign rfl) rfl ?_
 refine sy_seq ?_
 refine sy_tx' [0, 1, 2, 3] rfl ?_
 refine sp rfl (PE.move rfl) rfl ?_
 refine sp rfl (PE.lenSl isl23 rfl) rfl ?_
 refine mkS rfl ap23 zl22 rfl rfl (Nat.le_refl _) ⟨by omega, by omega⟩ rfl (fun b8 => ?_)
 refine Sy.heap (H' := (b8, cel 22 (pgap [] pl.length)) :: H) (R' := Inn [] :: R) (fun w h => St.inn0 (by rw [← flat_repl] at h; exact h)) ?_
 refine sp rfl (PE.assign rfl) rfl ?_
 refine sy_seq ?_
 refine sy_seq ?_
 refine sy_tx' [0, 1, 2] rfl ?_
 refine sp rfl (PE.move rfl) rfl ?_
 refine sp rfl (PE.lenSl isl23 rfl) rfl ?_
 refine sp rfl (PE.move rfl) rfl ?_
 refine sy_block ?_
 refine sy_loop (ι := {q : List PL // q.length ≤ pl.length ∧ lls q = (lls pl).take q.length}) (fun q => ⟨[(3, .slice (some ⟨b8, 0, none⟩) pl.length pl.length), (9, .slice ap pl.length cp), (10, .int .i64 pl.length), (11, .int .i64 q.1.length)], (b8, cel 22 (pgap q.1 (pl.length - q.1.length))) :: H, Inn q.1 :: R⟩) (fun q => pl.length - q.1.length) ⟨[], Nat.zero_le _, rfl⟩ ?_ (fun q => ?_)
 exact sy_at (by repeat' first | exact Sub.nil | apply Sub.cons | rfl | (simp [lk]; omega)) (fun _ h => h)
 obtain ⟨q, hq, hqe⟩ := q
 dsimp only at hq hqe ⊢
 refine sy_seq ?_
 refine sy_tx' [0] rfl ?_
 refine sp rfl (PE.lss rfl rfl) rfl ?_
 refine sy_seq ?_
 refine sy_cond rfl (fun hc0 => ?_) (fun hc0 => ?_)
 try simp only [decide_eq_true_eq, decide_eq_false_iff_not, Bool.and_eq_true, Bool.or_eq_true, Bool.not_eq_true', Int.not_le, Int.not_lt] at hc0
 obtain ⟨x, hx⟩ : ∃ x, pl[q.length]? = some x := ⟨_, List.getElem?_eq_getElem (by omega)⟩
 have hxm := List.mem_of_getElem? hx
 have hxl := hpi x hxm
 refine sy_addr (a := ap) (sz := 1) (rows := plrows pl) (by intro h0; have := congrArg List.length h0; rw [plrows_len] at this; simp only [List.length_nil] at this; omega) (fun ba oa he => ?_)
 subst he
 refine Sy.heap (fun w h => St.inn (x := x) h hxm) ?_
 refine sy_skip ?_
 refine sy_seq ?_
 refine sy_block ?_
 refine sy_seq ?_
 refine sy_tx' [0, 1, 2, 3, 4] rfl ?_
 refine sp rfl (PE.move rfl) rfl ?_
 refine sp rfl (PE.indexAddr el23 rfl rfl (by omega) (by omega)) rfl ?_
 refine spL rfl rfl (lf0 sc22 (pl_get hx) rfl) rfl ?_
 refine sp rfl (PE.assign rfl) rfl ?_
 refine sp rfl (PE.assign rfl) rfl ?_
 refine sy_tx' [0, 1, 2, 3, 4, 5] rfl ?_
 refine sp rfl (PE.move rfl) rfl ?_
 refine sp rfl (PE.move rfl) rfl ?_
 refine sp rfl (PE.move rfl) rfl ?_
 refine cl rfl cal69 rfl rfl (c_dup_int x.l x.a x.c hxl _ _) ?_
 rintro _ _ _ ⟨o, rfl, ho, rfl, rfl⟩
 obtain ⟨ax, cx, he, hf⟩ := o.freeze
 rw [he, irows_len]
 refine Sy.heap (fun w h => hf h) ?_
 clear he hf
 refine sp rfl (PE.indexAddr el23 rfl rfl (by omega) (by omega)) rfl ?_
 refine stoE (l' := pgap (q ++ [⟨ax, cx, x.l⟩]) (pl.length - (q.length + 1))) rfl rfl rfl cn22 rfl rfl rfl (by rw [show pl.length - q.length = (pl.length - (q.length + 1)) + 1 by omega]; exact pgap_put q _ ⟨ax, cx, x.l⟩ (by show 0 + ((q.length : Nat) : Int).toNat * 1 = _; omega)) (by rw [pgap_len]; show 0 + ((q.length : Nat) : Int).toNat * 1 + 1 ≤ _; omega) ?_
 refine sy_tx' [0, 1] rfl ?_
 refine sp rfl (PE.add rfl rfl (by omega)) rfl ?_
 refine sp rfl (PE.move rfl) rfl ?_
 exact sy_next ⟨q ++ [⟨ax, cx, x.l⟩], by rw [List.length_append, List.length_singleton]; omega, by rw [List.length_append, List.length_singleton, take_snoc (lls_get hx), ← hqe]; simp [lls]⟩ (by dsimp only; rw [List.length_append, List.length_singleton]; omega) (by dsimp only; rw [List.length_append, List.length_singleton]; exact (by repeat' first | exact Sub.nil | apply Sub.cons | rfl | (simp [lk]; omega))) (fun w h => by dsimp only; rw [List.length_append, List.length_singleton]; exact (St.innSnoc (a := ax) (c := cx) (l0 := x.l) (l := q) h).facts (fun g hg => by rcases List.mem_cons.1 hg with h3 | h3 <;> simp [h3]))
 try simp only [decide_eq_true_eq, decide_eq_false_iff_not, Bool.and_eq_true, Bool.or_eq_true, Bool.not_eq_true', Int.not_le, Int.not_lt] at hc0
 have hql : q.length = pl.length := by omega
 rw [hql, List.take_of_length_le (by rw [lls_len]; exact Nat.le_refl _)] at hqe
 refine Sy.heap (H' := (b8, cel 22 ((plrows q).flatten ++ [])) :: H) (fun w h => by rw [hql, Nat.sub_self] at h; exact h) ?_
 obtain ⟨o, ho, hG⟩ : ∃ o : OSl 22 1 (plrows q), o.fs = .slice (some ⟨b8, 0, none⟩) pl.length pl.length ∧ o.G = [(b8, cel 22 ((plrows q).flatten ++ []))] := ⟨⟨_, _, plr_one q, .inr ⟨b8, pl.length, [], by rw [plrows_len, hql], rfl, by rw [plrows_len, hql]; rfl, by rw [plrows_len, hql]; exact Nat.le_refl _, by omega⟩⟩, rfl, rfl⟩
 rw [← ho]
 refine Sy.heap (fun w h => by rw [show (b8, cel 22 ((plrows q).flatten ++ [])) :: H = o.G ++ H by rw [hG]; rfl] at h; exact h) ?_
 refine sy_exit ?_
 repeat refine sy_tx ?_
 refine sy_bx ?_
 refine sy_seq ?_
 refine sy_tx' [0, 1] rfl ?_
 refine sp rfl (PE.move rfl) rfl ?_
 refine sp rfl (PE.assign rfl) rfl ?_
 refine sy_ret ?_
 exact sy_return (vs := [_]) rfl (.cons (RV.tmp rfl) .nil) rfl ⟨q, o, hqe, rfl, rfl, rfl⟩ (fun _ h => h)
theorem c_PlanX (b : Barn) (ab : Option Addr) (cb : Nat) (hl : b.bins.length ≤ 9223372036854775807) (hr : b.rise.length = 6) (hok : b.ok) (hck : b.check = 0) {n : Nat} (hn : n ≤ 20) (hx : ∃ t c, b.dsk.pth n b.state t c) (H : Heap) (R : Facts) [hB : MemRows ab 4 (brows b.bins) R] : Fn Tryz.prog 8 [b.v (b.sl ab cb), .int .i64 n] H R (fun v H' R' => ∃ (c : Nat) (p : List (List Nat)) (pl : List PL) (ap : Option Addr) (cp : Nat), PlnOk b n c p ∧ lls pl = p.map il ∧ v = .tuple #[.slice ap pl.length cp, .int .i64 0] ∧ H' = H ∧ R' = RowsA ap 1 (plrows pl) :: Inn pl :: R) := fun w hw => by
  refine CallsIn.mono (c_Plan b ab cb hl hr n H R w hw) ?_
  rintro e' w' ⟨u, H', R', ⟨rfl, hq⟩, he, hs'⟩
  refine ⟨u, _, R', ?_, he, hs'⟩
  rcases plan_facts hok hck hn with ⟨_, _, h⟩ | ⟨c, p, h1, h2, h3, h4⟩
  · exact absurd hx h
  · rcases hq with ⟨h5, _⟩ | ⟨_, pl, bp, h5, rfl, rfl⟩
    · exact absurd h1 h5
    · rw [h3] at h5
      have hpl : pl.length = n := by have := congrArg List.length h5; rw [lls_len, List.length_map, h4.len] at this; exact this
      exact ⟨c, p, pl, some ⟨bp, 0, none⟩, n, h4, h5, by rw [Int.toNat_natCast, hpl], rfl, rfl⟩
end Go.Proofs.YtelegnmfhjfbaaaGreat
namespace Go.Proofs.YtelegnmfhjfbaaaGreat
set_option linter.unusedSimpArgs false
set_option linter.unusedVariables false
open Go
structure NoW (b b' : Barn) : Prop where
  ok : b'.ok
  check : b'.check = 0
  les : Les b.dsk b'.dsk
  st : ∀ k < b.dsk.n, na b.state k ≤ na b'.state k
theorem NoW.kpt {b b' : Barn} (h : NoW b b') (hok : b.ok) {v v' : Int} (hv : Kpt b.dsk b.state v) (hv' : Kpt b'.dsk b'.state v') : v ≤ v' :=
  (h.les.kpt (b.dsk_ok hok) (b'.dsk_ok h.ok) (b.state_inS hok) (b'.state_inS h.ok) h.st hv hv').1
theorem c_PlanY (b : Barn) (ab : Option Addr) (cb : Nat) (hl : b.bins.length ≤ 9223372036854775807) (hr : b.rise.length = 6) (hok : b.ok) (hck : b.check = 0) (n : Nat) (hn : n ≤ 20) (H : Heap) (R : Facts) [hB : MemRows ab 4 (brows b.bins) R] : Fn Tryz.prog 8 [b.v (b.sl ab cb), .int .i64 n] H R (fun v H' R' => ∃ (pl : List PL) (ap : Option Addr) (cp : Nat), pl.length ≤ cp ∧ ((planE b n = 6 ∧ pl = [] ∧ ¬ ∃ t c, b.dsk.pth n b.state t c) ∨ ∃ (c : Nat) (p : List (List Nat)), planE b n = 0 ∧ turnsV b n = c ∧ PlnOk b n c p ∧ lls pl = p.map il) ∧ v = .tuple #[.slice ap pl.length cp, .int .i64 (planE b n)] ∧ H' = H ∧ R' = RowsA ap 1 (plrows pl) :: Inn pl :: R) := fun w hw => by
  refine CallsIn.mono (c_Plan b ab cb hl hr n H R w hw) ?_
  rintro e' w' ⟨u, H', R', ⟨rfl, hq⟩, he, hs'⟩
  rcases plan_facts hok hck hn with ⟨h1, _, h2⟩ | ⟨c, p, h1, h2, h3, h4⟩
  · rcases hq with ⟨_, rfl, rfl⟩ | ⟨h5, _⟩
    · exact ⟨_, _, _, ⟨[], none, 0, Nat.le_refl _, .inl ⟨h1, rfl, h2⟩, rfl, rfl, rfl⟩, he, St.noRows (St.inn0 hs')⟩
    · rw [h1] at h5; cases h5
  · rcases hq with ⟨h5, _⟩ | ⟨_, pl, bp, h5, rfl, rfl⟩
    · exact absurd h1 h5
    · rw [h3] at h5
      have hpl : pl.length = n := by have := congrArg List.length h5; rw [lls_len, List.length_map, h4.len] at this; exact this
      refine ⟨_, _, _, ⟨pl, some ⟨bp, 0, none⟩, n, by omega, .inr ⟨c, p, h1, h2, h4, h5⟩, ?_, rfl, rfl⟩, he, hs'⟩
      rw [Int.toNat_natCast, hpl, h1]
end Go.Proofs.YtelegnmfhjfbaaaGreat
namespace Go.Proofs.YtelegnmfhjfbaaaGreat
set_option linter.unusedSimpArgs false
set_option linter.unusedVariables false
open Go
structure Prm (d d' : Dsk) (f g : Nat → Nat) : Prop where
  n : d.n = d'.n
  gg : d.gangs = d'.gangs
  st : ∀ i < d.n, f i < d.n ∧ g (f i) = i
  ts : ∀ i < d.n, g i < d.n ∧ f (g i) = i
  lasts : ∀ i < d.n, na d'.lasts (f i) = na d.lasts i
theorem Prm.symm {d d' : Dsk} {f g : Nat → Nat} (h : Prm d d' f g) : Prm d' d g f where
  n := h.n.symm
  gg := h.gg.symm
  st i hi := by have hn := h.n; have := h.ts i (by omega); exact ⟨by omega, this.2⟩
  ts i hi := by have hn := h.n; have := h.st i (by omega); exact ⟨by omega, this.2⟩
  lasts i hi := by
    have hn := h.n
    obtain ⟨h1, h2⟩ := h.ts i (by omega)
    have := h.lasts (g i) h1
    rw [h2] at this
    exact this.symm
def Prs (n : Nat) (f : Nat → Nat) (s s' : HSt) : Prop := ∀ i < n, na s' (f i) = na s i
def prl (n : Nat) (f : Nat → Nat) (l : List Nat) : List Nat := bitl n (setN (l.map f))
theorem Prm.mem {d d' : Dsk} {f g : Nat → Nat} (h : Prm d d' f g) {l : List Nat} (hl : ∀ k ∈ l, k < d.n) {i : Nat} (hi : i < d.n) : f i ∈ prl d.n f l ↔ i ∈ l := by
  unfold prl
  rw [mem_bitl, setN_mem, decide_eq_true_eq, List.mem_map]
  constructor
  · rintro ⟨_, j, hj, e⟩
    have h1 := (h.st j (hl j hj)).2
    have h2 := (h.st i hi).2
    rw [e, h2] at h1
    rw [h1]; exact hj
  · intro hm; exact ⟨(h.st i hi).1, i, hm, rfl⟩
theorem bitl_nodup (n u : Nat) : (bitl n u).Nodup := by unfold bitl; exact List.nodup_range.filter _
theorem Prm.len {d d' : Dsk} {f g : Nat → Nat} (h : Prm d d' f g) {l : List Nat} (hl : ∀ k ∈ l, k < d.n) (hn : l.Nodup) : (prl d.n f l).length = l.length := by
  have h1 : (prl d.n f l).length ≤ (l.map f).length := nodup_len (bitl_nodup _ _) fun x hx => by
    unfold prl at hx
    rw [mem_bitl, setN_mem, decide_eq_true_eq] at hx
    exact hx.2
  have h2 : (l.map f).length ≤ (prl d.n f l).length := nodup_len (nodup_map (fun x hx y hy e => by
    have e1 := (h.st x (hl x hx)).2
    have e2 := (h.st y (hl y hy)).2
    rw [e, e2] at e1; exact e1.symm) hn) fun x hx => by
      obtain ⟨j, hj, rfl⟩ := List.mem_map.1 hx
      exact (h.mem hl (hl j hj)).2 hj
  rw [List.length_map] at h1 h2
  omega
theorem Prm.trs {d d' : Dsk} {f g : Nat → Nat} (h : Prm d d' f g) {l : List Nat} (hl : l ∈ d.trs false) : prl d.n f l ∈ d'.trs false ∧ (prl d.n f l).length = l.length := by
  have hlt := d.trs_lt hl
  obtain ⟨u, hu, rfl, h1, _⟩ := d.mem_trs.1 hl
  have e := h.len hlt (bitl_nodup _ _)
  have hn := h.n; have hg := h.gg
  refine ⟨d'.mem_trs.2 ⟨setN ((bitl d.n u).map f), ?_, by rw [← hn]; rfl, ?_, fun h => by cases h⟩, e⟩
  · rw [← hn]
    exact setN_lt fun k hk => by
      obtain ⟨j, hj, rfl⟩ := List.mem_map.1 hk
      exact (h.st j (hlt j hj)).1
  · rw [e]
    unfold Dsk.g at h1 ⊢
    omega
theorem Prm.mid {d d' : Dsk} {f g : Nat → Nat} (h : Prm d d' f g) {s s' : HSt} (hs : Prs d.n f s s') {l : List Nat} (hl : ∀ k ∈ l, k < d.n) {i : Nat} (hi : i < d.n) : d'.mid s' (prl d.n f l) (f i) = d.mid s l i := by
  unfold Dsk.mid
  rw [hs i hi, h.lasts i hi]
  by_cases hm : i ∈ l
  · rw [if_pos hm, if_pos ((h.mem hl hi).2 hm)]
  · rw [if_neg hm, if_neg (fun h2 => hm ((h.mem hl hi).1 h2))]
theorem Prm.next {d d' : Dsk} {f g : Nat → Nat} (h : Prm d d' f g) (hd : d.ok) {s s' t : HSt} (hsl : s.length = 4) (hsl' : s'.length = 4) (hs : Prs d.n f s s') {l : List Nat} (hl : ∀ k ∈ l, k < d.n) (e : d.next s l = some t) :
    ∃ t', d'.next s' (prl d.n f l) = some t' ∧ Prs d.n f t t' ∧ t.length = 4 ∧ t'.length = 4 := by
  have hn := h.n; have hn4 := hd.n
  obtain ⟨h1, h2⟩ := d.next_at hd.n.2 hsl hl e
  have hl' : ∀ k ∈ prl d.n f l, k < d'.n := fun k hk => by rw [← hn]; exact bitl_lt hk
  obtain ⟨t', ht'⟩ := d'.next_some (by omega) hsl' hl' (fun k hk => by
    have hk0 : k < d.n := by omega
    obtain ⟨g1, g2⟩ := h.ts k hk0
    have := h.mid hs hl g1
    rw [g2] at this
    rw [this]
    exact (h2 (g k)).1 g1)
  obtain ⟨h3, h4⟩ := d'.next_at (by omega) hsl' hl' ht'
  refine ⟨t', ht', fun i hi => ?_, h1, h3⟩
  obtain ⟨f1, _⟩ := h.st i hi
  rw [(h4 (f i)).2, (h2 i).2, h.mid hs hl hi]
  by_cases hc : d.mid s l i ≠ 1000000
  · rw [if_pos ⟨by omega, hc⟩, if_pos ⟨hi, hc⟩]
  · rw [if_neg (fun h => hc h.2), if_neg (fun h => hc h.2)]
theorem Prm.pth {d d' : Dsk} {f g : Nat → Nat} (h : Prm d d' f g) (hd : d.ok) {s s' : HSt} (hsl : s.length = 4) (hsl' : s'.length = 4) (hs : Prs d.n f s s') : ∀ {m : Nat} {t : HSt} {c : Nat}, d.pth m s t c → ∃ t', d'.pth m s' t' c ∧ Prs d.n f t t' ∧ t.length = 4 ∧ t'.length = 4
  | 0, t, c, hp => by obtain ⟨rfl, rfl⟩ := hp; exact ⟨s', ⟨rfl, rfl⟩, hs, hsl, hsl'⟩
  | m + 1, t, c, hp => by
    obtain ⟨u, a, l, h1, h2, h3, rfl⟩ := hp
    obtain ⟨u', i1, i2, i3, i4⟩ := Prm.pth h hd hsl hsl' hs h1
    obtain ⟨t', j1, j2, j3, j4⟩ := h.next hd i3 i4 i2 (d.trs_lt h2) h3
    obtain ⟨k1, k2⟩ := h.trs h2
    exact ⟨t', ⟨u', a, _, i1, k1, j1, by rw [k2]⟩, j2, j3, j4⟩
theorem Prs.symm {d d' : Dsk} {f g : Nat → Nat} (h : Prm d d' f g) {s s' : HSt} (hs : Prs d.n f s s') : Prs d'.n g s' s := fun i hi => by
  have hn := h.n
  obtain ⟨h1, h2⟩ := h.ts i (by omega)
  have := hs (g i) h1
  rw [h2] at this
  exact this.symm
theorem Prm.kpt {d d' : Dsk} {f g : Nat → Nat} (h : Prm d d' f g) (hd : d.ok) (hd' : d'.ok) {s s' : HSt} (hs : d.inS s) (hs' : d'.inS s') (hp : Prs d.n f s s') {v v' : Int} (hv : Kpt d s v) (hv' : Kpt d' s' v') : v = v' := by
  have a := (kpt_le hd hd' hs hs' (fun n ⟨t, c, q⟩ => by obtain ⟨t', i, _⟩ := h.pth hd hs.len hs'.len hp q; exact ⟨t', c, i⟩) hv hv').1
  have b := (kpt_le hd' hd hs' hs (fun n ⟨t, c, q⟩ => by obtain ⟨t', i, _⟩ := h.symm.pth hd' hs'.len hs.len (hp.symm h) q; exact ⟨t', c, i⟩) hv' hv).1
  omega
theorem Prm.few {d d' : Dsk} {f g : Nat → Nat} (h : Prm d d' f g) (hd : d.ok) (hd' : d'.ok) {s s' : HSt} (hsl : s.length = 4) (hsl' : s'.length = 4) (hp : Prs d.n f s s') (n : Nat) :
    ((∃ t c, d.pth n s t c) ↔ ∃ t c, d'.pth n s' t c) ∧ ∀ c c', FewC d s n c → FewC d' s' n c' → c = c' := by
  refine ⟨⟨fun ⟨t, c, q⟩ => ?_, fun ⟨t, c, q⟩ => ?_⟩, fun c c' h1 h2 => ?_⟩
  · obtain ⟨t', i, _⟩ := h.pth hd hsl hsl' hp q; exact ⟨t', c, i⟩
  · obtain ⟨t', i, _⟩ := h.symm.pth hd' hsl' hsl (hp.symm h) q; exact ⟨t', c, i⟩
  · obtain ⟨t, ht⟩ := h1.is
    obtain ⟨t', i, _⟩ := h.pth hd hsl hsl' hp ht
    have := h2.le _ _ i
    obtain ⟨u, hu⟩ := h2.is
    obtain ⟨u', j, _⟩ := h.symm.pth hd' hsl' hsl (hp.symm h) hu
    have := h1.le _ _ j
    omega
noncomputable def invP (p : List Nat) (i : Nat) : Nat := Classical.epsilon (fun j : Nat => p[j]? = some i)
theorem Ord.get {p : List Nat} {n i : Nat} (h : Ord p n) (hi : i < n) : ∃ j, p[i]? = some j ∧ j < n := by
  have hl := h.len
  refine ⟨_, List.getElem?_eq_getElem (by omega), h.lt _ (List.getElem_mem (by omega))⟩
theorem Ord.onto {p : List Nat} {n i : Nat} (h : Ord p n) (hi : i < n) : ∃ j : Nat, p[j]? = some i := by
  apply Classical.byContradiction
  intro hno
  have hm : i ∉ p := fun hm => hno (List.getElem?_of_mem hm)
  have h1 := nodup_len (l := i :: p) (m := List.range n) (List.nodup_cons.2 ⟨hm, h.nd⟩) (fun x hx => by
    rcases List.mem_cons.1 hx with rfl | hx
    · exact List.mem_range.2 hi
    · exact List.mem_range.2 (h.lt x hx))
  have hl := h.len
  rw [List.length_cons, List.length_range] at h1
  omega
theorem Ord.inv {p : List Nat} {n i : Nat} (h : Ord p n) (hi : i < n) : p[invP p i]? = some i := Classical.epsilon_spec (h.onto hi)
structure Put (b : Barn) (p : List Nat) (L : List HBin) : Prop where
  ord : Ord p b.bins.length
  len : L.length = b.bins.length
  at_ : ∀ (j q : Nat), p[j]? = some q → L[q]? = b.bins[j]?
theorem Put.ok {b : Barn} {p : List Nat} {L : List HBin} (h : Put b p L) (hb : b.ok) : (b.withB L).ok := by
  have key : ∀ x ∈ L, x ∈ b.bins := fun x hx => by
    obtain ⟨q, hq⟩ := List.getElem?_of_mem hx
    have hql := (List.getElem?_eq_some_iff.1 hq).1
    have hl := h.len
    obtain ⟨j, hj⟩ := h.ord.onto (i := q) (by omega)
    rw [h.at_ j q hj] at hq
    exact List.mem_of_getElem? hq
  exact ⟨hb.len, by show 1 ≤ L.length ∧ L.length ≤ 4; rw [h.len]; exact hb.many, hb.cool, hb.gangs, hb.rise, fun x hx => hb.bins x (key x hx), hb.srt, fun x hx => hb.ord x (key x hx)⟩
structure SamB (b b' : Barn) : Prop where
  ok : b'.ok
  check : b'.check = 0
  n : b'.bins.length = b.bins.length
  kpt : ∀ v, Kpt b.dsk b.state v ↔ Kpt b'.dsk b'.state v
  kptG : ∀ g : Nat, g ≤ 4 → ∀ v, Kpt (b.withG g).dsk b.state v ↔ Kpt (b'.withG g).dsk b'.state v
  few : ∀ n : Nat, n ≤ 20 → planE b' n = planE b n ∧ turnsV b' n = turnsV b n
theorem SamB.spare {b b' : Barn} (h : SamB b b') (hb : b.ok) (hck : b.check = 0) {v v' : Value} (hv : SpareQ b v) (hv' : SpareQ b' v') : v' = v := by
  have hmn := hb.many
  have hn := h.n
  have he : ∀ g : Nat, g ≤ 4 → (b.ends g ↔ b'.ends g) := fun g hg => exists_congr fun w => and_congr_right fun _ => h.kptG g hg w
  have no : ∀ g : Nat, b.ends g → Kpt (b.withG g).dsk b.state 1000000 → False := fun g ⟨w, h1, h2⟩ h3 => h1 (kpt_unique h2 h3)
  rcases hv with ⟨h0, _⟩ | ⟨_, ⟨g, g1, g2, g3, rfl⟩ | ⟨g1, rfl⟩⟩
  · exact absurd hck h0
  · rcases hv' with ⟨h0, _⟩ | ⟨_, ⟨k, k1, k2, k3, rfl⟩ | ⟨k1, rfl⟩⟩
    · exact absurd h.check h0
    · rw [← h.kptG k (by omega)] at k3
      rcases Nat.lt_trichotomy g k with e | rfl | e
      · exact (no g ((he g (by omega)).2 (k2 g e)) g3).elim
      · rfl
      · exact (no k (g2 k e) k3).elim
    · exact (no g ((he g (by omega)).2 (k1 g (by omega))) g3).elim
  · rcases hv' with ⟨h0, _⟩ | ⟨_, ⟨k, k1, k2, k3, rfl⟩ | ⟨k1, rfl⟩⟩
    · exact absurd h.check h0
    · rw [← h.kptG k (by omega)] at k3
      exact (no k (g1 k (by omega)) k3).elim
    · rfl
structure PutI (b : Barn) (p : List Nat) (i : Nat) (L : List HBin) : Prop where
  ord : Ord p b.bins.length
  len : L.length = b.bins.length
  at_ : ∀ j, j < i → ∀ q, p[j]? = some q → L[q]? = b.bins[j]?
theorem PutI.more {b : Barn} {p : List Nat} {i q : Nat} {L : List HBin} {x : HBin} (h : PutI b p i L) (hq : p[i]? = some q) (hx : b.bins[i]? = some x) : PutI b p (i + 1) (L.set q x) := by
  have hql := h.ord.lt q (List.mem_of_getElem? hq)
  have hl := h.len
  refine ⟨h.ord, by rw [List.length_set]; exact h.len, fun j hj r hr => ?_⟩
  rw [List.getElem?_set]
  by_cases e : q = r
  · subst e
    have h1 := (List.getElem?_eq_some_iff.1 hr).1
    obtain rfl := (List.getElem?_inj h1 h.ord.nd).1 (hr.trans hq.symm)
    rw [if_pos rfl, if_pos (by omega), hx]
  · rw [if_neg e]
    refine h.at_ j ?_ r hr
    rcases Nat.lt_or_ge j i with h1 | h1
    · exact h1
    · obtain rfl : j = i := by omega
      rw [hq] at hr; cases hr
      exact absurd rfl e
theorem PutI.done {b : Barn} {p : List Nat} {L : List HBin} (h : PutI b p b.bins.length L) : Put b p L := ⟨h.ord, h.len, fun j q hq => h.at_ j (by have := (List.getElem?_eq_some_iff.1 hq).1; have := h.ord.len; omega) q hq⟩
end Go.Proofs.YtelegnmfhjfbaaaGreat
namespace Go.Proofs.YtelegnmfhjfbaaaGreat
set_option linter.unusedSimpArgs false
set_option linter.unusedVariables false
open Go
theorem Barn.most_ever {b : Barn} (hb : b.ok) {k : Nat} {x : HBin} (hx : b.bins[k]? = some x) : (na b.dsk.most k = 1000000 ↔ b.worst x = 0) ∧ na b.dsk.lasts k = b.days x b.cool := by
  have hm := List.mem_of_getElem? hx
  have hk := (List.getElem?_eq_some_iff.1 hx).1
  have h2 : na b.dsk.most k = max (b.days x x.warm) (b.days x b.cool) := na_at (b.map_get hb _ hx)
  have h3 : na b.dsk.lasts k = b.days x b.cool := na_at (b.map_get hb _ hx)
  refine ⟨?_, h3⟩
  rw [h2]
  have h8 := (hb.bins x hm).1
  have h7 := (hb.bins x hm).2.1
  have h9 := b.worst_range hb hm
  have hc := hb.cool
  have z : ∀ w, 0 ≤ w → b.worst x ≠ 0 → b.days x w < 11 := fun w hw h0 => by
    unfold Barn.days daysB
    rw [decide_eq_false h0, cond_false]
    by_cases h3 : x.mark < w
    · rw [decide_eq_true h3, cond_true]; omega
    · rw [decide_eq_false h3, cond_false]
      exact Int.ediv_lt_of_lt_mul (by omega) (by omega)
  constructor
  · intro h
    apply Classical.byContradiction
    intro h0
    have := z _ h7.1 h0
    have := z _ hc.1 h0
    omega
  · intro h
    have e : ∀ w, b.days x w = 1000000 := fun w => by unfold Barn.days daysB; rw [h]; rfl
    rw [e, e]; rfl
structure Cnt (b : Barn) (i : Nat) (ok : Bool) (c : Int) : Prop where
  all : ok = true ↔ ∀ (k : Nat) (x : HBin), k < i → b.bins[k]? = some x → b.worst x = 0 ∨ 1 ≤ b.days x b.cool
  nn : 0 ≤ c ∧ c ≤ i
  none : c = 0 ↔ ∀ (k : Nat) (x : HBin), k < i → b.bins[k]? = some x → b.worst x = 0
theorem Cnt.start (b : Barn) : Cnt b 0 true 0 := ⟨⟨fun _ k x h => absurd h (Nat.not_lt_zero _), fun _ => rfl⟩, by omega, ⟨fun _ k x h => absurd h (Nat.not_lt_zero _), fun _ => rfl⟩⟩
theorem lt_succ_cases {b : Barn} {i : Nat} {x : HBin} (hx : b.bins[i]? = some x) {p : HBin → Prop} : (∀ (k : Nat) y, k < i + 1 → b.bins[k]? = some y → p y) ↔ (∀ (k : Nat) y, k < i → b.bins[k]? = some y → p y) ∧ p x := by
  constructor
  · intro h; exact ⟨fun k y hk hy => h k y (by omega) hy, h i x (by omega) hx⟩
  · rintro ⟨h1, h2⟩ k y hk hy
    rcases Nat.lt_or_ge k i with h3 | h3
    · exact h1 k y h3 hy
    · obtain rfl : k = i := by omega
      rw [hx] at hy; cases hy; exact h2
theorem Cnt.cold {b : Barn} {i : Nat} {ok : Bool} {c : Int} {x : HBin} (h : Cnt b i ok c) (hx : b.bins[i]? = some x) (hw : b.worst x = 0) : Cnt b (i + 1) ok c := by
  refine ⟨?_, by have := h.nn; omega, ?_⟩
  · rw [lt_succ_cases hx (p := fun y => b.worst y = 0 ∨ 1 ≤ b.days y b.cool), h.all]
    exact ⟨fun h1 => ⟨h1, .inl hw⟩, fun h1 => h1.1⟩
  · rw [lt_succ_cases hx (p := fun y => b.worst y = 0), h.none]
    exact ⟨fun h1 => ⟨h1, hw⟩, fun h1 => h1.1⟩
theorem c_RoundX (b : Barn) (ab : Option Addr) (cb : Nat) (hl : b.bins.length ≤ 9223372036854775807) (hr : b.rise.length = 6) (hck : b.check = 0) (hk : Kpt b.dsk b.state 1000000) (H : Heap) (R : Facts) [hB : MemRows ab 4 (brows b.bins) R] : Fn Tryz.prog 9 [b.v (b.sl ab cb)] H R (fun v H' R' => ∃ (p q : List (List Nat)) (pl ql : List PL) (ap aq : Option Addr) (cp cq : Nat), RndOk b p q ∧ lls pl = p.map il ∧ lls ql = q.map il ∧ v = .tuple #[.slice ap pl.length cp, .slice aq ql.length cq, .int .i64 0] ∧ H' = H ∧
    R' = RowsA ap 1 (plrows pl) :: Inn pl :: RowsA aq 1 (plrows ql) :: Inn ql :: R) := fun w hw => by
  refine CallsIn.mono (c_Round b ab cb hl hr H R w hw) ?_
  rintro e' w' ⟨u, H', R', ⟨rfl, hq⟩, he, hs'⟩
  refine ⟨u, _, R', ?_, he, hs'⟩
  rcases hq with ⟨h, _⟩ | ⟨_, ⟨v, hv, hv2⟩, _⟩ | ⟨_, _, p, q, pl, ql, ap, aq, cp, cq, h1, h2, h3, h4, h5⟩
  · exact absurd hck h
  · exact absurd (kpt_unique hv2 hk) hv
  · exact ⟨p, q, pl, ql, ap, aq, cp, cq, h1, h2, h3, h4, rfl, h5⟩
end Go.Proofs.YtelegnmfhjfbaaaGreat
namespace Go.Proofs.YtelegnmfhjfbaaaGreat
set_option linter.unusedSimpArgs false
set_option linter.unusedVariables false
open Go
abbrev WL := List (List Int × Int)
def undP (n : Nat) (s t : List Int) : Bool := (List.range n).all fun k => decide (na s k ≤ na t k)
theorem undP_iff {n : Nat} {s t : List Int} : undP n s t = true ↔ ∀ k < n, na s k ≤ na t k := by
  unfold undP
  rw [List.all_eq_true]
  exact ⟨fun h k hk => of_decide_eq_true (h k (List.mem_range.2 hk)), fun h k hk => decide_eq_true (h k (List.mem_range.1 hk))⟩
theorem undP_no {n : Nat} {s t : List Int} {k : Nat} (hk : k < n) (h : na t k < na s k) : undP n s t = false := by
  rw [Bool.eq_false_iff]
  intro h1
  have := undP_iff.1 h1 k hk
  omega
theorem undP_padR (n : Nat) (s t : List Int) : undP n s (pad t) = undP n s t := by unfold undP; simp only [pad_na]
theorem undP_trans {n : Nat} {s t u : List Int} (h1 : undP n s t = true) (h2 : undP n t u = true) : undP n s u = true := undP_iff.2 fun k hk => Int.le_trans (undP_iff.1 h1 k hk) (undP_iff.1 h2 k hk)
def shnS (n : Nat) (t : List Int) (m : Int) (s : List Int × Int) : Int := bif undP n t s.1 then min m s.2 else m
def shnV (n : Nat) (W : WL) (t : List Int) : Int := W.foldl (shnS n t) 1000000
theorem shnV_snoc (n : Nat) (W : WL) (s : List Int × Int) (t : List Int) : shnV n (W ++ [s]) t = shnS n t (shnV n W t) s := by unfold shnV; rw [List.foldl_append]; rfl
theorem shn_fold {n : Nat} {t : List Int} : ∀ (W : WL) (m : Int), W.foldl (shnS n t) m ≤ m ∧ (∀ s ∈ W, undP n t s.1 = true → W.foldl (shnS n t) m ≤ s.2) ∧ (W.foldl (shnS n t) m = m ∨ ∃ s ∈ W, undP n t s.1 = true ∧ W.foldl (shnS n t) m = s.2)
  | [], m => ⟨Int.le_refl _, by simp, .inl rfl⟩
  | x :: W, m => by
    obtain ⟨h1, h2, h3⟩ := shn_fold (n := n) (t := t) W (shnS n t m x)
    rw [List.foldl_cons]
    have hx : shnS n t m x ≤ m ∧ (undP n t x.1 = true → shnS n t m x ≤ x.2) ∧ (shnS n t m x = m ∨ (undP n t x.1 = true ∧ shnS n t m x = x.2)) := by
      unfold shnS
      cases undP n t x.1 with
      | false => exact ⟨Int.le_refl _, by simp, .inl rfl⟩
      | true => simp only [cond_true, forall_const, true_and]; omega
    refine ⟨by omega, fun s hs hu => ?_, ?_⟩
    · rcases List.mem_cons.1 hs with rfl | hs
      · have := hx.2.1 hu; omega
      · exact h2 s hs hu
    · rcases h3 with h3 | ⟨s, hs, hu, h3⟩
      · rcases hx.2.2 with h4 | ⟨h4, h5⟩
        · exact .inl (by omega)
        · exact .inr ⟨x, by simp, h4, by omega⟩
      · exact .inr ⟨s, by simp [hs], hu, h3⟩
theorem shnV_mem {n : Nat} {W : WL} {t : List Int} {s : List Int × Int} (hs : s ∈ W) (hu : undP n t s.1 = true) : shnV n W t ≤ s.2 := (shn_fold W 1000000).2.1 s hs hu
theorem shnV_is {n : Nat} {W : WL} {t : List Int} (h : shnV n W t ≠ 1000000) : ∃ s ∈ W, undP n t s.1 = true ∧ shnV n W t = s.2 := (shn_fold W 1000000).2.2.resolve_left h
def badL (b : Barn) (k : Nat) (v : Int) : Bool := bif decide (b.worst (b.bins.getD k hb0) = 0) then decide (v ≠ 1000000) else !(inB v 0 10)
def stErr (b : Barn) (s : List Int × Int) : Int := bif decide (s.1.length ≠ b.bins.length) then 2 else bif !(inB s.2 0 20000) then 3 else bif (List.range b.bins.length).any (fun k => badL b k (na s.1 k)) then 3 else 0
def wlErr (b : Barn) (W : WL) : Int := bif !(inB (W.length : Int) 1 20000) then 2 else match W.find? (fun s => decide (stErr b s ≠ 0)) with
  | some s => stErr b s
  | none => 0
theorem stErr_len {b : Barn} {s : List Int × Int} (h : s.1.length ≠ b.bins.length) : stErr b s = 2 := by unfold stErr; rw [decide_eq_true h]; rfl
theorem stErr_days {b : Barn} {s : List Int × Int} (h : s.1.length = b.bins.length) (hd : inB s.2 0 20000 = false) : stErr b s = 3 := by unfold stErr; rw [decide_eq_false (by simpa using h), hd]; rfl
theorem stErr_num {b : Barn} {s : List Int × Int} (h : s.1.length = b.bins.length) (hd : inB s.2 0 20000 = true) {k : Nat} (hk : k < b.bins.length) (hb : badL b k (na s.1 k) = true) : stErr b s = 3 := by
  unfold stErr
  rw [decide_eq_false (by simpa using h), hd, show (List.range b.bins.length).any (fun k => badL b k (na s.1 k)) = true from List.any_eq_true.2 ⟨k, List.mem_range.2 hk, hb⟩]; rfl
theorem stErr_ok {b : Barn} {s : List Int × Int} (h : s.1.length = b.bins.length) (hd : inB s.2 0 20000 = true) (hb : ∀ k < b.bins.length, badL b k (na s.1 k) = false) : stErr b s = 0 := by
  unfold stErr
  rw [decide_eq_false (by simpa using h), hd, show (List.range b.bins.length).any (fun k => badL b k (na s.1 k)) = false from List.any_eq_false.2 fun k hk => by rw [hb k (List.mem_range.1 hk)]; simp]; rfl
theorem stErr_zero {b : Barn} {s : List Int × Int} (h : stErr b s = 0) : s.1.length = b.bins.length ∧ (0 ≤ s.2 ∧ s.2 ≤ 20000) ∧ ∀ k < b.bins.length, badL b k (na s.1 k) = false := by
  unfold stErr at h
  by_cases h1 : s.1.length = b.bins.length
  · rw [decide_eq_false (by simpa using h1), cond_false] at h
    cases h2 : inB s.2 0 20000 with
    | false => rw [h2] at h; cases h
    | true =>
      rw [h2, Bool.not_true, cond_false] at h
      cases h3 : (List.range b.bins.length).any (fun k => badL b k (na s.1 k)) with
      | true => rw [h3] at h; cases h
      | false =>
        refine ⟨h1, by simpa [inB] using h2, fun k hk => ?_⟩
        have := List.any_eq_false.1 h3 k (List.mem_range.2 hk)
        simpa using this
  · rw [decide_eq_true h1] at h; cases h
theorem badL_ok {b : Barn} {k : Nat} {v : Int} (h : badL b k v = false) : (b.worst (b.bins.getD k hb0) = 0 → v = 1000000) ∧ (b.worst (b.bins.getD k hb0) ≠ 0 → 0 ≤ v ∧ v ≤ 10) := by
  unfold badL at h
  by_cases h0 : b.worst (b.bins.getD k hb0) = 0
  · rw [decide_eq_true h0, cond_true, decide_eq_false_iff_not] at h
    exact ⟨fun _ => by simpa using h, fun h1 => absurd h0 h1⟩
  · rw [decide_eq_false h0, cond_false, Bool.not_eq_false'] at h
    exact ⟨fun h1 => absurd h1 h0, fun _ => by simpa [inB] using h⟩
theorem wlErr_len {b : Barn} {W : WL} (h : inB (W.length : Int) 1 20000 = false) : wlErr b W = 2 := by unfold wlErr; rw [h]; rfl
theorem find_first {α : Type} {p : α → Bool} : ∀ {l : List α} {i : Nat} {x : α}, l[i]? = some x → p x = true → (∀ y ∈ l.take i, p y = false) → l.find? p = some x
  | [], i, x, h, _, _ => by cases h
  | y :: l, 0, x, h, hp, _ => by cases h; rw [List.find?_cons, hp]
  | y :: l, i + 1, x, h, hp, hn => by
    rw [List.find?_cons, hn y (by simp)]
    exact find_first (l := l) (i := i) (by simpa using h) hp fun z hz => hn z (by simp [hz])
theorem wlErr_at {b : Barn} {W : WL} {i : Nat} {s : List Int × Int} (h : inB (W.length : Int) 1 20000 = true) (hs : W[i]? = some s) (hn : ∀ y ∈ W.take i, stErr b y = 0) (he : stErr b s ≠ 0) : wlErr b W = stErr b s := by
  unfold wlErr
  rw [h, Bool.not_true, cond_false, find_first (p := fun s => decide (stErr b s ≠ 0)) hs (decide_eq_true he) (fun y hy => decide_eq_false (by rw [hn y hy]; simp))]
theorem wlErr_ok {b : Barn} {W : WL} (h : inB (W.length : Int) 1 20000 = true) (hn : ∀ y ∈ W, stErr b y = 0) : wlErr b W = 0 := by
  unfold wlErr
  rw [h, Bool.not_true, cond_false, List.find?_eq_none.2 fun y hy => by rw [hn y hy]; simp]
theorem wlErr_zero {b : Barn} {W : WL} (h : wlErr b W = 0) : (1 ≤ W.length ∧ W.length ≤ 20000) ∧ ∀ y ∈ W, stErr b y = 0 := by
  unfold wlErr at h
  cases h1 : inB (W.length : Int) 1 20000 with
  | false => rw [h1] at h; cases h
  | true =>
    rw [h1, Bool.not_true, cond_false] at h
    refine ⟨by simp [inB] at h1; omega, fun y hy => ?_⟩
    cases hf : W.find? (fun s => decide (stErr b s ≠ 0)) with
    | some s =>
      rw [hf] at h
      have := List.find?_some hf
      dsimp only at h
      rw [h] at this; simp at this
    | none =>
      have := List.find?_eq_none.1 hf y hy
      simpa using this
theorem take_all {α : Type} {l : List α} {i : Nat} {x : α} {p : α → Prop} (hx : l[i]? = some x) (h : ∀ y ∈ l.take i, p y) (hp : p x) : ∀ y ∈ l.take (i + 1), p y := fun y hy => by
  rw [take_snoc hx] at hy
  rcases List.mem_append.1 hy with hy | hy
  · exact h y hy
  · rw [List.mem_singleton.1 hy]; exact hp
def wlL (d : Dsk) (W : WL) (s : List Int × Int) (l : List Nat) : Bool := match d.next (pad s.1) l with
  | none => true
  | some t => decide (shnV d.n W t < s.2)
def wlSt (d : Dsk) (W : WL) (s : List Int × Int) : Bool := (d.trs false).all (wlL d W s)
theorem wlSt_any (d : Dsk) (W : WL) (s : List Int × Int) : wlSt d W s = !((d.trs false).any fun l => !wlL d W s l) := by
  unfold wlSt
  rw [Bool.eq_iff_iff, List.all_eq_true, Bool.not_eq_true', List.any_eq_false]
  simp
def isWl (d : Dsk) (W : WL) : Bool := W.all (wlSt d W)
def shwV (b : Barn) (W : WL) : Int × Int := bif decide (wlErr b W = 0) then (bif isWl b.dsk W && decide (shnV b.dsk.n W b.state ≠ 1000000) then (shnV b.dsk.n W b.state, 0) else (0, 8)) else (0, wlErr b W)
theorem shw_err {b : Barn} {W : WL} (h : wlErr b W ≠ 0) : shwV b W = (0, wlErr b W) := by unfold shwV; rw [decide_eq_false h]; rfl
theorem shw_no {b : Barn} {W : WL} (h : wlErr b W = 0) {s : List Int × Int} (hs : s ∈ W) (hw : wlSt b.dsk W s = false) : shwV b W = (0, 8) := by
  unfold shwV
  rw [decide_eq_true h, cond_true, show isWl b.dsk W = false from List.all_eq_false.2 ⟨s, hs, by rw [hw]; simp⟩]; rfl
theorem shw_none {b : Barn} {W : WL} (h : wlErr b W = 0) (hs : shnV b.dsk.n W b.state = 1000000) : shwV b W = (0, 8) := by
  unfold shwV
  rw [decide_eq_true h, cond_true, decide_eq_false (show ¬ shnV b.dsk.n W b.state ≠ 1000000 by simpa using hs), Bool.and_false]; rfl
theorem shw_yes {b : Barn} {W : WL} (h : wlErr b W = 0) (hw : ∀ s ∈ W, wlSt b.dsk W s = true) (hs : shnV b.dsk.n W b.state ≠ 1000000) : shwV b W = (shnV b.dsk.n W b.state, 0) := by
  unfold shwV
  rw [decide_eq_true h, cond_true, decide_eq_true hs, show isWl b.dsk W = true from List.all_eq_true.2 hw]; rfl
theorem shw_zero {b : Barn} {W : WL} (h : (shwV b W).2 = 0) : wlErr b W = 0 ∧ (∀ s ∈ W, wlSt b.dsk W s = true) ∧ shnV b.dsk.n W b.state ≠ 1000000 ∧ (shwV b W).1 = shnV b.dsk.n W b.state := by
  by_cases h0 : wlErr b W = 0
  · refine ⟨h0, ?_⟩
    cases hw : isWl b.dsk W with
    | false => unfold shwV at h; rw [decide_eq_true h0, hw] at h; cases h
    | true =>
      by_cases hs : shnV b.dsk.n W b.state = 1000000
      · rw [shw_none h0 hs] at h; cases h
      · have hw2 := List.all_eq_true.1 hw
        exact ⟨hw2, hs, by rw [shw_yes h0 hw2 hs]⟩
  · rw [shw_err h0] at h; exact absurd h h0
theorem und_next {d : Dsk} (hd : d.ok) {s s' : HSt} (h : s.length = 4) (h' : s'.length = 4) (hm : ∀ k < d.n, na s' k ≤ 1000000) (hle : undP d.n s s' = true) {l : List Nat} (hl : ∀ k ∈ l, k < d.n) {t : HSt} (e : d.next s l = some t) :
    ∃ t', d.next s' l = some t' ∧ undP d.n t t' = true := by
  have hn := hd.n
  obtain ⟨_, h2⟩ := d.next_at hn.2 h hl e
  have hm2 : ∀ k < d.n, d.mid s l k ≤ d.mid s' l k ∧ d.mid s' l k ≤ 1000000 := fun k hk => by
    have := undP_iff.1 hle k hk
    have := hm k hk
    have := hd.lasts.at_ k (by omega)
    unfold Dsk.mid
    split <;> omega
  obtain ⟨t', ht'⟩ := d.next_some hn.2 h' hl (fun k hk => by have := hm2 k hk; have := (h2 k).1 hk; omega)
  refine ⟨t', ht', undP_iff.2 fun k hk => ?_⟩
  obtain ⟨_, h3⟩ := d.next_at hn.2 h' hl ht'
  have := hm2 k hk
  rw [(h2 k).2, (h3 k).2]
  split <;> split <;> omega
theorem wall_run {b : Barn} (hok : b.ok) {W : WL} (he : wlErr b W = 0) (hw : ∀ s ∈ W, wlSt b.dsk W s = true) : ∀ {p : List (List Nat)} {s t : HSt} {x : List Int × Int}, s.length = 4 → (∀ l ∈ p, l ∈ b.dsk.trs false) → x ∈ W → undP b.dsk.n s x.1 = true → b.dsk.run s p = some t → (p.length : Int) ≤ x.2
  | [], s, t, x, _, _, hx, _, _ => by have := stErr_zero ((wlErr_zero he).2 x hx); simp; omega
  | l :: p, s, t, x, hs, hp, hx, hu, hr => by
    have hd := b.dsk_ok hok
    unfold Dsk.run at hr
    split at hr
    · cases hr
    · rename_i u hu2
      have hlt := b.dsk.trs_lt (hp l (by simp))
      obtain ⟨x1, x2, x3⟩ := stErr_zero ((wlErr_zero he).2 x hx)
      have hmn := hok.many
      have hn : b.dsk.n = b.bins.length := rfl
      obtain ⟨t', h1, h2⟩ := und_next hd hs (pad_len' (l := x.1) (by omega)) (fun k hk => by
        rw [pad_na]
        have := badL_ok (x3 k (hn ▸ hk))
        by_cases h0 : b.worst (b.bins.getD k hb0) = 0
        · have := this.1 h0; omega
        · have := this.2 h0; omega) (by rw [undP_padR]; exact hu) hlt hu2
      have h3 := List.all_eq_true.1 (hw x hx) l (hp l (by simp))
      unfold wlL at h3
      rw [h1] at h3
      dsimp only at h3
      have h3 := of_decide_eq_true h3
      obtain ⟨y, hy, hyu, hye⟩ := shnV_is (n := b.dsk.n) (W := W) (t := t') (by omega)
      have ul : u.length = 4 := (b.dsk.next_at hd.n.2 hs hlt hu2).1
      have := wall_run hok he hw (p := p) ul (fun m hm => hp m (by simp [hm])) hy (undP_trans h2 hyu) hr
      rw [List.length_cons]; push_cast; omega
theorem wall_sound {b : Barn} (hok : b.ok) {W : WL} (h : (shwV b W).2 = 0) {m : Int} (hm : Kpt b.dsk b.state m) : m ≠ 1000000 ∧ m ≤ (shwV b W).1 := by
  obtain ⟨h1, h2, h3, h4⟩ := shw_zero h
  obtain ⟨x, hx, hu, hxe⟩ := shnV_is h3
  have hd := b.dsk_ok hok
  have hs := b.state_inS hok
  have key : ∀ n : Nat, (m = 1000000 ∨ (n : Int) ≤ m) → (n : Int) ≤ x.2 := fun n hn => by
    obtain ⟨t, c, hp⟩ := (kpt_pth hd hs hm n).2 hn
    obtain ⟨p, p1, p2, p3, _⟩ := b.dsk.pth_run hp
    have := wall_run hok h1 h2 hs.len p2 hx hu p3
    omega
  have hx2 := (stErr_zero ((wlErr_zero h1).2 x hx)).2.1
  have hmr := kpt_nn hm
  have hne : m ≠ 1000000 := fun e => by have := key 20001 (.inl e); omega
  refine ⟨hne, ?_⟩
  have := key m.toNat (.inr (by omega))
  omega
structure WE where
  a : Option Addr
  c : Nat
  l : List Int
  d : Int
def werow (x : WE) : List Value := [.slice x.a x.l.length x.c, .int .i64 x.d]
def werows (l : List WE) : List (List Value) := l.map werow
def wls (l : List WE) : WL := l.map fun x => (x.l, x.d)
theorem werows_len (l : List WE) : (werows l).length = l.length := List.length_map _
theorem wls_len (l : List WE) : (wls l).length = l.length := List.length_map _
theorem we_get {l : List WE} {i : Nat} {x : WE} (h : l[i]? = some x) : (werows l)[i]? = some (werow x) := by unfold werows; rw [List.getElem?_map, h]; rfl
theorem wls_get {l : List WE} {i : Nat} {x : WE} (h : l[i]? = some x) : (wls l)[i]? = some (x.l, x.d) := by unfold wls; rw [List.getElem?_map, h]; rfl
theorem wls_mem {l : List WE} {x : WE} (h : x ∈ l) : (x.l, x.d) ∈ wls l := List.mem_map.2 ⟨x, h, rfl⟩
theorem wls_app (l k : List WE) : wls (l ++ k) = wls l ++ wls k := by unfold wls; rw [List.map_append]
theorem werows_app (l k : List WE) : werows (l ++ k) = werows l ++ werows k := by unfold werows; rw [List.map_append]
def InW (l : List WE) : World → Prop := fun w => ∀ x ∈ l, RowsA x.a 1 (irows x.l) w
theorem St.inw0 {H : Heap} {R : Facts} {w : World} (h : St H R w) : St H (InW [] :: R) w := h.also fun _ _ x hx => by cases hx
theorem St.inwAt {l : List WE} {x : WE} {H : Heap} {R : Facts} {w : World} [m : MemF (InW l) R] (h : St H R w) (hx : x ∈ l) : St H (RowsA x.a 1 (irows x.l) :: R) w := h.also fun _ hw => hw _ m.mem x hx
theorem St.inwSnoc {l : List WE} {H : Heap} {R : Facts} {w : World} (x : WE) [m1 : MemF (InW l) R] [m2 : MemRows x.a 1 (irows x.l) R] (h : St H R w) : St H (InW (l ++ [x]) :: R) w := h.also fun _ hw y hy => by
  rcases List.mem_append.1 hy with hy | hy
  · exact hw _ m1.mem y hy
  · rw [List.mem_singleton.1 hy]; exact hw _ m2.mem
end Go.Proofs.YtelegnmfhjfbaaaGreat
namespace Go.Proofs.YtelegnmfhjfbaaaGreat
set_option linter.unusedSimpArgs false
set_option linter.unusedVariables false
open Go
theorem shnV_rng {b : Barn} {W : WL} (h : ∀ y ∈ W, stErr b y = 0) (n : Nat) (t : List Int) : 0 ≤ shnV n W t ∧ (shnV n W t = 1000000 ∨ shnV n W t ≤ 20000) := by
  by_cases h0 : shnV n W t = 1000000
  · exact ⟨by omega, .inl h0⟩
  · obtain ⟨s, hs, _, h2⟩ := shnV_is h0
    have := (stErr_zero (h s hs)).2.1
    omega
end Go.Proofs.YtelegnmfhjfbaaaGreat
namespace Go.Proofs.YtelegnmfhjfbaaaGreat
set_option linter.unusedSimpArgs false
set_option linter.unusedVariables false
open Go
theorem ag37 : aggN Tryz.prog 37 = some 2 := by kernel_rfl
theorem cn37 : cellN Tryz.prog 37 = some 2 := by kernel_rfl
theorem el32 : elN Tryz.prog 32 = some 2 := by kernel_rfl
theorem fo37_0 : fOff Tryz.prog 37 0 = some 0 := by kernel_rfl
theorem fo37_1 : fOff Tryz.prog 37 1 = some 1 := by kernel_rfl
theorem isl32 : isSl Tryz.prog 32 = true := by kernel_rfl
theorem zl37 : zeroL Tryz.prog 37 = some ([.slice none 0 0, .int .i64 0]) := by kernel_rfl
theorem notT {x : Bool} (h : (!x) = true) : x = false := by cases x <;> simp at h ⊢
theorem notF {x : Bool} (h : (!x) = false) : x = true := by cases x <;> simp at h ⊢
theorem bl_badL {b : Barn} {k : Nat} {v : Int} {z : HBin} (hz : b.bins[k]? = some z) (h : (decide (v = 1000000) != decide (b.worst z = 0)) = true) : badL b k v = true := by
  unfold badL
  rw [bin_getD hz]
  by_cases h0 : b.worst z = 0 <;> by_cases h1 : v = 1000000 <;> simp [h0, h1] at h ⊢
  all_goals rfl
theorem bl_ever {b : Barn} {k : Nat} {v : Int} {z : HBin} (hz : b.bins[k]? = some z) (h : (decide (v = 1000000) != decide (b.worst z = 0)) = false) (hv : v = 1000000) : badL b k v = false := by
  unfold badL
  rw [bin_getD hz]
  by_cases h0 : b.worst z = 0
  · rw [decide_eq_true h0, cond_true]; exact decide_eq_false (by simpa using hv)
  · rw [decide_eq_true hv, decide_eq_false h0] at h; cases h
theorem bl_num {b : Barn} {k : Nat} {v : Int} {z : HBin} (hz : b.bins[k]? = some z) (h : (decide (v = 1000000) != decide (b.worst z = 0)) = false) (hv : v ≠ 1000000) : badL b k v = !(inB v 0 10) := by
  unfold badL
  rw [bin_getD hz]
  by_cases h0 : b.worst z = 0
  · rw [decide_eq_false hv, decide_eq_true h0] at h; cases h
  · rw [decide_eq_false h0]; rfl
theorem c_under (b : Barn) (hok : b.ok) (ab : Option Addr) (cb bd m : Nat) (s t : HSt) (hs : s.length = 4) (ht : t.length = 4) (H : Heap) (R : Facts) [hD : MemRows (some ⟨bd, 0, none⟩) 18 [dcs b (b.sl ab cb) b.lasts b.most m] R] :
    FnV Tryz.prog 73 [.pointer (some ⟨bd, 0, none⟩), stv s, stv t] H R (.bool (undP b.bins.length s t)) := by
 have hmn := hok.many
 refine fn_of Tryz.func73 rfl Tryz.ntmps73 rfl ?_
 refine sy_seq ?_
 refine sy_tx' [0, 1, 2] rfl ?_
 refine bx rfl rfl rfl (fun b4 => ?_)
 refine bx rfl rfl rfl (fun b5 => ?_)
 refine sp rfl (PE.assign rfl) rfl ?_
 refine sy_seq ?_
 refine sy_seq ?_
 refine sy_tx' [0, 1, 2, 3, 4, 5, 6] rfl ?_
 refine sp rfl (PE.move rfl) rfl ?_
 refine sp rfl (PE.nilCheck rfl) rfl ?_
 refine sp rfl (PE.fieldAddr fo72_0 rfl) rfl ?_
 refine sp rfl (PE.fieldAddr fo27_3 rfl) rfl ?_
 refine spL rfl rfl (lfB (sz := 18) sc25 rfl) rfl ?_
 refine sp rfl (PE.lenSl isl25 rfl) rfl ?_
 refine sp rfl (PE.move rfl) rfl ?_
 refine sy_block ?_
 refine sy_loop (ι := {k : Nat // k ≤ b.bins.length ∧ ∀ j < k, na s j ≤ na t j}) (fun k => ⟨[(4, .pointer (some ⟨b4, 0, none⟩)), (5, .pointer (some ⟨b5, 0, none⟩)), (13, .int .i64 b.bins.length), (14, .int .i64 k.1)], (b5, cel 69 (ints t)) :: (b4, cel 69 (ints s)) :: H, R⟩) (fun k => b.bins.length - k.1) ⟨0, Nat.zero_le _, fun j hj => absurd hj (Nat.not_lt_zero _)⟩ ?_ (fun k => ?_)
 exact sy_at (by repeat' first | exact Sub.nil | apply Sub.cons | rfl | (simp [lk]; omega)) (fun _ h => h)
 obtain ⟨k, hk, hin⟩ := k
 dsimp only at hk hin ⊢
 refine sy_seq ?_
 refine sy_tx' [0] rfl ?_
 refine sp rfl (PE.lss rfl rfl) rfl ?_
 refine sy_seq ?_
 refine sy_cond rfl (fun hc0 => ?_) (fun hc0 => ?_)
 try simp only [decide_eq_true_eq, decide_eq_false_iff_not, Bool.and_eq_true, Bool.or_eq_true, Bool.not_eq_true', Int.not_le, Int.not_lt] at hc0
 refine sy_skip ?_
 refine sy_seq ?_
 refine sy_block ?_
 refine sy_seq ?_
 refine sy_tx' [0, 1] rfl ?_
 refine sp rfl (PE.move rfl) rfl ?_
 refine sp rfl (PE.assign rfl) rfl ?_
 refine sy_seq ?_
 refine sy_draw [0, 1, 3, 0, 8, 24, 63] (.tk 0 (.tk 1 (.ld 2 (.tk 3 (.tk 4 (.ld 5 (.tk 6 .done))))))) mixed (by kernel_rfl) ?_
 refine tk rfl (PE.move rfl) rfl ?_
 refine tk rfl (PE.indexArr ar69 rfl rfl (by omega) (by omega)) rfl ?_
 refine ld rfl rfl (lh sc3 rfl (st_at (k := k) hs (by omega) (by show 0 + ((k : Nat) : Int).toNat * 1 = _; omega))) rfl ?_
 refine tk rfl (PE.move rfl) rfl ?_
 refine tk rfl (PE.indexArr ar69 rfl rfl (by omega) (by omega)) rfl ?_
 refine ld rfl rfl (lh sc3 rfl (st_at (k := k) ht (by omega) (by show 0 + ((k : Nat) : Int).toNat * 1 = _; omega))) rfl ?_
 refine tk rfl (PE.gtr rfl rfl) rfl ?_
 refine sy_cond rfl (fun hc1 => ?_) (fun hc1 => ?_)
 try simp only [decide_eq_true_eq, decide_eq_false_iff_not, Bool.and_eq_true, Bool.or_eq_true, Bool.not_eq_true', Int.not_le, Int.not_lt] at hc1
 have hun := undP_no (n := b.bins.length) (s := s) (t := t) (k := k) (by omega) hc1
 refine sy_seq ?_
 refine sy_tx' [0] rfl ?_
 refine sp rfl (PE.assign rfl) rfl ?_
 refine sy_ret ?_
 exact sy_return (vs := [_]) rfl (.cons (RV.tmp rfl) .nil) rfl ⟨by rw [hun]; rfl, rfl, rfl⟩ (fun w h => (h.del b5).del b4)
 try simp only [decide_eq_true_eq, decide_eq_false_iff_not, Bool.and_eq_true, Bool.or_eq_true, Bool.not_eq_true', Int.not_le, Int.not_lt] at hc1
 have hin2 : ∀ j < k + 1, na s j ≤ na t j := fun j hj => by
   rcases Nat.lt_or_ge j k with h1 | h1
   · exact hin j h1
   · obtain rfl : j = k := by omega
     exact hc1
 refine sy_skip ?_
 refine sy_tx' [0, 1] rfl ?_
 refine sp rfl (PE.add rfl rfl (by omega)) rfl ?_
 refine sp rfl (PE.move rfl) rfl ?_
 exact sy_next ⟨k + 1, by omega, hin2⟩ (by dsimp only; omega) (by repeat' first | exact Sub.nil | apply Sub.cons | rfl | (simp [lk]; omega)) (fun _ h => h)
 try simp only [decide_eq_true_eq, decide_eq_false_iff_not, Bool.and_eq_true, Bool.or_eq_true, Bool.not_eq_true', Int.not_le, Int.not_lt] at hc0
 obtain rfl : k = b.bins.length := by omega
 have hun : undP b.bins.length s t = true := undP_iff.2 hin
 refine sy_exit ?_
 repeat refine sy_tx ?_
 refine sy_bx ?_
 refine sy_seq ?_
 refine sy_tx' [0] rfl ?_
 refine sp rfl (PE.assign rfl) rfl ?_
 refine sy_ret ?_
 exact sy_return (vs := [_]) rfl (.cons (RV.tmp rfl) .nil) rfl ⟨by rw [hun]; rfl, rfl, rfl⟩ (fun w h => (h.del b5).del b4)
theorem c_right (b : Barn) (hok : b.ok) (ab : Option Addr) (cb bd m : Nat) (W : List WE) (aw : Option Addr) (cw : Nat) (hwl : W.length ≤ 1000000) (hwx : ∀ x ∈ W, x.l.length ≤ 1000000) (H : Heap) (R : Facts) [hB : MemRows ab 4 (brows b.bins) R] [hD : MemRows (some ⟨bd, 0, none⟩) 18 [dcs b (b.sl ab cb) b.lasts b.most m] R] [hW : MemRows aw 2 (werows W) R] [hN : MemF (InW W) R] :
    FnV Tryz.prog 71 [.pointer (some ⟨bd, 0, none⟩), .slice aw W.length cw] H R (.int .i64 (wlErr b (wls W))) := by
 have hmn := hok.many
 refine fn_of Tryz.func71 rfl Tryz.ntmps71 rfl ?_
 refine sy_seq ?_
 refine sy_tx' [0] rfl ?_
 refine sp rfl (PE.assign rfl) rfl ?_
 refine sy_seq ?_
 refine sy_seq ?_
 refine sy_tx' [0, 1, 2, 3] rfl ?_
 obtain ⟨z0, hx⟩ : ∃ x, b.bins[0]? = some x := ⟨_, List.getElem?_eq_getElem (by omega)⟩
 refine sy_addr (a := ab) (sz := 4) (rows := brows b.bins) (by intro h0; simp [brows] at h0; simp [h0] at hx) (fun ba oa he => ?_)
 subst he
 clear hx
 refine sp rfl (PE.move rfl) rfl ?_
 refine sp rfl (PE.lenSl isl32 rfl) rfl ?_
 refine clV rfl cal49 rfl rfl (c_in _ _ _ _ _) ?_
 refine sp rfl (PE.not rfl) rfl ?_
 refine sy_cond rfl (fun hc0 => ?_) (fun hc0 => ?_)
 have hil : inB ((wls W).length : Int) 1 20000 = false := by rw [wls_len]; exact notT hc0
 have hsv := wlErr_len (b := b) hil
 refine sy_seq ?_
 refine sy_tx' [0] rfl ?_
 refine sp rfl (PE.assign rfl) rfl ?_
 refine sy_ret ?_
 exact sy_return (vs := [_]) rfl (.cons (RV.tmp rfl) .nil) rfl ⟨by rw [hsv]; rfl, rfl, rfl⟩ (fun _ h => h)
 have hil : inB ((wls W).length : Int) 1 20000 = true := by rw [wls_len]; exact notF hc0
 have hil2 : 1 ≤ W.length ∧ W.length ≤ 20000 := by rw [wls_len] at hil; simp [inB] at hil; omega
 refine sy_addr (a := aw) (sz := 2) (rows := werows W) (by intro h0; have := congrArg List.length h0; rw [werows_len] at this; simp only [List.length_nil] at this; omega) (fun bw ow he => ?_)
 subst he
 refine sy_skip ?_
 refine sy_seq ?_
 refine sy_seq ?_
 refine sy_tx' [0, 1, 2] rfl ?_
 refine sp rfl (PE.move rfl) rfl ?_
 refine sp rfl (PE.lenSl isl32 rfl) rfl ?_
 refine sp rfl (PE.move rfl) rfl ?_
 refine sy_block ?_
 refine sy_loop (ι := {i : Nat // i ≤ W.length ∧ ∀ y ∈ (wls W).take i, stErr b y = 0}) (fun i => ⟨[(0, .pointer (some ⟨bd, 0, none⟩)), (13, .slice (some ⟨bw, ow, none⟩) W.length cw), (14, .int .i64 W.length), (15, .int .i64 i.1)], H, R⟩) (fun i => W.length - i.1) ⟨0, Nat.zero_le _, by simp⟩ ?_ (fun i => ?_)
 exact sy_at (by repeat' first | exact Sub.nil | apply Sub.cons | rfl | (simp [lk]; omega)) (fun _ h => h)
 obtain ⟨i, hi, hpre⟩ := i
 dsimp only at hi hpre ⊢
 refine sy_seq ?_
 refine sy_tx' [0] rfl ?_
 refine sp rfl (PE.lss rfl rfl) rfl ?_
 refine sy_seq ?_
 refine sy_cond rfl (fun hc1 => ?_) (fun hc1 => ?_)
 try simp only [decide_eq_true_eq, decide_eq_false_iff_not, Bool.and_eq_true, Bool.or_eq_true, Bool.not_eq_true', Int.not_le, Int.not_lt] at hc1
 obtain ⟨x, hx⟩ : ∃ x, W[i]? = some x := ⟨_, List.getElem?_eq_getElem (by omega)⟩
 have hxm := List.mem_of_getElem? hx
 have hxl9 := hwx x hxm
 have hpe : ∀ e, stErr b (x.l, x.d) = e → e ≠ 0 → wlErr b (wls W) = e := fun e h1 h2 => by
   have h3 := wlErr_at hil (wls_get hx) hpre (by rw [h1]; exact h2)
   rw [h3, h1]
 refine sy_skip ?_
 refine sy_seq ?_
 refine sy_block ?_
 refine sy_seq ?_
 refine sy_tx' [0, 1, 2, 3] rfl ?_
 refine sp rfl (PE.indexAddr el32 rfl rfl (by omega) (by omega)) rfl ?_
 refine spL rfl rfl (lfA ag37 (row := werow x) (we_get hx) rfl) rfl ?_
 refine alc rfl zl37 rfl (fun b6 => ?_)
 refine stoE (l' := werow x) rfl rfl rfl cn37 rfl rfl rfl rfl (Nat.le_of_ble_eq_true rfl) ?_
 refine sy_seq ?_
 refine sy_seq ?_
 refine sy_draw [0, 1, 3, 0, 8, 24, 56, 120, 248, 511] (.tk 0 (.ld 1 (.tk 2 (.tk 3 (.tk 4 (.tk 5 (.tk 6 (.ld 7 (.tk 8 (.tk 9 .done)))))))))) mixed (by kernel_rfl) ?_
 refine tk rfl (PE.fieldAddr fo37_0 rfl) rfl ?_
 refine ld rfl rfl (lh sc22 rfl rfl) rfl ?_
 refine tk rfl (PE.lenSl isl22 rfl) rfl ?_
 refine tk rfl (PE.move rfl) rfl ?_
 refine tk rfl (PE.nilCheck rfl) rfl ?_
 refine tk rfl (PE.fieldAddr fo72_0 rfl) rfl ?_
 refine tk rfl (PE.fieldAddr fo27_3 rfl) rfl ?_
 refine ld rfl rfl (lfB (sz := 18) sc25 rfl) rfl ?_
 refine tk rfl (PE.lenSl isl25 rfl) rfl ?_
 refine tk rfl (PE.neq rfl rfl) rfl ?_
 refine sy_cond rfl (fun hc2 => ?_) (fun hc2 => ?_)
 try simp only [decide_eq_true_eq, decide_eq_false_iff_not, Bool.and_eq_true, Bool.or_eq_true, Bool.not_eq_true', Int.not_le, Int.not_lt] at hc2
 have hsv := hpe 2 (stErr_len (s := (x.l, x.d)) (by dsimp only; omega)) (by decide)
 refine sy_seq ?_
 refine sy_tx' [0] rfl ?_
 refine sp rfl (PE.assign rfl) rfl ?_
 refine sy_ret ?_
 exact sy_return (vs := [_]) rfl (.cons (RV.tmp rfl) .nil) rfl ⟨by rw [hsv]; rfl, rfl, rfl⟩ (fun w h => h.del b6)
 try simp only [decide_eq_true_eq, decide_eq_false_iff_not, Bool.and_eq_true, Bool.or_eq_true, Bool.not_eq_true', Int.not_le, Int.not_lt] at hc2
 have hxl : x.l.length = b.bins.length := by omega
 refine sy_skip ?_
 refine sy_seq ?_
 refine sy_seq ?_
 refine sy_tx' [0, 1, 2, 3] rfl ?_
 refine sp rfl (PE.fieldAddr fo37_1 rfl) rfl ?_
 refine spL rfl rfl (lh sc3 rfl rfl) rfl ?_
 refine clV rfl cal49 rfl rfl (c_in _ _ _ _ _) ?_
 refine sp rfl (PE.not rfl) rfl ?_
 refine sy_cond rfl (fun hc3 => ?_) (fun hc3 => ?_)
 have hsv := hpe 3 (stErr_days (s := (x.l, x.d)) hxl (notT hc3)) (by decide)
 refine sy_seq ?_
 refine sy_tx' [0] rfl ?_
 refine sp rfl (PE.assign rfl) rfl ?_
 refine sy_ret ?_
 exact sy_return (vs := [_]) rfl (.cons (RV.tmp rfl) .nil) rfl ⟨by rw [hsv]; rfl, rfl, rfl⟩ (fun w h => h.del b6)
 have hxd : inB x.d 0 20000 = true := notF hc3
 refine Sy.heap (H' := (b6, cel 37 [.slice x.a x.l.length x.c, .int .i64 x.d]) :: H) (fun w h => St.inwAt (x := x) h hxm) ?_
 refine sy_addr (a := x.a) (sz := 1) (rows := irows x.l) (by intro h0; have := congrArg List.length h0; rw [irows_len] at this; simp only [List.length_nil] at this; omega) (fun bx ox he => ?_)
 rw [he]
 refine sy_skip ?_
 refine sy_seq ?_
 refine sy_tx' [0, 1, 2, 3] rfl ?_
 refine sp rfl (PE.fieldAddr fo37_0 rfl) rfl ?_
 refine spL rfl rfl (lh sc22 rfl rfl) rfl ?_
 refine sp rfl (PE.lenSl isl22 rfl) rfl ?_
 refine sp rfl (PE.move rfl) rfl ?_
 refine sy_block ?_
 refine sy_loop (ι := {k : Nat // k ≤ b.bins.length ∧ ∀ j < k, badL b j (na x.l j) = false}) (fun k => ⟨[(0, .pointer (some ⟨bd, 0, none⟩)), (13, .slice (some ⟨bw, ow, none⟩) W.length cw), (14, .int .i64 W.length), (15, .int .i64 i), (34, .slice (some ⟨bx, ox, none⟩) x.l.length x.c), (35, .int .i64 x.l.length), (36, .int .i64 k.1)], (b6, cel 37 [.slice (some ⟨bx, ox, none⟩) x.l.length x.c, .int .i64 x.d]) :: H, RowsA (some ⟨bx, ox, none⟩) 1 (irows x.l) :: R⟩) (fun k => b.bins.length - k.1) ⟨0, Nat.zero_le _, fun j hj => absurd hj (Nat.not_lt_zero _)⟩ ?_ (fun k => ?_)
 exact sy_at (by repeat' first | exact Sub.nil | apply Sub.cons | rfl | (simp [lk]; omega)) (fun _ h => h)
 obtain ⟨k, hk, hbl⟩ := k
 dsimp only at hk hbl ⊢
 refine sy_seq ?_
 refine sy_tx' [0] rfl ?_
 refine sp rfl (PE.lss rfl rfl) rfl ?_
 refine sy_seq ?_
 refine sy_cond rfl (fun hc4 => ?_) (fun hc4 => ?_)
 try simp only [decide_eq_true_eq, decide_eq_false_iff_not, Bool.and_eq_true, Bool.or_eq_true, Bool.not_eq_true', Int.not_le, Int.not_lt] at hc4
 obtain ⟨z, hz⟩ : ∃ z, b.bins[k]? = some z := ⟨_, List.getElem?_eq_getElem (by omega)⟩
 have hzo := hok.bins z (List.mem_of_getElem? hz)
 have hm2 : ∀ j < k + 1, badL b k (na x.l k) = false → badL b j (na x.l j) = false := fun j hj h => by
   rcases Nat.lt_or_ge j k with h1 | h1
   · exact hbl j h1
   · obtain rfl : j = k := by omega
     exact h
 refine sy_skip ?_
 refine sy_seq ?_
 refine sy_block ?_
 refine sy_seq ?_
 refine sy_tx' [0, 1, 2, 3, 4] rfl ?_
 refine sp rfl (PE.move rfl) rfl ?_
 refine sp rfl (PE.indexAddr el22 rfl rfl (by omega) (by omega)) rfl ?_
 refine spL rfl rfl (lf0 sc3 (ir_get (na_get (l := x.l) (k := k) (by omega))) rfl) rfl ?_
 refine sp rfl (PE.assign rfl) rfl ?_
 refine sp rfl (PE.assign rfl) rfl ?_
 refine sy_seq ?_
 refine sy_tx' [0, 1, 2, 3, 4, 5, 6, 7, 8, 9, 10, 11, 12, 13, 14, 15, 16, 17, 18] rfl ?_
 refine sp rfl (PE.move rfl) rfl ?_
 refine sp rfl (PE.eql rfl rfl) rfl ?_
 refine sp rfl (PE.move rfl) rfl ?_
 refine sp rfl (PE.nilCheck rfl) rfl ?_
 refine sp rfl (PE.fieldAddr fo72_0 rfl) rfl ?_
 refine spL rfl rfl (lfBA (sz := 18) (btl b (b.sl (some ⟨ba, oa, none⟩) cb)) ag27 rfl rfl) rfl ?_
 refine sp rfl (PE.move rfl) rfl ?_
 refine clV rfl cal114 rfl rfl (c_worst b (some ⟨ba, oa, none⟩) cb k z hz hzo.2.2.2 _ _) ?_
 refine sp rfl (PE.eql rfl rfl) rfl ?_
 refine sp rfl (PE.neqBool ub4 rfl rfl) rfl ?_
 refine sp rfl (PE.move rfl) rfl ?_
 refine sy_case (t := 51) rfl (fun g51 => ?_) (fun g51 => ?_)
 have hbv := bl_badL hz g51
 repeat refine spN rfl rfl rfl rfl rfl rfl rfl rfl ?_
 repeat refine spU rfl rfl rfl rfl rfl rfl rfl ?_
 refine spN rfl rfl rfl rfl rfl rfl rfl rfl ?_
 refine sp rfl (PE.pick rfl rfl rfl) rfl ?_
 refine sy_condT rfl ?_
 refine sy_seq ?_
 refine sy_tx' [0] rfl ?_
 have hsv := hpe 3 (stErr_num (s := (x.l, x.d)) hxl hxd (k := k) (by omega) hbv) (by decide)
 refine sp rfl (PE.assign rfl) rfl ?_
 refine sy_ret ?_
 first | exact sy_return (vs := [_]) rfl (.cons (RV.tmp rfl) .nil) rfl ⟨by rw [hsv]; rfl, rfl, rfl⟩ (fun w h => (h.del b6).ftail) | exact sy_return (vs := [_]) rfl (.cons (RV.tmp rfl) .nil) rfl ⟨by rw [hsv]; rfl, rfl, rfl⟩ (fun _ h => h)
 refine spG rfl rfl rfl rfl (PE.move rfl) rfl ?_
 refine spG rfl rfl rfl rfl (PE.neq rfl rfl) rfl ?_
 refine spG rfl rfl rfl rfl (PE.move rfl) rfl ?_
 refine sy_case (t := 54) rfl (fun g54 => ?_) (fun g54 => ?_)
 have hnum := bl_num hz g51 (of_decide_eq_true g54)
 refine spG rfl rfl rfl rfl (PE.move rfl) rfl ?_
 refine clVG rfl rfl rfl rfl cal49 rfl rfl (c_in _ _ _ _ _) ?_
 refine spG rfl rfl rfl rfl (PE.not rfl) rfl ?_
 refine spG rfl rfl rfl rfl (PE.pick rfl rfl rfl) rfl ?_
 refine sp rfl (PE.pick rfl rfl rfl) rfl ?_
 refine sy_cond rfl (fun hc5 => ?_) (fun hc5 => ?_)
 have hbv : badL b k (na x.l k) = true := hnum.trans hc5
 refine sy_seq ?_
 refine sy_tx' [0] rfl ?_
 have hsv := hpe 3 (stErr_num (s := (x.l, x.d)) hxl hxd (k := k) (by omega) hbv) (by decide)
 refine sp rfl (PE.assign rfl) rfl ?_
 refine sy_ret ?_
 first | exact sy_return (vs := [_]) rfl (.cons (RV.tmp rfl) .nil) rfl ⟨by rw [hsv]; rfl, rfl, rfl⟩ (fun w h => (h.del b6).ftail) | exact sy_return (vs := [_]) rfl (.cons (RV.tmp rfl) .nil) rfl ⟨by rw [hsv]; rfl, rfl, rfl⟩ (fun _ h => h)
 have hbv : badL b k (na x.l k) = false := hnum.trans hc5
 refine sy_skip ?_
 refine sy_tx' [0, 1] rfl ?_
 refine sp rfl (PE.add rfl rfl (by omega)) rfl ?_
 refine sp rfl (PE.move rfl) rfl ?_
 exact sy_next ⟨k + 1, by omega, fun j hj => hm2 j hj hbv⟩ (by dsimp only; omega) (by repeat' first | exact Sub.nil | apply Sub.cons | rfl | (simp [lk]; omega)) (fun _ h => h)
 have hbv := bl_ever hz g51 (by have := of_decide_eq_false g54; omega)
 repeat refine spN rfl rfl rfl rfl rfl rfl rfl rfl ?_
 refine spG rfl rfl rfl rfl (PE.pick rfl rfl rfl) rfl ?_
 refine sp rfl (PE.pick rfl rfl rfl) rfl ?_
 refine sy_condF rfl ?_
 refine sy_skip ?_
 refine sy_tx' [0, 1] rfl ?_
 refine sp rfl (PE.add rfl rfl (by omega)) rfl ?_
 refine sp rfl (PE.move rfl) rfl ?_
 exact sy_next ⟨k + 1, by omega, fun j hj => hm2 j hj hbv⟩ (by dsimp only; omega) (by repeat' first | exact Sub.nil | apply Sub.cons | rfl | (simp [lk]; omega)) (fun _ h => h)
 try simp only [decide_eq_true_eq, decide_eq_false_iff_not, Bool.and_eq_true, Bool.or_eq_true, Bool.not_eq_true', Int.not_le, Int.not_lt] at hc4
 obtain rfl : k = b.bins.length := by omega
 have hst := stErr_ok (s := (x.l, x.d)) hxl hxd hbl
 refine sy_exit ?_
 repeat refine sy_tx ?_
 refine sy_bx ?_
 refine sy_tx' [0, 1] rfl ?_
 refine sp rfl (PE.add rfl rfl (by omega)) rfl ?_
 refine sp rfl (PE.move rfl) rfl ?_
 exact sy_next ⟨i + 1, by omega, take_all (wls_get hx) hpre hst⟩ (by dsimp only; omega) (by repeat' first | exact Sub.nil | apply Sub.cons | rfl | (simp [lk]; omega)) (fun w h => (h.del b6).ftail)
 try simp only [decide_eq_true_eq, decide_eq_false_iff_not, Bool.and_eq_true, Bool.or_eq_true, Bool.not_eq_true', Int.not_le, Int.not_lt] at hc1
 obtain rfl : i = W.length := by omega
 rw [List.take_of_length_le (by rw [wls_len]; exact Nat.le_refl _)] at hpre
 have hsv := wlErr_ok hil hpre
 refine sy_exit ?_
 repeat refine sy_tx ?_
 refine sy_bx ?_
 refine sy_seq ?_
 refine sy_tx' [0] rfl ?_
 refine sp rfl (PE.assign rfl) rfl ?_
 refine sy_ret ?_
 first | exact sy_return (vs := [_]) rfl (.cons (RV.tmp rfl) .nil) rfl ⟨by rw [hsv]; rfl, rfl, rfl⟩ (fun w h => (h.del b6).ftail) | exact sy_return (vs := [_]) rfl (.cons (RV.tmp rfl) .nil) rfl ⟨by rw [hsv]; rfl, rfl, rfl⟩ (fun _ h => h)
end Go.Proofs.YtelegnmfhjfbaaaGreat
namespace Go.Proofs.YtelegnmfhjfbaaaGreat
set_option linter.unusedSimpArgs false
set_option linter.unusedVariables false
open Go
theorem cal71 : cal Tryz.prog 71 = true := by kernel_rfl
theorem cal72 : cal Tryz.prog 72 = true := by kernel_rfl
theorem cal73 : cal Tryz.prog 73 = true := by kernel_rfl
theorem cn134 : cellN Tryz.prog 134 = some 1 := by kernel_rfl
theorem cn33 : cellN Tryz.prog 33 = some 1 := by kernel_rfl
theorem eqg69 : Tryz.prog.eqGuardType Tryz.prog.depth 69 = false := by kernel_rfl
theorem sc134 : scal Tryz.prog 134 = true := by kernel_rfl
theorem sc32 : scal Tryz.prog 32 = true := by kernel_rfl
theorem sc33 : scal Tryz.prog 33 = true := by kernel_rfl
theorem zl134 : zeroL Tryz.prog 134 = some ([.nilFunc]) := by kernel_rfl
theorem zl33 : zeroL Tryz.prog 33 = some ([.int .i64 0]) := by kernel_rfl
section
variable {P : Program} {r : Option Nat} {ops : Array Oper} {n : Nat} {L : Slots} {D : List Deferred} {H : Heap} {R : Facts} {K : Act → World → Prop}
  {i d : Nat} {ty : TypeId} {pos : String} {af : Array Edge}
theorem cpyRo {T T2 e s od : Nat} {x y : Operand} {b dl dc sc e2 : Nat} {l : List Value} {ax : Option Addr} {rows : List (List Value)} {H' : Heap}
    (ho : ops[i]? = some ⟨some d, .call { callee := .builtin .copy, args := #[x, y], argTypes := #[T, T2] }, ty, pos, af, none⟩) (hT : slE P T = some (e, s))
    (hx : ev L x = some (.slice (some ⟨b, od, none⟩) dl dc)) (hy : ev L y = some (.slice ax rows.length sc)) [mr : MemRows ax s rows R] (hl : ∀ q ∈ rows, q.length = s) (hle : rows.length ≤ dl)
    (h1 : rows.flatten.all (·.oneCell') = true) (hb : od + rows.flatten.length ≤ l.length) (hd : Nat.blt d n = true)
    [m : Mem1 b (cel e2 l) H] [rp : Rep [(b, cel e2 l)] [(b, cel e2 (spl l od rows.flatten))] H H']
    (h : Sy n ((d, .int .i64 rows.length) :: L) D H' R K) : Sy n L D H R (stp P r ops i K) := fun a w ha hD hs => by
  obtain ⟨ie, hu, hi, rfl⟩ := slE_und hT
  have hr := run_rows (P := P) (sc := sc) (hs.now mr.mem) hl hle
  have hst := run_storeA (P := P) (e := e2) h1 hb (hs.held _ m.mem)
  refine stp_value ho (wanted_none _ rfl _) (v := .int .i64 rows.length) (w' := { w with heap := w.heap.setIfInBounds b (cel e2 (spl l od rows.flatten)) }) ?_
    (h _ _ (ha.put (by simpa using hd) _) hD (hs.rep (F := [(b, cel e2 l)]) (F' := [(b, cel e2 (spl l od rows.flatten))]) fun T hT => St.set hT))
  simp only [execOp, resolve, invoke, builtin, Sem.run_bind, Sem.run_pure, Result.andThen, List.map_toArray, List.map_cons, List.map_nil, ha.reads _ _ hx, ha.reads _ _ hy]
  have e1 : (Builtin.copy_ #[T, T2] ty #[.slice (some ⟨b, od, none⟩) dl dc, .slice ax rows.length sc]).run P w = .ok (goInt (rows.length : Nat)) { w with heap := w.heap.setIfInBounds b (cel e2 (spl l od rows.flatten)) } := by
    have e3 : (Builtin.firstCells ie.size rows.length (.slice ax rows.length sc)).run P w = .ok rows.flatten.toArray w := by
      rw [show Nat.min rows.length dl = rows.length from Nat.min_eq_left hle] at hr; exact hr
    simp [Builtin.copy_, run_underlying hu, Builtin.lenOf, sizeOf, typeInfo, hi, e3, hst, Nat.min_eq_left hle]
  rw [e1]
  rfl
end
def wpd (W : List WE) : List HSt := W.map fun x => pad x.l
theorem wpd_len (W : List WE) : (wpd W).length = W.length := List.length_map _
theorem wpd_get {W : List WE} {i : Nat} {x : WE} (h : W[i]? = some x) : (wpd W)[i]? = some (pad x.l) := by unfold wpd; rw [List.getElem?_map, h]; rfl
theorem st4 {l : List HSt} (h : ∀ s ∈ l, s.length = 4) : ∀ r ∈ strows l, r.length = 4 := fun r hr => by
  obtain ⟨s, hs, rfl⟩ := List.mem_map.1 hr
  rw [ints_length]; exact h s hs
def wgap (W : List WE) (i : Nat) : List Value := (strows (wpd (W.take i))).flatten ++ (List.replicate (W.length - i) [Value.int .i64 0, .int .i64 0, .int .i64 0, .int .i64 0]).flatten
theorem wpd_four {W : List WE} {n : Nat} (hn : n ≤ 4) (h : ∀ x ∈ W, x.l.length = n) : ∀ s ∈ wpd W, s.length = 4 := fun s hs => by
  obtain ⟨x, hx, rfl⟩ := List.mem_map.1 hs
  have := h x hx
  exact pad_len' (by omega)
theorem spl_pad {p rest : List Value} {l : List Int} (hl : l.length ≤ 4) : spl (p ++ ([Value.int .i64 0, .int .i64 0, .int .i64 0, .int .i64 0] ++ rest)) p.length (ints l) = p ++ (ints (pad l) ++ rest) := by
  unfold spl
  rw [List.take_left, ints_length, List.append_assoc]
  congr 1
  rw [show p.length + l.length = (p ++ ([] : List Value)).length + l.length by simp, List.append_nil, List.drop_append, List.drop_of_length_le (by omega), List.nil_append, show p.length + l.length - p.length = l.length by omega,
    List.drop_append_of_le_length (by simpa using hl)]
  rw [← List.append_assoc]
  congr 1
  have e : ([Value.int .i64 0, .int .i64 0, .int .i64 0, .int .i64 0] : List Value) = List.replicate 4 (.int .i64 0) := rfl
  rw [e, List.drop_replicate]
  unfold pad ints
  rw [List.map_append, List.map_replicate]
theorem wgap_put {W : List WE} {n i : Nat} {x : WE} (hn : n ≤ 4) (h : ∀ x ∈ W, x.l.length = n) (hx : W[i]? = some x) {o : Nat} (e : o = i * 4) : spl (wgap W i) o (irows x.l).flatten = wgap W (i + 1) := by
  have hi := (List.getElem?_eq_some_iff.1 hx).1
  have hp : (strows (wpd (W.take i))).flatten.length = i * 4 := by
    rw [flat_len (sz := 4) (st4 (wpd_four hn fun x hx => h x (List.mem_of_mem_take hx))), strows_len, wpd_len, List.length_take, Nat.min_eq_left (by omega)]
  unfold wgap
  rw [e, ← hp, show W.length - i = (W.length - (i + 1)) + 1 by omega, List.replicate_succ, List.flatten_cons, show (irows x.l).flatten = ints x.l from irows_flat x.l, spl_pad (by have := h x (List.mem_of_getElem? hx); omega), take_snoc hx]
  unfold wpd strows
  rw [List.map_append, List.map_append, List.flatten_append, List.append_assoc]
  simp
theorem wgap_len {W : List WE} {n i : Nat} (hn : n ≤ 4) (h : ∀ x ∈ W, x.l.length = n) (hi : i ≤ W.length) : (wgap W i).length = W.length * 4 := by
  unfold wgap
  rw [List.length_append, flat_len (sz := 4) (st4 (wpd_four hn fun x hx => h x (List.mem_of_mem_take hx))), strows_len, wpd_len, List.length_take, Nat.min_eq_left hi, flat_len (sz := 4) (fun r hr => by rw [(List.mem_replicate.1 hr).2]; rfl), List.length_replicate]
  omega
theorem irows_ones (l : List Int) : (irows l).flatten.all (·.oneCell') = true := by rw [irows_flat]; exact ints_one l
def shwE (b : Barn) (W : WL) : Int × Int := bif decide (b.check = 0) then shwV b W else (0, b.check)
theorem undP_refl (n : Nat) (s : List Int) : undP n s s = true := undP_iff.2 fun _ _ => Int.le_refl _
theorem c_shows1 (b : Barn) (hok : b.ok) (ab : Option Addr) (cb bd m : Nat) (W : List WE) (aw : Option Addr) (cw : Nat) (bl b1 b2 b3 : Nat) (hwl : W.length ≤ 1000000) (hwz : ∀ x ∈ W, x.l.length = b.bins.length ∧ (0 ≤ x.d ∧ x.d ≤ 20000)) (t : HSt) (ht : t.length = 4) (H : Heap) (R : Facts) [hD : MemRows (some ⟨bd, 0, none⟩) 18 [dcs b (b.sl ab cb) b.lasts b.most m] R] [hW : MemRows aw 2 (werows W) R] [h1 : MemRows (some ⟨b1, 0, none⟩) 1 [[.slice (some ⟨bl, 0, none⟩) W.length W.length]] R] [h2 : MemRows (some ⟨b2, 0, none⟩) 1 [[.pointer (some ⟨bd, 0, none⟩)]] R] [h3 : MemRows (some ⟨b3, 0, none⟩) 1 [[.slice aw W.length cw]] R] [h4 : MemRows (some ⟨bl, 0, none⟩) 4 (strows (wpd W)) R] :
    FnV Tryz.prog 72 [stv t, .pointer (some ⟨b1, 0, none⟩), .pointer (some ⟨b2, 0, none⟩), .pointer (some ⟨b3, 0, none⟩)] H R (.int .i64 (shnV b.bins.length (wls W) t)) := by
 have hmn := hok.many
 refine fn_of Tryz.func72 rfl Tryz.ntmps72 rfl ?_
 refine sy_seq ?_
 refine sy_tx' [0, 1] rfl ?_
 refine bx rfl rfl rfl (fun b4 => ?_)
 refine sp rfl (PE.assign rfl) rfl ?_
 refine sy_seq ?_
 refine sy_tx' [0] rfl ?_
 refine sp rfl (PE.assign rfl) rfl ?_
 refine sy_seq ?_
 refine sy_seq ?_
 refine sy_tx' [0, 1, 2] rfl ?_
 refine spL rfl rfl (lfB (sz := 1) sc75 rfl) rfl ?_
 refine sp rfl (PE.lenSl isl75 rfl) rfl ?_
 refine sp rfl (PE.move rfl) rfl ?_
 refine sy_block ?_
 refine sy_loop (ι := {y : Nat × Int // y.1 ≤ W.length ∧ y.2 = shnV b.bins.length (wls (W.take y.1)) t}) (fun y => ⟨[(1, .pointer (some ⟨b1, 0, none⟩)), (2, .pointer (some ⟨b2, 0, none⟩)), (3, .pointer (some ⟨b3, 0, none⟩)), (4, .pointer (some ⟨b4, 0, none⟩)), (6, .int .i64 y.1.2), (9, .slice (some ⟨bl, 0, none⟩) W.length W.length), (10, .int .i64 W.length), (11, .int .i64 y.1.1)], (b4, cel 69 (ints t)) :: H, R⟩) (fun y => W.length - y.1.1) ⟨(0, 1000000), Nat.zero_le _, rfl⟩ ?_ (fun y => ?_)
 exact sy_at (by repeat' first | exact Sub.nil | apply Sub.cons | rfl | (simp [lk]; omega)) (fun _ h => h)
 obtain ⟨⟨i, mi⟩, hi, hm⟩ := y
 dsimp only at hi hm ⊢
 refine sy_seq ?_
 refine sy_tx' [0] rfl ?_
 refine sp rfl (PE.lss rfl rfl) rfl ?_
 refine sy_seq ?_
 refine sy_cond rfl (fun hc0 => ?_) (fun hc0 => ?_)
 try simp only [decide_eq_true_eq, decide_eq_false_iff_not, Bool.and_eq_true, Bool.or_eq_true, Bool.not_eq_true', Int.not_le, Int.not_lt] at hc0
 obtain ⟨x, hx⟩ : ∃ x, W[i]? = some x := ⟨_, List.getElem?_eq_getElem (by omega)⟩
 have hxm := List.mem_of_getElem? hx
 obtain ⟨hxl, hxd⟩ := hwz x hxm
 have hpl : (pad x.l).length = 4 := pad_len' (by omega)
 have hnx : shnV b.bins.length (wls (W.take (i + 1))) t = bif undP b.bins.length t (pad x.l) then min mi x.d else mi := by rw [take_snoc hx, wls_app, show wls [x] = [(x.l, x.d)] from rfl, shnV_snoc, ← hm, undP_padR]; rfl
 have hsr : (strows (wpd W)).length = W.length := by rw [strows_len, wpd_len]
 refine sy_addr (a := aw) (sz := 2) (rows := werows W) (by intro h0; have := congrArg List.length h0; rw [werows_len] at this; simp only [List.length_nil] at this; omega) (fun bw ow he => ?_)
 subst he
 refine sy_skip ?_
 refine sy_seq ?_
 refine sy_block ?_
 refine sy_seq ?_
 refine sy_tx' [0, 1, 2, 3, 4, 5] rfl ?_
 refine sp rfl (PE.move rfl) rfl ?_
 refine sp rfl (PE.indexAddr el75 rfl rfl (by omega) (by omega)) rfl ?_
 refine spL rfl rfl (lfA ag69 (row := ints (pad x.l)) (strows_get (wpd_get hx)) (by rw [ints_length]; exact hpl)) rfl ?_
 refine alc rfl zl69 rfl (fun b8 => ?_)
 refine sp rfl (PE.assign rfl) rfl ?_
 refine stoA rfl rfl rfl cn69 rfl (by rw [ints_length]; exact hpl) rfl (ints_one _) ?_
 refine sy_seq ?_
 refine sy_tx' [0, 1, 2, 3, 4, 5, 6, 7, 8] rfl ?_
 refine spL rfl rfl (lhA (rest := []) (ints t) ag69 rfl (by rw [List.append_nil]; rfl) (by rw [ints_length]; exact ht)) rfl ?_
 refine spL rfl rfl (lhA (rest := []) (ints (pad x.l)) ag69 rfl (by rw [List.append_nil]; rfl) (by rw [ints_length]; exact hpl)) rfl ?_
 refine sp rfl (PE.eqlAgg t (pad x.l) (eqB_ok 10000 69 true 4 eqf69) eqg69 rfl rfl ht hpl) rfl ?_
 refine sp rfl (PE.move rfl) rfl ?_
 refine sy_case (t := 19) rfl (fun g19 => ?_) (fun g19 => ?_)
 have hun : undP b.bins.length t (pad x.l) = true := by rw [← of_decide_eq_true g19]; exact undP_refl _ _
 repeat refine spN rfl rfl rfl rfl rfl rfl rfl rfl ?_
 refine sp rfl (PE.pick rfl rfl rfl) rfl ?_
 refine sy_condT rfl ?_
 refine sy_tx' [0, 1, 2, 3, 4, 5, 6, 7] rfl ?_
 rw [hun, cond_true] at hnx
 refine sp rfl (PE.move rfl) rfl ?_
 refine spL rfl rfl (lfB (sz := 1) sc32 rfl) rfl ?_
 refine sp rfl (PE.move rfl) rfl ?_
 refine sp rfl (PE.indexAddr el32 rfl rfl (by omega) (by omega)) rfl ?_
 refine sp rfl (PE.fieldAddr fo37_1 rfl) rfl ?_
 refine spL rfl rfl (lf (j := 1) (row := werow x) sc3 (we_get hx) rfl) rfl ?_
 refine sp rfl (PE.min rfl rfl) rfl ?_
 refine sp rfl (PE.assign rfl) rfl ?_
 refine sy_tx' [0, 1] rfl ?_
 refine sp rfl (PE.add rfl rfl (by omega)) rfl ?_
 refine sp rfl (PE.move rfl) rfl ?_
 first
   | exact sy_next ⟨(i + 1, min mi x.d), by dsimp only; omega, hnx.symm⟩ (by dsimp only; omega) (by repeat' first | exact Sub.nil | apply Sub.cons | rfl | (simp [lk]; omega)) (fun w h => h.del b8)
   | exact sy_next ⟨(i + 1, mi), by dsimp only; omega, hnx.symm⟩ (by dsimp only; omega) (by repeat' first | exact Sub.nil | apply Sub.cons | rfl | (simp [lk]; omega)) (fun w h => h.del b8)
 refine spLG rfl rfl rfl rfl rfl (lfB (sz := 1) sc65 rfl) rfl ?_
 refine spLG rfl rfl rfl rfl rfl (lhA (rest := []) (ints t) ag69 rfl (by rw [List.append_nil]; rfl) (by rw [ints_length]; exact ht)) rfl ?_
 refine spLG rfl rfl rfl rfl rfl (lhA (rest := []) (ints (pad x.l)) ag69 rfl (by rw [List.append_nil]; rfl) (by rw [ints_length]; exact hpl)) rfl ?_
 refine clVG rfl rfl rfl rfl cal73 rfl rfl (c_under b hok ab cb bd m t (pad x.l) ht hpl _ _) ?_
 refine sp rfl (PE.pick rfl rfl rfl) rfl ?_
 refine sy_cond rfl (fun hc1 => ?_) (fun hc1 => ?_)
 have hun : undP b.bins.length t (pad x.l) = true := hc1
 refine sy_tx' [0, 1, 2, 3, 4, 5, 6, 7] rfl ?_
 rw [hun, cond_true] at hnx
 refine sp rfl (PE.move rfl) rfl ?_
 refine spL rfl rfl (lfB (sz := 1) sc32 rfl) rfl ?_
 refine sp rfl (PE.move rfl) rfl ?_
 refine sp rfl (PE.indexAddr el32 rfl rfl (by omega) (by omega)) rfl ?_
 refine sp rfl (PE.fieldAddr fo37_1 rfl) rfl ?_
 refine spL rfl rfl (lf (j := 1) (row := werow x) sc3 (we_get hx) rfl) rfl ?_
 refine sp rfl (PE.min rfl rfl) rfl ?_
 refine sp rfl (PE.assign rfl) rfl ?_
 refine sy_tx' [0, 1] rfl ?_
 refine sp rfl (PE.add rfl rfl (by omega)) rfl ?_
 refine sp rfl (PE.move rfl) rfl ?_
 first
   | exact sy_next ⟨(i + 1, min mi x.d), by dsimp only; omega, hnx.symm⟩ (by dsimp only; omega) (by repeat' first | exact Sub.nil | apply Sub.cons | rfl | (simp [lk]; omega)) (fun w h => h.del b8)
   | exact sy_next ⟨(i + 1, mi), by dsimp only; omega, hnx.symm⟩ (by dsimp only; omega) (by repeat' first | exact Sub.nil | apply Sub.cons | rfl | (simp [lk]; omega)) (fun w h => h.del b8)
 have hun : undP b.bins.length t (pad x.l) = false := hc1
 rw [hun, cond_false] at hnx
 refine sy_skip ?_
 refine sy_tx' [0, 1] rfl ?_
 refine sp rfl (PE.add rfl rfl (by omega)) rfl ?_
 refine sp rfl (PE.move rfl) rfl ?_
 first
   | exact sy_next ⟨(i + 1, min mi x.d), by dsimp only; omega, hnx.symm⟩ (by dsimp only; omega) (by repeat' first | exact Sub.nil | apply Sub.cons | rfl | (simp [lk]; omega)) (fun w h => h.del b8)
   | exact sy_next ⟨(i + 1, mi), by dsimp only; omega, hnx.symm⟩ (by dsimp only; omega) (by repeat' first | exact Sub.nil | apply Sub.cons | rfl | (simp [lk]; omega)) (fun w h => h.del b8)
 try simp only [decide_eq_true_eq, decide_eq_false_iff_not, Bool.and_eq_true, Bool.or_eq_true, Bool.not_eq_true', Int.not_le, Int.not_lt] at hc0
 obtain rfl : i = W.length := by omega
 rw [List.take_length] at hm
 subst hm
 refine sy_exit ?_
 repeat refine sy_tx ?_
 refine sy_bx ?_
 refine sy_seq ?_
 refine sy_tx' [0, 1] rfl ?_
 refine sp rfl (PE.move rfl) rfl ?_
 refine sp rfl (PE.assign rfl) rfl ?_
 refine sy_ret ?_
 exact sy_return (vs := [_]) rfl (.cons (RV.tmp rfl) .nil) rfl ⟨rfl, rfl, rfl⟩ (fun w h => h.del b4)
theorem c_Shows (b : Barn) (ab : Option Addr) (cb : Nat) (hl : b.bins.length ≤ 9223372036854775807) (hr : b.rise.length = 6) (W : List WE) (aw : Option Addr) (cw : Nat) (hwl : W.length ≤ 1000000) (hwx : ∀ x ∈ W, x.l.length ≤ 1000000) (H : Heap) (R : Facts) [hB : MemRows ab 4 (brows b.bins) R] [hW : MemRows aw 2 (werows W) R] [hN : MemF (InW W) R] :
    FnV Tryz.prog 22 [b.v (b.sl ab cb), .slice aw W.length cw] H R (.tuple #[.int .i64 (shwE b (wls W)).1, .int .i64 (shwE b (wls W)).2]) := by
 refine fnM_of Tryz.func22 rfl Tryz.ntmps22 rfl ?_
 refine sy_seq ?_
 refine sy_tx' [0, 1, 2, 3] rfl ?_
 refine bx rfl rfl rfl (fun b2 => ?_)
 refine bx rfl rfl rfl (fun b3 => ?_)
 refine alc rfl zl3 rfl (fun b4 => ?_)
 refine alc rfl zl33 rfl (fun b5 => ?_)
 refine sy_seq ?_
 refine sy_tx' [0, 1, 2, 3, 4, 5, 6, 7] rfl ?_
 refine spL rfl rfl (lhA (btl b (b.sl ab cb)) ag27 rfl rfl rfl) rfl ?_
 refine cl rfl cal24 rfl rfl (c_opened b ab cb hl hr _ _) ?_
 rintro _ _ _ (⟨hck, rfl, rfl, rfl⟩ | ⟨hck, bd, m, rfl, rfl, rfl⟩)
 refine sp rfl (PE.move rfl) rfl ?_
 refine sp rfl (PE.extract rfl rfl) rfl ?_
 refine sp rfl (PE.extract rfl rfl) rfl ?_
 refine alc rfl zl65 rfl (fun b6 => ?_)
 refine sto rfl rfl rfl cn65 rfl rfl rfl rfl ?_
 refine sp rfl (PE.assign rfl) rfl ?_
 refine sy_seq ?_
 refine sy_seq ?_
 refine sy_tx' [0, 1] rfl ?_
 refine sp rfl (PE.move rfl) rfl ?_
 refine sp rfl (PE.neq rfl rfl) rfl ?_
 refine sy_condT (congrArg (fun b => some (Value.bool b)) (decide_eq_true hck)) ?_
 refine sy_seq ?_
 refine sy_tx' [0, 1, 2] rfl ?_
 refine sp rfl (PE.move rfl) rfl ?_
 refine sto rfl rfl rfl cn3 rfl rfl rfl rfl ?_
 refine sto rfl rfl rfl cn33 rfl rfl rfl rfl ?_
 refine sy_ret ?_
 have hsv : shwE b (wls W) = (0, b.check) := by unfold shwE; rw [decide_eq_false hck]; rfl
 exact sy_returnM [] (fun _ h => h) rfl (.cons (RV.cell rfl (lh sc3 rfl rfl)) (.cons (RV.cell rfl (lh sc33 rfl rfl)) .nil)) rfl ⟨by rw [hsv]; rfl, rfl, rfl⟩ (fun w h => ((((h.del b6).del b5).del b4).del b3).del b2)
 ·
  have hok := Barn.ok_of hr hck
  have hdk := b.dsk_ok hok
  have hl4 := hdk.lasts.len
  have hm4 := hdk.most.len
  refine sp rfl (PE.move rfl) rfl ?_
  refine sp rfl (PE.extract rfl rfl) rfl ?_
  refine sp rfl (PE.extract rfl rfl) rfl ?_
  refine alc rfl zl65 rfl (fun b6 => ?_)
  refine sto rfl rfl rfl cn65 rfl rfl rfl rfl ?_
  refine sp rfl (PE.assign rfl) rfl ?_
  refine sy_seq ?_
  refine sy_seq ?_
  refine sy_tx' [0, 1] rfl ?_
  refine sp rfl (PE.move rfl) rfl ?_
  refine sp rfl (PE.neq rfl rfl) rfl ?_
  refine sy_condF (rfl) ?_
  refine sy_skip ?_
  refine sy_seq ?_
  refine sy_seq ?_
  refine sy_tx' [0, 1, 2, 3] rfl ?_
  refine spL rfl rfl (lh sc65 rfl rfl) rfl ?_
  refine spL rfl rfl (lh sc32 rfl rfl) rfl ?_
  refine clV rfl cal71 rfl rfl (c_right b hok ab cb bd m W aw cw hwl hwx _ _) ?_
  refine sp rfl (PE.assign rfl) rfl ?_
  refine sy_seq ?_
  refine sy_tx' [0, 1] rfl ?_
  refine sp rfl (PE.move rfl) rfl ?_
  refine sp rfl (PE.neq rfl rfl) rfl ?_
  refine sy_cond rfl (fun hc1 => ?_) (fun hc1 => ?_)
  try simp only [decide_eq_true_eq, decide_eq_false_iff_not, Bool.and_eq_true, Bool.or_eq_true, Bool.not_eq_true', Int.not_le, Int.not_lt] at hc1
  have hsv : shwE b (wls W) = (0, wlErr b (wls W)) := by unfold shwE; rw [decide_eq_true hck, cond_true, shw_err (by omega)]
  refine sy_seq ?_
  refine sy_tx' [0, 1, 2] rfl ?_
  refine sp rfl (PE.move rfl) rfl ?_
  refine sto rfl rfl rfl cn3 rfl rfl rfl rfl ?_
  refine sto rfl rfl rfl cn33 rfl rfl rfl rfl ?_
  refine sy_ret ?_
  exact sy_returnM [] (fun _ h => h) rfl (.cons (RV.cell rfl (lh sc3 rfl rfl)) (.cons (RV.cell rfl (lh sc33 rfl rfl)) .nil)) rfl ⟨by rw [hsv]; rfl, rfl, rfl⟩ (fun w h => St.sub (((((h.del b6).del m).del b5).del b4).del b3 |>.del b2))
  ·
   try simp only [decide_eq_true_eq, decide_eq_false_iff_not, Bool.and_eq_true, Bool.or_eq_true, Bool.not_eq_true', Int.not_le, Int.not_lt] at hc1
   have hmn := hok.many
   have hwe : wlErr b (wls W) = 0 := by omega
   have hpre := (wlErr_zero hwe).2
   have hwlz := (wlErr_zero hwe).1
   rw [wls_len] at hwlz
   have hwz : ∀ x ∈ W, x.l.length = b.bins.length ∧ (0 ≤ x.d ∧ x.d ≤ 20000) := fun x hx => by have := stErr_zero (hpre _ (wls_mem hx)); exact ⟨this.1, this.2.1⟩
   have hwb : ∀ x ∈ W, ∀ k < b.bins.length, badL b k (na x.l k) = false := fun x hx => (stErr_zero (hpre _ (wls_mem hx))).2.2
   have hws4 : ∀ x ∈ W, x.l.length = b.bins.length := fun x hx => (hwz x hx).1
   have hE : ∀ p, shwV b (wls W) = p → shwE b (wls W) = p := fun p hp => by unfold shwE; rw [decide_eq_true hck]; exact hp
   refine sy_addr (a := aw) (sz := 2) (rows := werows W) (by intro h0; have := congrArg List.length h0; rw [werows_len] at this; simp only [List.length_nil] at this; omega) (fun bw ow he => ?_)
   subst he
   refine sy_skip ?_
   refine sy_seq ?_
   refine sy_tx' [0, 1, 2, 3, 4] rfl ?_
   refine spL rfl rfl (lh sc32 rfl rfl) rfl ?_
   refine sp rfl (PE.lenSl isl32 rfl) rfl ?_
   refine mkS rfl ap75 zl69 rfl rfl (Nat.le_refl _) ⟨by omega, by omega⟩ rfl (fun b35 => ?_)
   refine alc rfl zl75 rfl (fun b9 => ?_)
   refine sto rfl rfl rfl cn75 rfl rfl rfl rfl ?_
   refine sy_seq ?_
   refine sy_seq ?_
   refine sy_tx' [0, 1, 2] rfl ?_
   refine spL rfl rfl (lh sc32 rfl rfl) rfl ?_
   refine sp rfl (PE.lenSl isl32 rfl) rfl ?_
   refine sp rfl (PE.move rfl) rfl ?_
   refine sy_block ?_
   refine Sy.heap (H' := (b9, cel 75 [.slice (some ⟨b35, 0, none⟩) W.length W.length]) :: (b35, cel 69 (wgap W 0)) :: (b6, cel 65 [.pointer (some ⟨bd, 0, none⟩)]) :: (m, mapO true []) :: (b5, cel 33 [.int .i64 0]) :: (b4, cel 3 [.int .i64 0]) :: (b3, cel 32 [.slice (some ⟨bw, ow, none⟩) W.length cw]) :: (b2, cel 27 (btl b (b.sl ab cb))) :: H) (fun w h => by
     have e : wgap W 0 = repl W.length [Value.int .i64 0, .int .i64 0, .int .i64 0, .int .i64 0] := by unfold wgap; rw [flat_repl]; rfl
     rw [e]; exact h) ?_
   refine sy_loop (ι := {i : Nat // i ≤ W.length}) (fun i => ⟨[(2, .pointer (some ⟨b2, 0, none⟩)), (3, .pointer (some ⟨b3, 0, none⟩)), (4, .pointer (some ⟨b4, 0, none⟩)), (5, .pointer (some ⟨b5, 0, none⟩)), (6, .pointer (some ⟨b6, 0, none⟩)), (9, .pointer (some ⟨b9, 0, none⟩)), (36, .slice (some ⟨bw, ow, none⟩) W.length cw), (37, .int .i64 W.length), (38, .int .i64 i.1)], (b9, cel 75 [.slice (some ⟨b35, 0, none⟩) W.length W.length]) :: (b35, cel 69 (wgap W i.1)) :: (b6, cel 65 [.pointer (some ⟨bd, 0, none⟩)]) :: (m, mapO true []) :: (b5, cel 33 [.int .i64 0]) :: (b4, cel 3 [.int .i64 0]) :: (b3, cel 32 [.slice (some ⟨bw, ow, none⟩) W.length cw]) :: (b2, cel 27 (btl b (b.sl ab cb))) :: H, RowsA (some ⟨bd, 0, none⟩) 18 [dcs b (b.sl ab cb) b.lasts b.most m] :: R⟩) (fun i => W.length - i.1) ⟨0, Nat.zero_le _⟩ ?_ (fun i => ?_)
   exact sy_at (by repeat' first | exact Sub.nil | apply Sub.cons | rfl | (simp [lk]; omega)) (fun _ h => h)
   ·
    obtain ⟨i, hi⟩ := i
    dsimp only at hi ⊢
    refine sy_seq ?_
    refine sy_tx' [0] rfl ?_
    refine sp rfl (PE.lss rfl rfl) rfl ?_
    refine sy_seq ?_
    refine sy_cond rfl (fun hc2 => ?_) (fun hc2 => ?_)
    try simp only [decide_eq_true_eq, decide_eq_false_iff_not, Bool.and_eq_true, Bool.or_eq_true, Bool.not_eq_true', Int.not_le, Int.not_lt] at hc2
    obtain ⟨x, hx⟩ : ∃ x, W[i]? = some x := ⟨_, List.getElem?_eq_getElem (by omega)⟩
    have hxm := List.mem_of_getElem? hx
    have hgl := wgap_len hmn.2 hws4 (i := i) hi
    have hxl := hws4 x hxm
    refine Sy.heap (fun w h => St.inwAt (x := x) h hxm) ?_
    refine sy_skip ?_
    refine sy_seq ?_
    refine sy_block ?_
    refine sy_seq ?_
    refine sy_tx' [0, 1, 2, 3, 4, 5] rfl ?_
    refine sp rfl (PE.move rfl) rfl ?_
    refine sp rfl (PE.indexAddr el32 rfl rfl (by omega) (by omega)) rfl ?_
    refine spL rfl rfl (lfA ag37 (row := werow x) (we_get hx) rfl) rfl ?_
    refine alc rfl zl37 rfl (fun b11 => ?_)
    refine sp rfl (PE.assign rfl) rfl ?_
    refine stoE (l' := werow x) rfl rfl rfl cn37 rfl rfl rfl rfl (Nat.le_of_ble_eq_true rfl) ?_
    refine sy_draw [0, 0, 3, 7, 0, 16, 63] (.ld 0 (.tk 1 (.tk 2 (.tk 3 (.tk 4 (.ld 5 (.big 6 .done))))))) mixed (by kernel_rfl) ?_
    refine ld rfl rfl (lh sc75 rfl rfl) rfl ?_
    refine tk rfl (PE.move rfl) rfl ?_
    refine tk rfl (PE.indexAddr el75 rfl rfl (by omega) (by omega)) rfl ?_
    refine tk rfl (PE.slArr ar69 rfl) rfl ?_
    refine tk rfl (PE.fieldAddr fo37_0 rfl) rfl ?_
    refine ld rfl rfl (lh sc22 rfl rfl) rfl ?_
    refine cpyRo (rows := irows x.l) rfl sl22 rfl (by rw [irows_len]; rfl) (irows_one x.l) (by rw [irows_len]; omega) (irows_ones _) (by rw [show (irows x.l).flatten = ints x.l from irows_flat x.l, ints_length, hgl]; show 0 + ((i : Nat) : Int).toNat * 4 + _ ≤ _; omega) rfl ?_
    rw [wgap_put hmn.2 hws4 hx (by show 0 + ((i : Nat) : Int).toNat * 4 = _; omega)]
    refine bg (fun w hs => ⟨trivial, trivial, trivial⟩) ?_
    refine sy_tx' [0, 1] rfl ?_
    refine sp rfl (PE.add rfl rfl (by omega)) rfl ?_
    refine sp rfl (PE.move rfl) rfl ?_
    exact sy_next ⟨i + 1, by omega⟩ (by dsimp only; omega) (by repeat' first | exact Sub.nil | apply Sub.cons | rfl | (simp [lk]; omega)) (fun w h => (h.del b11).ftail)
    ·
     try simp only [decide_eq_true_eq, decide_eq_false_iff_not, Bool.and_eq_true, Bool.or_eq_true, Bool.not_eq_true', Int.not_le, Int.not_lt] at hc2
     obtain rfl : i = W.length := by omega
     refine sy_exit ?_
     repeat refine sy_tx ?_
     refine sy_bx ?_
     refine sy_seq ?_
     refine sy_tx' [0, 1, 2] rfl ?_
     refine sp rfl (PE.makeFunc rfl rfl) rfl ?_
     refine alc rfl zl134 rfl (fun b12 => ?_)
     refine sto rfl rfl rfl cn134 rfl rfl rfl rfl ?_
     refine sy_seq ?_
     refine sy_seq ?_
     refine sy_tx' [0, 1, 2] rfl ?_
     refine spL rfl rfl (lh sc75 rfl rfl) rfl ?_
     refine sp rfl (PE.lenSl isl75 rfl) rfl ?_
     refine sp rfl (PE.move rfl) rfl ?_
     refine sy_block ?_
     refine Sy.heap (fun w h => St.blkRows (rows := strows (wpd W)) (junk := []) (st4 (wpd_four hmn.2 hws4)) (show St ((b35, cel 69 ((strows (wpd W)).flatten ++ [])) :: _) _ w from by
       have e : (strows (wpd W)).flatten ++ [] = wgap W W.length := by unfold wgap; rw [List.take_length, Nat.sub_self]; rfl
       rw [e]; exact h.pull b35)) ?_
     refine Sy.heap (fun w h => St.rows (sz := 1) (rows := [[.slice (some ⟨b35, 0, none⟩) W.length W.length]]) (rest := []) (h.pull b9) (by simp)) ?_
     refine Sy.heap (fun w h => St.rows (sz := 1) (rows := [[.pointer (some ⟨bd, 0, none⟩)]]) (rest := []) (h.pull b6) (by simp)) ?_
     refine Sy.heap (fun w h => St.rows (sz := 1) (rows := [[.slice (some ⟨bw, ow, none⟩) W.length cw]]) (rest := []) (h.pull b3) (by simp)) ?_
     refine sy_loopD (ι := {y : Nat × List Nat // y.1 ≤ W.length ∧ ∀ s ∈ (wls W).take y.1, wlSt b.dsk (wls W) s = true}) (fun y => ⟨[(2, .pointer (some ⟨b2, 0, none⟩)), (3, .pointer (some ⟨b3, 0, none⟩)), (4, .pointer (some ⟨b4, 0, none⟩)), (5, .pointer (some ⟨b5, 0, none⟩)), (6, .pointer (some ⟨b6, 0, none⟩)), (12, .pointer (some ⟨b12, 0, none⟩)), (52, .slice (some ⟨b35, 0, none⟩) W.length W.length), (53, .int .i64 W.length), (54, .int .i64 y.1.1)], mks y.1.2, (b12, cel 134 [.func (.func 72) #[] #[.pointer (some ⟨b9, 0, none⟩), .pointer (some ⟨b6, 0, none⟩), .pointer (some ⟨b3, 0, none⟩)]]) :: (m, mapO true []) :: (b5, cel 33 [.int .i64 0]) :: (b4, cel 3 [.int .i64 0]) :: (b2, cel 27 (btl b (b.sl ab cb))) :: (mkh y.1.2 ++ H), RowsA (some ⟨b35, 0, none⟩) 4 (strows (wpd W)) :: RowsA (some ⟨b9, 0, none⟩) 1 [[.slice (some ⟨b35, 0, none⟩) W.length W.length]] :: RowsA (some ⟨b6, 0, none⟩) 1 [[.pointer (some ⟨bd, 0, none⟩)]] :: RowsA (some ⟨b3, 0, none⟩) 1 [[.slice (some ⟨bw, ow, none⟩) W.length cw]] :: RowsA (some ⟨bd, 0, none⟩) 18 [dcs b (b.sl ab cb) b.lasts b.most m] :: R⟩) (fun y => W.length - y.1.1) ⟨(0, []), Nat.zero_le _, by simp⟩ ?_ (fun y => ?_)
     exact sy_atD (by repeat' first | exact Sub.nil | apply Sub.cons | rfl | (simp [lk]; omega)) rfl (fun w h => St.sub h)
     ·
      obtain ⟨⟨i, mk⟩, hi, hws⟩ := y
      dsimp only at hi hws ⊢
      refine sy_seq ?_
      refine sy_tx' [0] rfl ?_
      refine sp rfl (PE.lss rfl rfl) rfl ?_
      refine sy_seq ?_
      refine sy_cond rfl (fun hc3 => ?_) (fun hc3 => ?_)
      ·
       try simp only [decide_eq_true_eq, decide_eq_false_iff_not, Bool.and_eq_true, Bool.or_eq_true, Bool.not_eq_true', Int.not_le, Int.not_lt] at hc3
       obtain ⟨x, hx⟩ : ∃ x, W[i]? = some x := ⟨_, List.getElem?_eq_getElem (by omega)⟩
       have hxm := List.mem_of_getElem? hx
       obtain ⟨hxl, hxd⟩ := hwz x hxm
       have hpl : (pad x.l).length = 4 := pad_len' (by omega)
       have hsr : (strows (wpd W)).length = W.length := by rw [strows_len, wpd_len]
       refine sy_skip ?_
       refine sy_seq ?_
       refine sy_block ?_
       refine sy_seq ?_
       refine sy_tx' [0, 1, 2, 3, 4, 5, 6] rfl ?_
       refine sp rfl (PE.move rfl) rfl ?_
       refine sp rfl (PE.indexAddr el75 rfl rfl (by omega) (by omega)) rfl ?_
       refine spL rfl rfl (lfA ag69 (row := ints (pad x.l)) (strows_get (wpd_get hx)) (by rw [ints_length]; exact hpl)) rfl ?_
       refine alc rfl zl3 rfl (fun b13 => ?_)
       refine alc rfl zl69 rfl (fun b14 => ?_)
       refine sto rfl rfl rfl cn3 rfl rfl rfl rfl ?_
       refine stoA rfl rfl rfl cn69 rfl (by rw [ints_length]; exact hpl) rfl (ints_one _) ?_
       refine sy_seq ?_
       refine sy_tx' [0, 1] rfl ?_
       refine spL rfl rfl (lfB (sz := 1) sc65 rfl) rfl ?_
       refine cl rfl cal29 rfl rfl (c_turnings bd false _ _) ?_
       rintro _ _ _ ⟨xb, xf, rfl, rfl, rfl⟩
       refine sy_block ?_
       refine sy_range rfl cal81 (fun c0 bl0 bd0 hcp0 hca0 hcb0 hck0 => ?_)
       refine ⟨fun st pend T R' => (st = .ready ∧ pend = none ∧ wlSt b.dsk (wls W) (x.l, x.d) = true ∧ T = (bd0, .deferred (some [])) :: (b14, cel 69 (ints (pad x.l))) :: (b13, cel 3 [.int .i64 i]) :: (b12, cel 134 [.func (.func 72) #[] #[.pointer (some ⟨b9, 0, none⟩), .pointer (some ⟨b6, 0, none⟩), .pointer (some ⟨b3, 0, none⟩)]]) :: (m, mapO true []) :: (b5, cel 33 [.int .i64 0]) :: (b4, cel 3 [.int .i64 0]) :: (b2, cel 27 (btl b (b.sl ab cb))) :: (mkh mk ++ H) ∧ R' = RowsA (some ⟨xf, 0, none⟩) 1 [[.bool false]] :: RowsA (some ⟨xb, 0, none⟩) 1 [[.pointer (some ⟨bd, 0, none⟩)]] :: RowsA (some ⟨b35, 0, none⟩) 4 (strows (wpd W)) :: RowsA (some ⟨b9, 0, none⟩) 1 [[.slice (some ⟨b35, 0, none⟩) W.length W.length]] :: RowsA (some ⟨b6, 0, none⟩) 1 [[.pointer (some ⟨bd, 0, none⟩)]] :: RowsA (some ⟨b3, 0, none⟩) 1 [[.slice (some ⟨bw, ow, none⟩) W.length cw]] :: RowsA (some ⟨bd, 0, none⟩) 18 [dcs b (b.sl ab cb) b.lasts b.most m] :: R) ∨
           (st = .done ∧ pend = some .ret ∧ wlSt b.dsk (wls W) (x.l, x.d) = false ∧ T = (bd0, .deferred (some [])) :: (b14, cel 69 (ints (pad x.l))) :: (b13, cel 3 [.int .i64 i]) :: (b12, cel 134 [.func (.func 72) #[] #[.pointer (some ⟨b9, 0, none⟩), .pointer (some ⟨b6, 0, none⟩), .pointer (some ⟨b3, 0, none⟩)]]) :: (m, mapO true []) :: (b5, cel 33 [.int .i64 8]) :: (b4, cel 3 [.int .i64 0]) :: (b2, cel 27 (btl b (b.sl ab cb))) :: (mkh mk ++ H) ∧ R' = RowsA (some ⟨xf, 0, none⟩) 1 [[.bool false]] :: RowsA (some ⟨xb, 0, none⟩) 1 [[.pointer (some ⟨bd, 0, none⟩)]] :: RowsA (some ⟨b35, 0, none⟩) 4 (strows (wpd W)) :: RowsA (some ⟨b9, 0, none⟩) 1 [[.slice (some ⟨b35, 0, none⟩) W.length W.length]] :: RowsA (some ⟨b6, 0, none⟩) 1 [[.pointer (some ⟨bd, 0, none⟩)]] :: RowsA (some ⟨b3, 0, none⟩) 1 [[.slice (some ⟨bw, ow, none⟩) W.length cw]] :: RowsA (some ⟨bd, 0, none⟩) 18 [dcs b (b.sl ab cb) b.lasts b.most m] :: R),
         Fn.mono (c_turnings1 b hok ab cb bd m false xb xf bl0 (fun k H' R' => (∀ i l, i < k → (b.dsk.trs false)[i]? = some l → (fun l => !wlL b.dsk (wls W) (x.l, x.d) l) l = false) ∧ H' = (bl0, lob c0 .ready none) :: (bd0, .deferred (some [])) :: (b14, cel 69 (ints (pad x.l))) :: (b13, cel 3 [.int .i64 i]) :: (b12, cel 134 [.func (.func 72) #[] #[.pointer (some ⟨b9, 0, none⟩), .pointer (some ⟨b6, 0, none⟩), .pointer (some ⟨b3, 0, none⟩)]]) :: (m, mapO true []) :: (b5, cel 33 [.int .i64 0]) :: (b4, cel 3 [.int .i64 0]) :: (b2, cel 27 (btl b (b.sl ab cb))) :: (mkh mk ++ H) ∧ R' = RowsA (some ⟨xf, 0, none⟩) 1 [[.bool false]] :: RowsA (some ⟨xb, 0, none⟩) 1 [[.pointer (some ⟨bd, 0, none⟩)]] :: RowsA (some ⟨b35, 0, none⟩) 4 (strows (wpd W)) :: RowsA (some ⟨b9, 0, none⟩) 1 [[.slice (some ⟨b35, 0, none⟩) W.length W.length]] :: RowsA (some ⟨b6, 0, none⟩) 1 [[.pointer (some ⟨bd, 0, none⟩)]] :: RowsA (some ⟨b3, 0, none⟩) 1 [[.slice (some ⟨bw, ow, none⟩) W.length cw]] :: RowsA (some ⟨bd, 0, none⟩) 18 [dcs b (b.sl ab cb) b.lasts b.most m] :: R)
           (fun H' R' => wlSt b.dsk (wls W) (x.l, x.d) = false ∧ H' = (bl0, lob c0 .done (some .ret)) :: (bd0, .deferred (some [])) :: (b14, cel 69 (ints (pad x.l))) :: (b13, cel 3 [.int .i64 i]) :: (b12, cel 134 [.func (.func 72) #[] #[.pointer (some ⟨b9, 0, none⟩), .pointer (some ⟨b6, 0, none⟩), .pointer (some ⟨b3, 0, none⟩)]]) :: (m, mapO true []) :: (b5, cel 33 [.int .i64 8]) :: (b4, cel 3 [.int .i64 0]) :: (b2, cel 27 (btl b (b.sl ab cb))) :: (mkh mk ++ H) ∧ R' = RowsA (some ⟨xf, 0, none⟩) 1 [[.bool false]] :: RowsA (some ⟨xb, 0, none⟩) 1 [[.pointer (some ⟨bd, 0, none⟩)]] :: RowsA (some ⟨b35, 0, none⟩) 4 (strows (wpd W)) :: RowsA (some ⟨b9, 0, none⟩) 1 [[.slice (some ⟨b35, 0, none⟩) W.length W.length]] :: RowsA (some ⟨b6, 0, none⟩) 1 [[.pointer (some ⟨bd, 0, none⟩)]] :: RowsA (some ⟨b3, 0, none⟩) 1 [[.slice (some ⟨bw, ow, none⟩) W.length cw]] :: RowsA (some ⟨bd, 0, none⟩) 18 [dcs b (b.sl ab cb) b.lasts b.most m] :: R)
           (fun k H' R' h => by obtain ⟨_, _, rfl⟩ := h; exact ⟨by simp, by simp, by simp⟩) (fun k l a c H' R' hk hI => ?_) _ _ ⟨fun _ _ h => absurd h (Nat.not_lt_zero _), rfl, rfl⟩) (fun v H' R' h => ?_), ?_⟩
       rotate_left
       · rcases h with ⟨hn, rfl, rfl⟩ | ⟨hh, rfl, rfl⟩
         · exact ⟨.ready, none, _, by simp, .refl _, .inl ⟨rfl, rfl, by rw [wlSt_any, any_no hn]; rfl, rfl, rfl⟩⟩
         · exact ⟨.done, some .ret, _, by simp, .refl _, .inr ⟨rfl, rfl, hh, rfl, rfl⟩⟩
       rotate_left
       have hlm := List.mem_of_getElem? hk
       have hlt := b.dsk.trs_lt hlm
       have hll : l.length ≤ 1000000 := by
         obtain ⟨i, _, rfl⟩ := List.mem_map.1 (List.mem_filter.1 hlm).1
         have := bitl_len b.dsk.n i
         have := hdk.n
         omega
       obtain ⟨hno, rfl, rfl⟩ := hI
       have hsm : Sml (pad x.l) := ⟨hpl, fun j hj => by
         rw [pad_na]
         by_cases hjn : j < b.bins.length
         · have := badL_ok (hwb x hxm j hjn)
           by_cases h0 : b.worst (b.bins.getD j hb0) = 0
           · have := this.1 h0; omega
           · have := this.2 h0; omega
         · have h1 : na x.l j = 0 := by unfold na; rw [List.getD_eq_getElem?_getD, List.getElem?_eq_none (by omega)]; rfl
           omega⟩
       refine yd_of hcp0 hca0 hcb0 hck0 rfl ?_
       refine sy_tx' [0] rfl ?_
       refine sp rfl (PE.assign rfl) rfl ?_
       refine sy_beginRound ?_
       refine sy_block ?_
       refine sy_seq ?_
       refine sy_tx' [0, 1, 2, 3, 4, 5, 6, 7, 8, 9] rfl ?_
       refine spL rfl rfl (lfB (sz := 1) sc65 rfl) rfl ?_
       refine spL rfl rfl (lhA (rest := []) (ints (pad x.l)) ag69 rfl (by rw [List.append_nil]; rfl) (by rw [ints_length]; exact hpl)) rfl ?_
       refine sp rfl (PE.move rfl) rfl ?_
       refine cl rfl cal30 rfl rfl (c_next b hok ab cb bd m (pad x.l) hsm l hlt hll a c _ _) ?_
       rintro _ _ _ ⟨rfl, rfl, rfl⟩
       rcases hnx : b.dsk.next (pad x.l) l with _ | t
       refine sp rfl (PE.move rfl) rfl ?_
       refine sp rfl (PE.extract rfl rfl) rfl ?_
       refine sp rfl (PE.extract rfl rfl) rfl ?_
       refine alc rfl zl69 rfl (fun b16 => ?_)
       first | (refine stoA rfl rfl rfl cn69 rfl rfl rfl (ints_one _) ?_) | (refine stoA rfl rfl rfl cn69 rfl (by rw [ints_length]; exact htl) rfl (ints_one _) ?_)
       refine sp rfl (PE.assign rfl) rfl ?_
       refine sy_seq ?_
       refine sy_draw [0, 1, 3, 3, 15, 3, 3, 99, 227, 483, 1023, 2047] (.tk 0 (.tk 1 (.ld 2 (.ld 3 (.ld 5 (.ld 6 (.tk 7 (.tk 8 (.ld 9 (.big 4 (.tk 10 (.tk 11 .done)))))))))))) mixed (by kernel_rfl) ?_
       have hno2 : (fun l => !wlL b.dsk (wls W) (x.l, x.d) l) l = false := by dsimp only; unfold wlL; dsimp only; rw [hnx]; rfl
       refine tk rfl (PE.move rfl) rfl ?_
       refine tk rfl (PE.move rfl) rfl ?_
       repeat refine ldN rfl rfl rfl rfl rfl rfl rfl rfl ?_
       repeat refine tkN rfl rfl rfl rfl rfl rfl rfl rfl ?_
       refine ldN rfl rfl rfl rfl rfl rfl rfl rfl ?_
       refine spN rfl rfl rfl rfl rfl rfl rfl rfl ?_
       refine bg (fun w hs => ⟨((fun _ _ => True.intro)) w hs, ((fun _ _ => True.intro)) w hs, ((fun _ _ => True.intro)) w hs, trivial, trivial, trivial⟩) ?_
       refine tkN rfl rfl rfl rfl rfl rfl rfl rfl ?_
       refine tk rfl (PE.pick rfl rfl rfl) rfl ?_
       refine sy_condF rfl ?_
       refine sy_skip ?_
       exact sy_roundOn (.inl ⟨rfl, no_more hk hno hno2, rfl, rfl⟩) (fun _ h => (h.del b16).ftail)
       refine sp rfl (PE.move rfl) rfl ?_
       have htl : t.length = 4 := (b.dsk.next_sml hdk.lasts hdk.n.2 hsm hlt hnx).len
       have hwl1 : wlL b.dsk (wls W) (x.l, x.d) l = decide (shnV b.bins.length (wls W) t < x.d) := by unfold wlL; dsimp only; rw [hnx]; rfl
       refine sp rfl (PE.extract rfl rfl) rfl ?_
       refine sp rfl (PE.extract rfl rfl) rfl ?_
       refine alc rfl zl69 rfl (fun b16 => ?_)
       first | (refine stoA rfl rfl rfl cn69 rfl rfl rfl (ints_one _) ?_) | (refine stoA rfl rfl rfl cn69 rfl (by rw [ints_length]; exact htl) rfl (ints_one _) ?_)
       refine sp rfl (PE.assign rfl) rfl ?_
       refine sy_seq ?_
       refine sy_draw [0, 1, 3, 3, 15, 3, 3, 99, 227, 483, 1023, 2047] (.tk 0 (.tk 1 (.ld 2 (.ld 3 (.ld 5 (.ld 6 (.tk 7 (.tk 8 (.ld 9 (.big 4 (.tk 10 (.tk 11 .done)))))))))))) mixed (by kernel_rfl) ?_
       refine tk rfl (PE.move rfl) rfl ?_
       refine tk rfl (PE.move rfl) rfl ?_
       refine ldG rfl rfl rfl rfl rfl (lh sc134 rfl rfl) rfl ?_
       refine ldG rfl rfl rfl rfl rfl (lhA (rest := []) (ints t) ag69 rfl (by rw [List.append_nil]; rfl) (by rw [ints_length]; exact htl)) rfl ?_
       refine ldG rfl rfl rfl rfl rfl (lfB (sz := 1) sc32 rfl) rfl ?_
       refine ldG rfl rfl rfl rfl rfl (lh sc3 rfl rfl) rfl ?_
       refine tkG rfl rfl rfl rfl (PE.indexAddr el32 rfl rfl (by omega) (by omega)) rfl ?_
       refine tkG rfl rfl rfl rfl (PE.fieldAddr fo37_1 rfl) rfl ?_
       refine ldG rfl rfl rfl rfl rfl (lf (j := 1) (row := werow x) sc3 (we_get hx) rfl) rfl ?_
       refine clFVG rfl rfl rfl rfl rfl (cal72) rfl rfl (c_shows1 b hok ab cb bd m W (some ⟨bw, ow, none⟩) cw b35 b9 b6 b3 hwl hwz t htl _ _) ?_
       refine bg (fun w hs => ⟨(lf (j := 1) (row := werow x) sc3 (we_get hx) rfl) w hs, (lh sc3 rfl rfl) w hs, (lfB (sz := 1) sc32 rfl) w hs, trivial, trivial, trivial⟩) ?_
       refine tkG rfl rfl rfl rfl (PE.geq rfl rfl) rfl ?_
       refine tk rfl (PE.pick rfl rfl rfl) rfl ?_
       refine sy_cond rfl (fun hc4 => ?_) (fun hc4 => ?_)
       try simp only [decide_eq_true_eq, decide_eq_false_iff_not, Bool.and_eq_true, Bool.or_eq_true, Bool.not_eq_true', Int.not_le, Int.not_lt] at hc4
       have hbad : (fun l => !wlL b.dsk (wls W) (x.l, x.d) l) l = true := by dsimp only; rw [hwl1, decide_eq_false (by omega)]; rfl
       refine sy_seq ?_
       refine sy_tx' [0, 1] rfl ?_
       refine sto rfl rfl rfl cn3 rfl rfl rfl rfl ?_
       refine sto rfl rfl rfl cn33 rfl rfl rfl rfl ?_
       refine sy_ret ?_
       exact sy_roundRet (.inr ⟨rfl, by rw [wlSt_any, any_of hk hbad]; rfl, rfl, rfl⟩) (fun _ h => (h.del b16).ftail)
       try simp only [decide_eq_true_eq, decide_eq_false_iff_not, Bool.and_eq_true, Bool.or_eq_true, Bool.not_eq_true', Int.not_le, Int.not_lt] at hc4
       have hno2 : (fun l => !wlL b.dsk (wls W) (x.l, x.d) l) l = false := by dsimp only; rw [hwl1, decide_eq_true (by omega)]; rfl
       refine sy_skip ?_
       exact sy_roundOn (.inl ⟨rfl, no_more hk hno hno2, rfl, rfl⟩) (fun _ h => (h.del b16).ftail)
       rintro _ _ _ _ (⟨rfl, rfl, hh, rfl, rfl⟩ | ⟨rfl, rfl, hh, rfl, rfl⟩)
       refine sy_jn ?_
       refine sy_tx' [0, 1] rfl ?_
       refine sp rfl (PE.add rfl rfl (by omega)) rfl ?_
       refine sp rfl (PE.move rfl) rfl ?_
       exact sy_nextD ⟨(i + 1, bd0 :: mk), by dsimp only; omega, take_all (wls_get hx) hws hh⟩ (by dsimp only; omega) (by repeat' first | exact Sub.nil | apply Sub.cons | rfl | (simp [lk]; omega)) rfl (fun w h => St.sub (((h.del b14).del b13).perm (perm_swap3 [_] [_, _, _, _, _] _)))
       refine sy_jc ?_
       refine sy_ret ?_
       have hsv := hE _ (shw_no hwe (wls_mem hxm) hh)
       refine Sy.heap (H' := mkh (bd0 :: mk) ++ ((b5, cel 33 [.int .i64 8]) :: (b4, cel 3 [.int .i64 0]) :: H)) (R' := R) (fun w h => St.sub (((((((h.del b14).del b13).del b12).del m).del b2)).perm (List.Perm.cons _ (perm_swap3 [_, _] (mkh mk) H)))) ?_
       exact sy_returnM (bd0 :: mk) (fun _ h => h) rfl (.cons (RV.cell rfl (lh sc3 rfl rfl)) (.cons (RV.cell rfl (lh sc33 rfl rfl)) .nil)) rfl ⟨by rw [hsv]; rfl, rfl, rfl⟩ (fun w h => St.sub ((h.del b5).del b4))
      try simp only [decide_eq_true_eq, decide_eq_false_iff_not, Bool.and_eq_true, Bool.or_eq_true, Bool.not_eq_true', Int.not_le, Int.not_lt] at hc3
      obtain rfl : i = W.length := by omega
      rw [List.take_of_length_le (by rw [wls_len]; exact Nat.le_refl _)] at hws
      have hsml := (b.state_sml hok).len
      have hrr := shnV_rng hpre b.bins.length b.state
      refine sy_exit ?_
      repeat refine sy_tx ?_
      refine sy_bx ?_
      refine sy_seq ?_
      refine sy_draw [0, 0, 2, 7, 15] (.ld 0 (.ld 1 (.big 2 (.big 3 (.tk 4 .done))))) mixed (by kernel_rfl) ?_
      refine ld rfl rfl (lh sc134 rfl rfl) rfl ?_
      refine ld rfl rfl (lhA (btl b (b.sl ab cb)) ag27 rfl rfl rfl) rfl ?_
      refine clV rfl cal26 rfl rfl (c_state b ab cb hok _ _) ?_
      refine bg (fun w hs => ⟨trivial, (lh sc134 rfl rfl) w hs, trivial⟩) ?_
      refine clFV rfl rfl (cal72) rfl rfl (c_shows1 b hok ab cb bd m W (some ⟨bw, ow, none⟩) cw b35 b9 b6 b3 hwl hwz b.state hsml _ _) ?_
      refine bg (fun w hs => ⟨trivial, trivial⟩) ?_
      refine tk rfl (PE.assign rfl) rfl ?_
      refine sy_seq ?_
      refine sy_seq ?_
      refine sy_tx' [0, 1] rfl ?_
      refine sp rfl (PE.move rfl) rfl ?_
      refine sp rfl (PE.eql rfl rfl) rfl ?_
      refine sy_cond rfl (fun hc5 => ?_) (fun hc5 => ?_)
      try simp only [decide_eq_true_eq, decide_eq_false_iff_not, Bool.and_eq_true, Bool.or_eq_true, Bool.not_eq_true', Int.not_le, Int.not_lt] at hc5
      have hsv := hE _ (shw_none hwe (show shnV b.bins.length (wls W) b.state = 1000000 from hc5))
      refine sy_seq ?_
      refine sy_tx' [0, 1] rfl ?_
      refine sto rfl rfl rfl cn3 rfl rfl rfl rfl ?_
      refine sto rfl rfl rfl cn33 rfl rfl rfl rfl ?_
      refine sy_ret ?_
      first
        | (refine Sy.heap (H' := mkh mk ++ ((b5, cel 33 [.int .i64 8]) :: (b4, cel 3 [.int .i64 0]) :: H)) (R' := R) (fun w h => St.sub ((((h.del b12).del m).del b2).perm (perm_swap3 [_, _] (mkh mk) H))) ?_
           exact sy_returnM mk (fun _ h => h) rfl (.cons (RV.cell rfl (lh sc3 rfl rfl)) (.cons (RV.cell rfl (lh sc33 rfl rfl)) .nil)) rfl ⟨by rw [hsv]; rfl, rfl, rfl⟩ (fun w h => St.sub ((h.del b5).del b4)))
        | (refine Sy.heap (H' := mkh mk ++ ((b5, cel 33 [.int .i64 0]) :: (b4, cel 3 [.int .i64 (shnV b.bins.length (wls W) b.state)]) :: H)) (R' := R) (fun w h => St.sub ((((h.del b12).del m).del b2).perm (perm_swap3 [_, _] (mkh mk) H))) ?_
           exact sy_returnM mk (fun _ h => h) rfl (.cons (RV.cell rfl (lh sc3 rfl rfl)) (.cons (RV.cell rfl (lh sc33 rfl rfl)) .nil)) rfl ⟨by rw [hsv]; rfl, rfl, rfl⟩ (fun w h => St.sub ((h.del b5).del b4)))
      try simp only [decide_eq_true_eq, decide_eq_false_iff_not, Bool.and_eq_true, Bool.or_eq_true, Bool.not_eq_true', Int.not_le, Int.not_lt] at hc5
      have hsv := hE _ (shw_yes hwe hws (show shnV b.bins.length (wls W) b.state ≠ 1000000 from hc5))
      refine sy_skip ?_
      refine sy_seq ?_
      refine sy_tx' [0, 1, 2] rfl ?_
      refine sp rfl (PE.move rfl) rfl ?_
      refine sto rfl rfl rfl cn3 rfl rfl rfl rfl ?_
      refine sto rfl rfl rfl cn33 rfl rfl rfl rfl ?_
      refine sy_ret ?_
      first
        | (refine Sy.heap (H' := mkh mk ++ ((b5, cel 33 [.int .i64 8]) :: (b4, cel 3 [.int .i64 0]) :: H)) (R' := R) (fun w h => St.sub ((((h.del b12).del m).del b2).perm (perm_swap3 [_, _] (mkh mk) H))) ?_
           exact sy_returnM mk (fun _ h => h) rfl (.cons (RV.cell rfl (lh sc3 rfl rfl)) (.cons (RV.cell rfl (lh sc33 rfl rfl)) .nil)) rfl ⟨by rw [hsv]; rfl, rfl, rfl⟩ (fun w h => St.sub ((h.del b5).del b4)))
        | (refine Sy.heap (H' := mkh mk ++ ((b5, cel 33 [.int .i64 0]) :: (b4, cel 3 [.int .i64 (shnV b.bins.length (wls W) b.state)]) :: H)) (R' := R) (fun w h => St.sub ((((h.del b12).del m).del b2).perm (perm_swap3 [_, _] (mkh mk) H))) ?_
           exact sy_returnM mk (fun _ h => h) rfl (.cons (RV.cell rfl (lh sc3 rfl rfl)) (.cons (RV.cell rfl (lh sc33 rfl rfl)) .nil)) rfl ⟨by rw [hsv]; rfl, rfl, rfl⟩ (fun w h => St.sub ((h.del b5).del b4)))
end Go.Proofs.YtelegnmfhjfbaaaGreat
namespace Go.Proofs.YtelegnmfhjfbaaaGreat
set_option linter.unusedSimpArgs false
set_option linter.unusedVariables false
open Go
structure OQ (e sz : Nat) (rows : List (List Value)) where
  b : Nat
  off : Nat
  cap : Nat
  pre : List Value
  junk : List Value
  len : ∀ r ∈ rows, r.length = sz
  pl : pre.length = off
  room : cap * sz ≤ rows.length * sz + junk.length
  le : rows.length ≤ cap
  mx : cap ≤ 9223372036854775807
def OQ.fs {e sz : Nat} {rows : List (List Value)} (q : OQ e sz rows) : Value := .slice (some ⟨q.b, q.off, none⟩) rows.length q.cap
def OQ.G {e sz : Nat} {rows : List (List Value)} (q : OQ e sz rows) : Heap := [(q.b, cel e (q.pre ++ (rows.flatten ++ q.junk)))]
theorem spl_mid {a r j v : List Value} {o : Nat} (e : o = a.length + r.length) (h : v.length ≤ j.length) : spl (a ++ (r ++ j)) o v = a ++ ((r ++ v) ++ j.drop v.length) := by
  subst e
  unfold spl
  rw [← List.append_assoc a r j, show a.length + r.length = (a ++ r).length by simp, List.take_left, List.drop_append, List.drop_of_length_le (by omega), List.nil_append]
  simp [List.append_assoc]
theorem run_app_q {P : Program} {t ty e sz by_ : Nat} (ht : apT P t = some (e, sz, by_)) {rows news : List (List Value)} (q : OQ e sz rows) {T : Heap} {R : Facts} {w : World} (hs : St (q.G ++ T) R w)
    {ax : Option Addr} {c : Nat} (hr : RowsA ax sz news w) (h0 : news ≠ []) (h1 : onecells news = true) (hby : (rows.length + news.length) * by_ ≤ 140737488355328) (h63 : rows.length + news.length ≤ 9223372036854775807) :
    ∃ (q' : OQ e sz (rows ++ news)) (w' : World), (Builtin.append_ #[t, t] ty #[q.fs, .slice ax news.length c]).run P w = .ok q'.fs w' ∧ St (q'.G ++ T) R w' := by
  unfold apT at ht
  split at ht
  case h_2 => cases ht
  rename_i e' hu
  split at ht
  case h_2 => cases ht
  rename_i i hi
  split at ht
  case h_2 => cases ht
  rename_i z hz
  cases hzs : Nat.beq z.cells.size i.size with
  | false => rw [hzs] at ht; cases ht
  | true =>
  rw [hzs, cond_true] at ht
  cases ht
  have hzs := Nat.eq_of_beq_eq_true hzs
  have hnl := rows_len hr
  obtain ⟨b, off, cap, pre, junk, hl, hpl, hroom0, hle, hmx⟩ := q
  have hlen' : ∀ r ∈ rows ++ news, r.length = i.size := fun r h => by rcases List.mem_append.1 h with h | h; exact hl r h; exact hnl r h
  have hnf := flat_len hnl
  have hrf := flat_len hl
  obtain ⟨bx, offx, rfl⟩ := rows_addr hr h0
  have hcell : ∀ j v, news.flatten[j]? = some v → w.cell? ((⟨bx, offx, none⟩ : Addr).add j) = some v := fun j v h => by rw [addr_add]; exact rows_flat hr j v h
  have hn0 : 0 < news.length := List.length_pos_iff.2 h0
  have hb := hs.held (b, cel e (pre ++ (rows.flatten ++ junk))) (by simp [OQ.G])
  by_cases hroom : rows.length + news.length ≤ cap
  · have hm2 : (rows.length + news.length) * i.size ≤ cap * i.size := Nat.mul_le_mul_right _ hroom
    rw [Nat.add_mul] at hm2
    have hjl : news.flatten.length ≤ junk.length := by omega
    have hst := run_storeA (P := P) (e := e) (od := off + rows.length * i.size) (vs := news.flatten) (List.all_eq_true.2 (one_flat h1)) (by simp only [List.length_append, hrf, hpl]; omega) hb
    have hfc := run_firstCells_some (P := P) w i.size news.length ⟨bx, offx, none⟩ news.length c news.flatten hnf hcell
    have hsp : spl (pre ++ (rows.flatten ++ junk)) (off + rows.length * i.size) news.flatten = pre ++ ((rows ++ news).flatten ++ junk.drop news.flatten.length) := by
      rw [spl_mid (by rw [hpl, hrf]) hjl, List.flatten_append]
    rw [hsp] at hst
    refine ⟨⟨b, off, cap, pre, junk.drop news.flatten.length, hlen', hpl, by rw [List.length_append, List.length_drop, Nat.add_mul]; omega, by rw [List.length_append]; exact hroom, hmx⟩, { w with heap := w.heap.setIfInBounds b (cel e (pre ++ ((rows ++ news).flatten ++ junk.drop news.flatten.length))) }, ?_, St.set hs⟩
    have e0 : (⟨b, off, none⟩ : Addr).add (rows.length * i.size) = ⟨b, off + rows.length * i.size, none⟩ := by rw [addr_add]
    simp [OQ.fs, Builtin.append_, run_underlying hu, sizeOf, typeInfo, hi, Builtin.lenOf, hroom, hfc, e0, hst]
  · have holds : ∀ j v, rows.flatten[j]? = some v → w.cell? ((⟨b, off, none⟩ : Addr).add j) = some v := fun j v h => by
      have hlt : j < rows.flatten.length := (List.getElem?_eq_some_iff.1 h).1
      rw [addr_add, cell_of hb]
      simp only [List.getElem?_toArray]
      rw [List.getElem?_append_right (by omega), show off + j - pre.length = j by omega, List.getElem?_append_left hlt]; exact h
    have h2 := run_append_grow (P := P) w t ty e i z hu hi hz ⟨b, off, none⟩ rows.length cap rows.flatten hrf holds ⟨bx, offx, none⟩ news.length c news.flatten hnf hcell (by omega) (by omega) (growslice_fits (by omega) hby)
    have hge := grownCap_ge w (rows.length + news.length) cap e
    have hcm : grownCap w (rows.length + news.length) cap e ≤ maxLen := grownCap_le_maxLen w _ cap e (by simp only [maxLen]; omega)
    refine ⟨⟨w.heap.size, 0, grownCap w (rows.length + news.length) cap e, [], (Builtin.zeroCells z.cells (grownCap w (rows.length + news.length) cap e - (rows.length + news.length))).toList, hlen', rfl, ?_, by rw [List.length_append]; exact hge, by simp only [maxLen] at hcm; omega⟩, w.drew.alloc (.cells (rows.flatten.toArray ++ news.flatten.toArray ++ Builtin.zeroCells z.cells (grownCap w (rows.length + news.length) cap e - (rows.length + news.length))) e), ?_, ?_⟩
    · simp only [Array.length_toList, size_zeroCells, hzs, List.length_append, ← Nat.add_mul]
      exact Nat.mul_le_mul_right _ (by omega)
    · exact h2.trans (by simp only [OQ.fs, List.length_append])
    · have h3 := (St.tail hs).drew.alloc (.cells (rows.flatten.toArray ++ news.flatten.toArray ++ Builtin.zeroCells z.cells (grownCap w (rows.length + news.length) cap e - (rows.length + news.length))) e)
      rw [show w.drew.heap.size = w.heap.size from rfl] at h3
      have e1 : (cel e ([] ++ ((rows ++ news).flatten ++ (Builtin.zeroCells z.cells (grownCap w (rows.length + news.length) cap e - (rows.length + news.length))).toList))) = .cells (rows.flatten.toArray ++ news.flatten.toArray ++ Builtin.zeroCells z.cells (grownCap w (rows.length + news.length) cap e - (rows.length + news.length))) e := by
        unfold cel; congr 1; apply Array.toList_inj.1; simp
      show St ((_, _) :: T) R _
      rw [e1]; exact h3
section
variable {P : Program} {r : Option Nat} {ops : Array Oper} {n : Nat} {L : Slots} {D : List Deferred} {H : Heap} {R : Facts} {K : Act → World → Prop}
  {i d : Nat} {ty : TypeId} {pos : String} {af : Array Edge}
theorem apQ {t e sz by_ c k : Nat} {s x : Operand} {rows news : List (List Value)} (q : OQ e sz rows) {ax : Option Addr} {C : Heap → Heap}
    (ho : ops[i]? = some ⟨some d, .call { callee := .builtin .append, args := #[s, x], argTypes := #[t, t] }, ty, pos, af, none⟩) (ht : apT P t = some (e, sz, by_))
    (hs : ev L s = some q.fs) (hx : ev L x = some (.slice ax k c)) (hr : ∀ w, St H R w → RowsA ax sz news w) (hk : news.length = k) (h0 : news ≠ []) (h1 : onecells news = true)
    (hb : (rows.length + news.length) * by_ ≤ 140737488355328 ∧ rows.length + news.length ≤ 9223372036854775807) (hd : Nat.blt d n = true)
    [rp : RepF q.G H C]
    (h : ∀ q' : OQ e sz (rows ++ news), Sy n ((d, q'.fs) :: L) D (C q'.G) R K) : Sy n L D H R (stp P r ops i K) := fun a w ha hD hs0 => by
  subst hk
  obtain ⟨T, p1, p2⟩ := rp.rep
  obtain ⟨q', w', h2, h3⟩ := run_app_q ht q (hs0.perm p1) (hr w hs0) h0 h1 hb.1 hb.2
  refine stp_value ho (wanted_none _ rfl _) (v := q'.fs) (w' := w') ?_ (h q' _ _ (ha.put (by simpa using hd) _) hD (h3.perm (p2 _)))
  simp only [execOp, resolve, invoke, builtin, Sem.run_bind, Sem.run_pure, Result.andThen, List.map_toArray, List.map_cons, List.map_nil, ha.reads _ _ hs, ha.reads _ _ hx]
  rw [show (Builtin.append_ #[t, t] ty #[q.fs, .slice ax news.length c]).run P w = _ from h2]
end
def OQ.cast {e sz : Nat} {rows rows' : List (List Value)} (q : OQ e sz rows) (h : rows = rows') : OQ e sz rows' := h ▸ q
@[simp] theorem OQ.cast_fs {e sz : Nat} {rows rows' : List (List Value)} (q : OQ e sz rows) (h : rows = rows') : (q.cast h).fs = q.fs := by subst h; rfl
@[simp] theorem OQ.cast_G {e sz : Nat} {rows rows' : List (List Value)} (q : OQ e sz rows) (h : rows = rows') : (q.cast h).G = q.G := by subst h; rfl
theorem OQ.pop {e sz : Nat} {row : List Value} {rows : List (List Value)} (q : OQ e sz (row :: rows)) : ∃ q' : OQ e sz rows, q'.fs = .slice (if q.cap = 1 then some ⟨q.b, q.off, none⟩ else some ⟨q.b, q.off + 1 * sz, none⟩) rows.length (q.cap - 1) ∧ q'.G = q.G := by
  obtain ⟨b, off, cap, pre, junk, hl, hpl, hroom, hle, hmx⟩ := q
  have hrl := hl row (by simp)
  rw [List.length_cons] at hroom hle
  rw [Nat.add_mul] at hroom
  by_cases h1 : cap = 1
  · have hr0 : rows = [] := List.length_eq_zero_iff.1 (by omega)
    subst hr0
    refine ⟨⟨b, off, cap - 1, pre, row ++ junk, by simp, hpl, by rw [h1]; simp, by simp, by omega⟩, ?_, ?_⟩
    · unfold OQ.fs; dsimp only; rw [if_pos h1]
    · unfold OQ.G; simp
  · refine ⟨⟨b, off + 1 * sz, cap - 1, pre ++ row, junk, fun r hr => hl r (by simp [hr]), by rw [List.length_append, hpl, hrl]; omega, by rw [Nat.sub_mul]; omega, by omega, by omega⟩, ?_, ?_⟩
    · unfold OQ.fs; dsimp only; rw [if_neg h1]
    · unfold OQ.G; simp [List.append_assoc]
theorem OQ.one {e sz : Nat} (b : Nat) {row : List Value} (h : row.length = sz) : ∃ q : OQ e sz [row], q.fs = .slice (some ⟨b, 0, none⟩) 1 1 ∧ q.G = [(b, cel e row)] :=
  ⟨⟨b, 0, 1, [], [], by simp [h], rfl, by simp, by simp, by decide⟩, rfl, by unfold OQ.G; simp⟩
end Go.Proofs.YtelegnmfhjfbaaaGreat
namespace Go.Proofs.YtelegnmfhjfbaaaGreat
set_option linter.unusedSimpArgs false
set_option linter.unusedVariables false
open Go
theorem cal27 : cal Tryz.prog 27 = true := by kernel_rfl
theorem sc74 : scal Tryz.prog 74 = true := by kernel_rfl
structure Rz (d : Dsk) (n : Nat) (days : Int) (s t : HSt) : Prop where
  inS : d.inS t
  le : undP d.n s t = true
  lv : t = s ∨ d.lvl n t ≤ days
theorem Rz.same {d : Dsk} {n : Nat} {days : Int} {s : HSt} (h : d.inS s) : Rz d n days s s := ⟨h, undP_iff.2 fun _ _ => Int.le_refl _, .inl rfl⟩
def mz (d : Dsk) (s : HSt) : Int := (na d.most 0 - na s 0) + (na d.most 1 - na s 1) + (na d.most 2 - na s 2) + (na d.most 3 - na s 3)
def rzm (d : Dsk) (s : HSt) (i : Nat) : Nat := (mz d s).toNat + (d.n - i)
theorem mz_nn {d : Dsk} (hd : d.ok) {s : HSt} (hs : d.inS s) : 0 ≤ mz d s := by
  have hn := hd.n
  have key : ∀ k < 4, na s k ≤ na d.most k := fun k hk => by
    have h2 := hd.most.at_ k hk
    rcases Nat.lt_or_ge k d.n with h | h
    · rcases hs.at_ k h with h1 | h1 <;> omega
    · have := hs.out k hk h; omega
  have k0 := key 0 (by omega); have k1 := key 1 (by omega); have k2 := key 2 (by omega); have k3 := key 3 (by omega)
  unfold mz; omega
theorem na_set4 {s : HSt} {i j : Nat} {v : Int} (hs : s.length = 4) (hi : i < 4) : na (s.set i v) j = if i = j then v else na s j := by
  unfold na
  rw [List.getD_eq_getElem?_getD, List.getD_eq_getElem?_getD, List.getElem?_set]
  by_cases h : i = j
  · subst h; rw [if_pos rfl, if_pos (by omega), if_pos rfl]; rfl
  · rw [if_neg h, if_neg h]
theorem up_facts {d : Dsk} (hd : d.ok) {s : HSt} (hs : d.inS s) {i : Nat} (hi : i < d.n) (h : na s i < na d.most i) :
    d.inS (s.set i (na s i + 1)) ∧ undP d.n s (s.set i (na s i + 1)) = true ∧ rzm d (s.set i (na s i + 1)) i < rzm d s i := by
  have hn := hd.n
  have hsl := hs.len
  have hmv := hd.ever i hi
  have hsi := hs.at_ i hi
  have ha : ∀ j, na (s.set i (na s i + 1)) j = if i = j then na s i + 1 else na s j := fun j => na_set4 hsl (by omega)
  have hin : d.inS (s.set i (na s i + 1)) := by
    refine ⟨by rw [List.length_set]; exact hsl, fun k hk => ?_, fun k hk hk' => ?_⟩
    · rw [ha]
      by_cases e : i = k
      · subst e; rw [if_pos rfl]; right; omega
      · rw [if_neg e]; exact hs.at_ k hk
    · rw [ha, if_neg (by omega)]; exact hs.out k hk hk'
  refine ⟨hin, undP_iff.2 fun k hk => ?_, ?_⟩
  · rw [ha]; split
    · rename_i e; subst e; omega
    · exact Int.le_refl _
  · have h0 := mz_nn hd hin
    have e : mz d (s.set i (na s i + 1)) = mz d s - 1 := by
      unfold mz
      rw [ha, ha, ha, ha]
      have hi4 : i < 4 := by omega
      match i, hi4 with
      | 0, _ => simp; omega
      | 1, _ => simp; omega
      | 2, _ => simp; omega
      | 3, _ => simp; omega
    unfold rzm
    rw [e] at h0 ⊢
    omega
theorem Rz.trans {d : Dsk} {n : Nat} {days : Int} {s u t : HSt} (h : Rz d n days u t) (hle : undP d.n s u = true) (hl : d.lvl n u ≤ days) : Rz d n days s t :=
  ⟨h.inS, undP_trans hle h.le, .inr (by rcases h.lv with rfl | h1; exact hl; exact h1)⟩
theorem kpt_next {d : Dsk} (hd : d.ok) {s t : HSt} (hs : d.inS s) {l : List Nat} (hl : l ∈ d.trs false) (hn : d.next s l = some t) {v w : Int} (hv : Kpt d s v) (hw : Kpt d t w) (h : v ≠ 1000000) : w < v := by
  have ht := d.next_inS hd hs (d.trs_lt hl) hn
  have key : ∀ j : Nat, (w = 1000000 ∨ (j : Int) ≤ w) → ((j + 1 : Nat) : Int) ≤ v := fun j hj => by
    obtain ⟨u, c, hp⟩ := (kpt_pth hd ht hw j).2 hj
    rcases (kpt_pth hd hs hv (j + 1)).1 ⟨u, _, d.pth_cons hl hn hp⟩ with h1 | h1
    · exact absurd h1 h
    · exact h1
  have h1 := kpt_nn hw; have h2 := kpt_nn hv
  by_cases h3 : w = 1000000
  · have := key 20000 (.inl h3); omega
  · have := key w.toNat (.inr (by omega)); omega
structure Bq (d : Dsk) (n : Nat) (s0 : HSt) (V : List HSt) (j : Nat) : Prop where
  nd : V.Nodup
  sts : ∀ v ∈ V, d.inS v
  lv : ∀ v ∈ V, d.lvl n v ≤ d.lvl n s0
  fst : ∃ v ∈ V, undP d.n s0 v = true
  cov : ∀ i v, i < j → V[i]? = some v → ∀ l ∈ d.trs false, ∀ t, d.next v l = some t → ∃ u ∈ V, undP d.n t u = true ∧ d.lvl n u < d.lvl n v
theorem Bq.start {d : Dsk} {n : Nat} {s0 u : HSt} (h : Rz d n (d.lvl n s0) s0 u) : Bq d n s0 [u] 0 :=
  ⟨by simp, fun v hv => by rw [List.mem_singleton.1 hv]; exact h.inS, fun v hv => by
    rw [List.mem_singleton.1 hv]
    rcases h.lv with rfl | h1
    · exact Int.le_refl _
    · exact h1, ⟨u, by simp, h.le⟩, fun i v hi => absurd hi (Nat.not_lt_zero _)⟩
theorem Bq.add {d : Dsk} {n : Nat} {s0 u : HSt} {V : List HSt} {j : Nat} (h : Bq d n s0 V j) (hj : j ≤ V.length) (hu : d.inS u) (hn : u ∉ V) (hl : d.lvl n u ≤ d.lvl n s0) : Bq d n s0 (V ++ [u]) j where
  nd := List.nodup_append.2 ⟨h.nd, by simp, fun x hx y hy e => hn (by rw [← List.mem_singleton.1 hy, ← e]; exact hx)⟩
  sts v hv := by
    rcases List.mem_append.1 hv with hv | hv
    · exact h.sts v hv
    · rw [List.mem_singleton.1 hv]; exact hu
  lv v hv := by
    rcases List.mem_append.1 hv with hv | hv
    · exact h.lv v hv
    · rw [List.mem_singleton.1 hv]; exact hl
  fst := by obtain ⟨v, hv, h1⟩ := h.fst; exact ⟨v, List.mem_append_left _ hv, h1⟩
  cov i v hi hv l hl t ht := by
    rw [List.getElem?_append_left (by omega)] at hv
    obtain ⟨w, hw, h1⟩ := h.cov i v hi hv l hl t ht
    exact ⟨w, List.mem_append_left _ hw, h1⟩
def CvK (d : Dsk) (n : Nat) (V : List HSt) (p : HSt) (k : Nat) : Prop := ∀ i l, i < k → (d.trs false)[i]? = some l → ∀ t, d.next p l = some t → ∃ u ∈ V, undP d.n t u = true ∧ d.lvl n u < d.lvl n p
theorem CvK.more {d : Dsk} {n : Nat} {V : List HSt} {p : HSt} {k : Nat} {l : List Nat} (h : CvK d n V p k) (hk : (d.trs false)[k]? = some l) (hl : ∀ t, d.next p l = some t → ∃ u ∈ V, undP d.n t u = true ∧ d.lvl n u < d.lvl n p) : CvK d n V p (k + 1) := fun i m hi hm => by
  rcases Nat.lt_or_ge i k with h1 | h1
  · exact h i m h1 hm
  · obtain rfl : i = k := by omega
    rw [hk] at hm; cases hm; exact hl
theorem CvK.add {d : Dsk} {n : Nat} {V : List HSt} {p : HSt} {k : Nat} (h : CvK d n V p k) (u : HSt) : CvK d n (V ++ [u]) p k := fun i l hi hl t ht => by
  obtain ⟨w, hw, h1⟩ := h i l hi hl t ht
  exact ⟨w, List.mem_append_left _ hw, h1⟩
theorem Bq.next {d : Dsk} {n : Nat} {s0 p : HSt} {V : List HSt} {j : Nat} (h : Bq d n s0 V j) (hp : V[j]? = some p) (hc : CvK d n V p (d.trs false).length) : Bq d n s0 V (j + 1) :=
  ⟨h.nd, h.sts, h.lv, h.fst, fun i v hi hv l hl t ht => by
    rcases Nat.lt_or_ge i j with h1 | h1
    · exact h.cov i v h1 hv l hl t ht
    · obtain rfl : i = j := by omega
      rw [hp] at hv; cases hv
      obtain ⟨k, hk⟩ := List.getElem?_of_mem hl
      exact hc k l (List.getElem?_eq_some_iff.1 hk).1 hk t ht⟩
theorem Bq.few {d : Dsk} (hd : d.ok) {n : Nat} {s0 : HSt} {V : List HSt} {j : Nat} (h : Bq d n s0 V j) : V.length ≤ d.nst := by
  have := nodup_len h.nd (m := d.sts) fun t ht => (d.mem_sts hd t).2 (h.sts t ht)
  rw [d.sts_len] at this
  exact this
def wlV (d : Dsk) (n : Nat) (V : List HSt) : WL := V.map fun v => (v.take d.n, d.lvl n v)
theorem pad_take {d : Dsk} {s : HSt} (hn : d.n ≤ 4) (h : d.inS s) : pad (s.take d.n) = s := by
  have hl := h.len
  refine ext4 (pad_len' (by rw [List.length_take]; omega)) hl fun k hk => ?_
  rw [pad_na]
  by_cases hkn : k < d.n
  · unfold na; rw [List.getD_eq_getElem?_getD, List.getD_eq_getElem?_getD, List.getElem?_take, if_pos hkn]
  · rw [h.out k hk (by omega)]
    unfold na
    rw [List.getD_eq_getElem?_getD, List.getElem?_eq_none (by rw [List.length_take]; omega)]; rfl
theorem undP_take {n : Nat} {s t : List Int} : undP n s (t.take n) = undP n s t := by
  rw [Bool.eq_iff_iff, undP_iff, undP_iff]
  have key : ∀ k < n, na (t.take n) k = na t k := fun k hk => by unfold na; rw [List.getD_eq_getElem?_getD, List.getD_eq_getElem?_getD, List.getElem?_take, if_pos hk]
  exact ⟨fun h k hk => by rw [← key k hk]; exact h k hk, fun h k hk => by rw [key k hk]; exact h k hk⟩
theorem Bq.wall {b : Barn} (hok : b.ok) {n : Nat} (hn : n ≤ 14641) (hfx : b.dsk.alive (n + 1) = b.dsk.alive n) {V : List HSt} (h : Bq b.dsk n b.state V V.length) (hm : b.dsk.lvl n b.state ≠ 1000000) :
    shwV b (wlV b.dsk n V) = (b.dsk.lvl n b.state, 0) := by
  have hd := b.dsk_ok hok
  have hmn := hok.many
  have hdn : b.dsk.n = b.bins.length := rfl
  have hks := kpt_of (b.state_sts hok) hn hfx
  have hk : ∀ v ∈ V, Kpt b.dsk v (b.dsk.lvl n v) := fun v hv => kpt_of ((b.dsk.mem_sts hd v).2 (h.sts v hv)) hn hfx
  have hr : ∀ v ∈ V, 0 ≤ b.dsk.lvl n v ∧ b.dsk.lvl n v ≤ 14641 := fun v hv => by
    have h1 := kpt_nn (hk v hv); have h2 := kpt_nn hks; have h3 := h.lv v hv; omega
  have hf := h.few hd
  have hn14 := (b.dsk.nst_le hd).2
  have hwe : wlErr b (wlV b.dsk n V) = 0 := by
    obtain ⟨v0, hv0, _⟩ := h.fst
    have hpos := List.length_pos_of_mem hv0
    refine wlErr_ok (by unfold wlV; rw [List.length_map]; simp [inB]; omega) fun y hy => ?_
    obtain ⟨v, hv, rfl⟩ := List.mem_map.1 hy
    have hi := h.sts v hv
    have hvl := hi.len
    have hvr := hr v hv
    refine stErr_ok (by dsimp only; rw [List.length_take]; omega) (by simp [inB]; omega) fun k hk => ?_
    obtain ⟨x, hx⟩ : ∃ x, b.bins[k]? = some x := ⟨_, List.getElem?_eq_getElem hk⟩
    have he := (b.most_ever hok hx).1
    have hev := (hd.ever k hk).2.1
    have hna : na (v.take b.dsk.n) k = na v k := by unfold na; rw [List.getD_eq_getElem?_getD, List.getD_eq_getElem?_getD, List.getElem?_take, if_pos (hdn ▸ hk)]
    dsimp only
    rw [hna]
    unfold badL
    rw [bin_getD hx]
    rcases hi.at_ k hk with ⟨h1, h2⟩ | ⟨h1, h2, h3⟩
    · rw [decide_eq_true (he.1 h1), h2]; rfl
    · rw [decide_eq_false (fun h0 => h1 (he.2 h0)), cond_false]
      have : inB (na v k) 0 10 = true := by simp [inB]; omega
      rw [this]; rfl
  have hmem : ∀ v ∈ V, (v.take b.dsk.n, b.dsk.lvl n v) ∈ wlV b.dsk n V := fun v hv => List.mem_map.2 ⟨v, hv, rfl⟩
  have hws : ∀ s ∈ wlV b.dsk n V, wlSt b.dsk (wlV b.dsk n V) s = true := fun s hs => by
    obtain ⟨v, hv, rfl⟩ := List.mem_map.1 hs
    unfold wlSt
    rw [List.all_eq_true]
    intro l hl
    unfold wlL
    dsimp only
    rw [pad_take hd.n.2 (h.sts v hv)]
    cases hnx : b.dsk.next v l with
    | none => rfl
    | some t =>
      obtain ⟨i, hi⟩ := List.getElem?_of_mem hv
      obtain ⟨u, hu, h1, h2⟩ := h.cov i v (List.getElem?_eq_some_iff.1 hi).1 hi l hl t hnx
      have := shnV_mem (n := b.dsk.n) (t := t) (hmem u hu) (by dsimp only; rw [undP_take]; exact h1)
      exact decide_eq_true (by dsimp only at this; omega)
  obtain ⟨v0, hv0, hu0⟩ := h.fst
  have hle : shnV b.dsk.n (wlV b.dsk n V) b.state ≤ b.dsk.lvl n b.state := by
    have := shnV_mem (n := b.dsk.n) (t := b.state) (hmem v0 hv0) (by dsimp only; rw [undP_take]; exact hu0)
    have h3 := h.lv v0 hv0
    dsimp only at this; omega
  have hkn := kpt_nn hks
  have hne : shnV b.dsk.n (wlV b.dsk n V) b.state ≠ 1000000 := by omega
  have hy := shw_yes hwe hws hne
  have hs := wall_sound hok (W := wlV b.dsk n V) (by rw [hy]) hks
  rw [hy] at hs ⊢
  congr 1
  dsimp only at hs
  omega
def kvL (d : Dsk) (n : Nat) (V : List HSt) : KV := V.map fun s => (s, .int .i64 (d.lvl n s))
theorem kvL_len {d : Dsk} {n : Nat} {V : List HSt} (h : ∀ s ∈ V, s.length = 4) : ∀ e ∈ kvL d n V, e.1.length = 4 := fun e he => by
  obtain ⟨s, hs, rfl⟩ := List.mem_map.1 he
  exact h s hs
theorem kvL_put {d : Dsk} {n : Nat} : ∀ {V : List HSt} {s : HSt}, s ∉ V → (kvL d n V).put s (.int .i64 (d.lvl n s)) = kvL d n (V ++ [s])
  | [], s, _ => rfl
  | v :: V, s, h => by
    have h1 : ¬ v = s := fun e => h (by simp [e])
    have ih := kvL_put (d := d) (n := n) (V := V) (s := s) (fun hm => h (by simp [hm]))
    show KV.put ((v, _) :: kvL d n V) s _ = _
    unfold KV.put
    rw [decide_eq_false h1, cond_false, ih]; rfl
theorem kvL_get {d : Dsk} {n : Nat} : ∀ {V : List HSt} {s : HSt}, s ∈ V → (kvL d n V).get s = some (.int .i64 (d.lvl n s))
  | [], s, h => by cases h
  | v :: V, s, h => by
    show KV.get ((v, _) :: kvL d n V) s = _
    unfold KV.get
    rw [List.find?_cons]
    dsimp only
    by_cases e : v = s
    · rw [decide_eq_true e, e]; rfl
    · rw [decide_eq_false e]
      have hm : s ∈ V := by rcases List.mem_cons.1 h with h1 | h1; exact absurd h1.symm e; exact h1
      exact kvL_get hm
theorem kvL_no {d : Dsk} {n : Nat} : ∀ {V : List HSt} {s : HSt}, s ∉ V → (kvL d n V).get s = none
  | [], s, _ => rfl
  | v :: V, s, h => by
    show KV.get ((v, _) :: kvL d n V) s = _
    unfold KV.get
    rw [List.find?_cons]
    dsimp only
    rw [decide_eq_false (fun e => h (by simp [e]))]
    exact kvL_no (d := d) (n := n) (V := V) (s := s) (fun hm => h (by simp [hm]))
theorem PE.slArrHi {P : Program} {L : Slots} {d : Option Tmp} {ty : TypeId} {pos : String} {af : Array Edge} {g : Option (Nat × Bool)} {T m n b off h : Nat} {x y : Operand} {k : IntKind} (hT : arN P T = some (m, n)) (hx : ev L x = some (.pointer (some ⟨b, off, none⟩))) (hy : ev L y = some (.int k h)) (hh : h ≤ m) :
    PE P L ⟨d, .slice T x none (some y) none, ty, pos, af, g⟩ (.slice (some ⟨b, off, none⟩) h m) := fun ρ hρ w => by
  obtain ⟨e, i, hu, hi, rfl⟩ := arN_und hT
  have ha : (⟨b, off, none⟩ : Addr).add (0 * i.size) = ⟨b, off, none⟩ := by rw [addr_add]; simp
  have hb : ∀ c w, (Instr.sliceBound (.int k (h : Int)) m c).run P w = .ok h w := fun c w => by rw [run_bound (by omega)]; simp
  simp only [execOp, hρ _ _ hx, hρ _ _ hy, Option.map_none, Option.map_some, Instr.sliceAt, Sem.run_bind, run_underlying hu, Result.andThen, Instr.sureAddr, Sem.run_pure, Instr.sliceBounds, hb, sizeOf, typeInfo, program, hi, Sem.run]
  rw [ha]
  by_cases h0 : m = 0 <;> simp [h0]
theorem rowsI {b e n : Nat} {l : List Int} {H : Heap} {R : Facts} [m : Mem1 b (cel e (ints l)) H] : ∀ w, St H R w → RowsA (some ⟨b, 0, none⟩) 1 (irows (l.take n)) w := fun w hs i q hi => by
  rw [List.getElem?_map] at hi
  obtain ⟨v, hv, rfl⟩ := Option.map_eq_some_iff.1 hi
  refine ⟨rfl, b, 0, rfl, fun j x hx => ?_⟩
  have hj : j = 0 := by
    have := (List.getElem?_eq_some_iff.1 hx).1
    simp at this; exact this
  subst hj
  rw [cell_of (hs.held _ m.mem)]
  have hl : l[i]? = some v := by
    rw [List.getElem?_take] at hv
    split at hv
    · exact hv
    · cases hv
  simp only [List.getElem?_cons_zero, Option.some.injEq] at hx
  subst hx
  have h1 := ints_get hl
  simpa using h1
theorem c_raise1 (b : Barn) (hok : b.ok) (ab : Option Addr) (cb bd m : Nat) (n : Nat) (hn : n ≤ 14641) (kv : KV) (hkv : KvOk b.dsk n kv) (x4 x6 : Nat) (days : Int) (s : HSt) (hs : b.dsk.inS s) (i : Nat) (hi : i ≤ b.bins.length)
    (ih : ∀ (s' : HSt) (i' : Nat) (H : Heap) (R : Facts) [hD : MemRows (some ⟨bd, 0, none⟩) 18 [dcs b (b.sl ab cb) b.lasts b.most m] R] [hX : MemRows (some ⟨x4, 0, none⟩) 1 [[.pointer (some ⟨bd, 0, none⟩)]] R] [hY : MemRows (some ⟨x6, 0, none⟩) 1 [[.func (.func 27) #[] #[.pointer (some ⟨x4, 0, none⟩), .pointer (some ⟨x6, 0, none⟩)]]] R] [hK : MemF (KpF m kv) R], b.dsk.inS s' → i' ≤ b.bins.length → rzm b.dsk s' i' < rzm b.dsk s i → Fn Tryz.prog 27 [stv s', .int .i64 days, .int .i64 i', .pointer (some ⟨x4, 0, none⟩), .pointer (some ⟨x6, 0, none⟩)] H R (fun v H' R' => ∃ t, Rz b.dsk n days s' t ∧ v = stv t ∧ H' = H ∧ R' = R)) (H : Heap) (R : Facts) [hD : MemRows (some ⟨bd, 0, none⟩) 18 [dcs b (b.sl ab cb) b.lasts b.most m] R] [hX : MemRows (some ⟨x4, 0, none⟩) 1 [[.pointer (some ⟨bd, 0, none⟩)]] R] [hY : MemRows (some ⟨x6, 0, none⟩) 1 [[.func (.func 27) #[] #[.pointer (some ⟨x4, 0, none⟩), .pointer (some ⟨x6, 0, none⟩)]]] R] [hK : MemF (KpF m kv) R] :
    Fn Tryz.prog 27 [stv s, .int .i64 days, .int .i64 i, .pointer (some ⟨x4, 0, none⟩), .pointer (some ⟨x6, 0, none⟩)] H R (fun v H' R' => ∃ t, Rz b.dsk n days s t ∧ v = stv t ∧ H' = H ∧ R' = R) := by
 have hmn := hok.many
 have hdk := b.dsk_ok hok
 have hl4 := hdk.lasts.len
 have hm4 := hdk.most.len
 refine fn_of Tryz.func27 rfl Tryz.ntmps27 rfl ?_
 refine sy_seq ?_
 refine sy_tx' [0, 1] rfl ?_
 refine bx rfl rfl rfl (fun b5 => ?_)
 refine alc rfl zl69 rfl (fun b8 => ?_)
 refine sy_seq ?_
 refine sy_seq ?_
 refine sy_tx' [0, 1, 2, 3, 4, 5, 6, 7] rfl ?_
 refine sp rfl (PE.move rfl) rfl ?_
 refine spL rfl rfl (lfB (sz := 1) sc65 rfl) rfl ?_
 refine sp rfl (PE.nilCheck rfl) rfl ?_
 refine sp rfl (PE.fieldAddr fo72_0 rfl) rfl ?_
 refine sp rfl (PE.fieldAddr fo27_3 rfl) rfl ?_
 refine spL rfl rfl (lfB (sz := 18) sc25 rfl) rfl ?_
 refine sp rfl (PE.lenSl isl25 rfl) rfl ?_
 refine sp rfl (PE.eql rfl rfl) rfl ?_
 refine sy_cond rfl (fun hc0 => ?_) (fun hc0 => ?_)
 try simp only [decide_eq_true_eq, decide_eq_false_iff_not, Bool.and_eq_true, Bool.or_eq_true, Bool.not_eq_true', Int.not_le, Int.not_lt] at hc0
 refine sy_seq ?_
 refine sy_tx' [0, 1] rfl ?_
 refine spL rfl rfl (lhA (rest := []) (ints s) ag69 rfl (by rw [List.append_nil]; rfl) (by rw [ints_length]; exact hs.len)) rfl ?_
 refine stoA rfl rfl rfl cn69 rfl (by rw [ints_length]; exact hs.len) rfl (ints_one _) ?_
 refine sy_ret ?_
 exact sy_return (vs := [_]) rfl (.cons (RV.cell rfl (lhA (rest := []) (ints s) ag69 rfl (by rw [List.append_nil]; rfl) (by rw [ints_length]; exact hs.len))) .nil) rfl ⟨s, Rz.same hs, rfl, rfl, rfl⟩ (fun w h => (h.del b8).del b5)
 try simp only [decide_eq_true_eq, decide_eq_false_iff_not, Bool.and_eq_true, Bool.or_eq_true, Bool.not_eq_true', Int.not_le, Int.not_lt] at hc0
 refine sy_skip ?_
 refine sy_seq ?_
 refine sy_seq ?_
 refine sy_tx' [0, 1, 2] rfl ?_
 refine spL rfl rfl (lhA (rest := []) (ints s) ag69 rfl (by rw [List.append_nil]; rfl) (by rw [ints_length]; exact hs.len)) rfl ?_
 refine alc rfl zl69 rfl (fun b9 => ?_)
 refine stoA rfl rfl rfl cn69 rfl (by rw [ints_length]; exact hs.len) rfl (ints_one _) ?_
 refine sy_seq ?_
 refine sy_draw [0, 1, 3, 0, 0, 8, 40, 120, 248, 511] (.tk 0 (.tk 1 (.ld 2 (.ld 3 (.tk 4 (.tk 5 (.tk 6 (.tk 7 (.ld 8 (.tk 9 .done)))))))))) mixed (by kernel_rfl) ?_
 refine tk rfl (PE.move rfl) rfl ?_
 refine tk rfl (PE.indexArr ar69 rfl rfl (by omega) (by omega)) rfl ?_
 refine ld rfl rfl (lh sc3 rfl (st_at (s := s) (k := i) (hs.len) (by omega) (by show 0 + ((i : Nat) : Int).toNat * 1 = _; omega))) rfl ?_
 refine ld rfl rfl (lfB (sz := 1) sc65 rfl) rfl ?_
 refine tk rfl (PE.move rfl) rfl ?_
 refine tk rfl (PE.nilCheck rfl) rfl ?_
 refine tk rfl (PE.fieldAddr fo72_2 rfl) rfl ?_
 refine tk rfl (PE.indexArr ar69 rfl rfl (by omega) (by omega)) rfl ?_
 refine ld rfl rfl (lfB (sz := 18) (x := .int .i64 (na b.most i)) sc3 (dcs_most (k := i) hl4 hm4 (by omega) (by show 0 + 13 + ((i : Nat) : Int).toNat * 1 = _; omega))) rfl ?_
 refine tk rfl (PE.lss rfl rfl) rfl ?_
 refine sy_cond rfl (fun hc1 => ?_) (fun hc1 => ?_)
 try simp only [decide_eq_true_eq, decide_eq_false_iff_not, Bool.and_eq_true, Bool.or_eq_true, Bool.not_eq_true', Int.not_le, Int.not_lt] at hc1
 have hmi := (b.dsk.inS_sml hdk hs).at_ i (by omega)
 have hmi2 := hdk.most.at_ i (by omega)
 obtain ⟨hup, hule, hum⟩ := up_facts hdk hs (i := i) (show i < b.bins.length by omega) hc1
 have hkt := hkv.get _ ((b.dsk.mem_sts hdk _).2 hup)
 refine sy_seq ?_
 refine sy_tx' [0, 1, 2, 3, 4, 5] rfl ?_
 refine sp rfl (PE.move rfl) rfl ?_
 refine sp rfl (PE.indexArr ar69 rfl rfl (by omega) (by omega)) rfl ?_
 refine spL rfl rfl (lh sc3 rfl (st_at (s := s) (k := i) (hs.len) (by omega) (by show 0 + ((i : Nat) : Int).toNat * 1 = _; omega))) rfl ?_
 refine sp rfl (PE.add rfl rfl (by omega)) rfl ?_
 refine sp rfl (PE.indexArr ar69 rfl rfl (by omega) (by omega)) rfl ?_
 refine stoE (l' := ints (s.set i (na s i + 1))) rfl rfl rfl cn3 rfl rfl rfl (st_put (k := i) hs.len (by omega) (by show 0 + ((i : Nat) : Int).toNat * 1 = i; omega)) (by rw [ints_length, hs.len]; show 0 + ((i : Nat) : Int).toNat * 1 + 1 ≤ 4; omega) ?_
 refine sy_seq ?_
 refine sy_draw [0, 1, 3, 7, 0, 31, 0, 127] (.ld 0 (.tk 1 (.tk 2 (.ld 3 (.ld 4 (.ld 5 (.tk 6 (.tk 7 .done)))))))) mixed (by kernel_rfl) ?_
 refine ld rfl rfl (lfB (sz := 1) sc65 rfl) rfl ?_
 refine tk rfl (PE.nilCheck rfl) rfl ?_
 refine tk rfl (PE.fieldAddr fo72_3 rfl) rfl ?_
 refine ld rfl rfl (lfB (sz := 18) sc70 (dcs_map hl4 hm4)) rfl ?_
 refine ld rfl rfl (lhA (rest := []) (ints (s.set i (na s i + 1))) ag69 rfl (by rw [List.append_nil]; rfl) (by rw [ints_length]; exact hup.len)) rfl ?_
 refine ldK rfl rfl rfl (lk_fact (b := true) kv (s.set i (na s i + 1)) mke70 (KeyT.of eqf69 noa69) (run_zv zv3) hup.len hkv.len (fun w hs => hs.now hK.mem) false) rfl ?_
 rw [hkt]
 refine tk rfl (PE.move rfl) rfl ?_
 refine tk rfl (PE.leq rfl rfl) rfl ?_
 refine sy_cond rfl (fun hc2 => ?_) (fun hc2 => ?_)
 try simp only [decide_eq_true_eq, decide_eq_false_iff_not, Bool.and_eq_true, Bool.or_eq_true, Bool.not_eq_true', Int.not_le, Int.not_lt] at hc2
 refine sy_seq ?_
 refine sy_tx' [0, 1, 2, 3, 4, 5] rfl ?_
 refine spL rfl rfl (lfB (sz := 1) sc74 rfl) rfl ?_
 refine spL rfl rfl (lhA (rest := []) (ints (s.set i (na s i + 1))) ag69 rfl (by rw [List.append_nil]; rfl) (by rw [ints_length]; exact hup.len)) rfl ?_
 refine sp rfl (PE.move rfl) rfl ?_
 refine sp rfl (PE.move rfl) rfl ?_
 refine clF rfl rfl (cal27) rfl rfl (ih (s.set i (na s i + 1)) i _ _ hup hi hum) ?_
 rintro _ _ _ ⟨t, ht, rfl, rfl, rfl⟩
 refine stoA rfl rfl rfl cn69 rfl (by rw [ints_length]; exact ht.inS.len) rfl (ints_one _) ?_
 refine sy_ret ?_
 exact sy_return (vs := [_]) rfl (.cons (RV.cell rfl (lhA (rest := []) (ints t) ag69 rfl (by rw [List.append_nil]; rfl) (by rw [ints_length]; exact ht.inS.len))) .nil) rfl ⟨t, ht.trans hule hc2, rfl, rfl, rfl⟩ (fun w h => ((h.del b9).del b8).del b5)
 try simp only [decide_eq_true_eq, decide_eq_false_iff_not, Bool.and_eq_true, Bool.or_eq_true, Bool.not_eq_true', Int.not_le, Int.not_lt] at hc2
 refine sy_skip ?_
 refine sy_seq ?_
 refine sy_tx' [0, 1, 2, 3, 4, 5, 6] rfl ?_
 refine spL rfl rfl (lfB (sz := 1) sc74 rfl) rfl ?_
 refine spL rfl rfl (lhA (rest := []) (ints s) ag69 rfl (by rw [List.append_nil]; rfl) (by rw [ints_length]; exact hs.len)) rfl ?_
 refine sp rfl (PE.move rfl) rfl ?_
 refine sp rfl (PE.move rfl) rfl ?_
 refine sp rfl (PE.add rfl rfl (by omega)) rfl ?_
 rw [show (i : Int) + 1 = ((i + 1 : Nat) : Int) by omega]
 refine clF rfl rfl (cal27) rfl rfl (ih s (i + 1) _ _ hs (by omega) (by unfold rzm; have e : b.dsk.n = b.bins.length := rfl; omega)) ?_
 rintro _ _ _ ⟨t, ht, rfl, rfl, rfl⟩
 refine stoA rfl rfl rfl cn69 rfl (by rw [ints_length]; exact ht.inS.len) rfl (ints_one _) ?_
 refine sy_ret ?_
 exact sy_return (vs := [_]) rfl (.cons (RV.cell rfl (lhA (rest := []) (ints t) ag69 rfl (by rw [List.append_nil]; rfl) (by rw [ints_length]; exact ht.inS.len))) .nil) rfl ⟨t, ht, rfl, rfl, rfl⟩ (fun w h => ((h.del b9).del b8).del b5)
 try simp only [decide_eq_true_eq, decide_eq_false_iff_not, Bool.and_eq_true, Bool.or_eq_true, Bool.not_eq_true', Int.not_le, Int.not_lt] at hc1
 refine sy_skip ?_
 refine sy_seq ?_
 refine sy_tx' [0, 1, 2, 3, 4, 5, 6] rfl ?_
 refine spL rfl rfl (lfB (sz := 1) sc74 rfl) rfl ?_
 refine spL rfl rfl (lhA (rest := []) (ints s) ag69 rfl (by rw [List.append_nil]; rfl) (by rw [ints_length]; exact hs.len)) rfl ?_
 refine sp rfl (PE.move rfl) rfl ?_
 refine sp rfl (PE.move rfl) rfl ?_
 refine sp rfl (PE.add rfl rfl (by omega)) rfl ?_
 rw [show (i : Int) + 1 = ((i + 1 : Nat) : Int) by omega]
 refine clF rfl rfl (cal27) rfl rfl (ih s (i + 1) _ _ hs (by omega) (by unfold rzm; have e : b.dsk.n = b.bins.length := rfl; omega)) ?_
 rintro _ _ _ ⟨t, ht, rfl, rfl, rfl⟩
 refine stoA rfl rfl rfl cn69 rfl (by rw [ints_length]; exact ht.inS.len) rfl (ints_one _) ?_
 refine sy_ret ?_
 exact sy_return (vs := [_]) rfl (.cons (RV.cell rfl (lhA (rest := []) (ints t) ag69 rfl (by rw [List.append_nil]; rfl) (by rw [ints_length]; exact ht.inS.len))) .nil) rfl ⟨t, ht, rfl, rfl, rfl⟩ (fun w h => ((h.del b9).del b8).del b5)
theorem c_raiseN (b : Barn) (hok : b.ok) (ab : Option Addr) (cb bd m : Nat) (n : Nat) (hn : n ≤ 14641) (kv : KV) (hkv : KvOk b.dsk n kv) (x4 x6 : Nat) (days : Int) : ∀ (N : Nat) (s : HSt) (i : Nat) (H : Heap) (R : Facts) [hD : MemRows (some ⟨bd, 0, none⟩) 18 [dcs b (b.sl ab cb) b.lasts b.most m] R] [hX : MemRows (some ⟨x4, 0, none⟩) 1 [[.pointer (some ⟨bd, 0, none⟩)]] R] [hY : MemRows (some ⟨x6, 0, none⟩) 1 [[.func (.func 27) #[] #[.pointer (some ⟨x4, 0, none⟩), .pointer (some ⟨x6, 0, none⟩)]]] R] [hK : MemF (KpF m kv) R], b.dsk.inS s → i ≤ b.bins.length → rzm b.dsk s i ≤ N → Fn Tryz.prog 27 [stv s, .int .i64 days, .int .i64 i, .pointer (some ⟨x4, 0, none⟩), .pointer (some ⟨x6, 0, none⟩)] H R (fun v H' R' => ∃ t, Rz b.dsk n days s t ∧ v = stv t ∧ H' = H ∧ R' = R) := by
  intro N
  induction N with
  | zero => intro s i H R _ _ _ _ hs hi hm; exact c_raise1 b hok ab cb bd m n hn kv hkv x4 x6 days s hs i hi (fun s' i' H R _ _ _ _ _ _ h => absurd h (by omega)) H R
  | succ N ih => intro s i H R _ _ _ _ hs hi hm; exact c_raise1 b hok ab cb bd m n hn kv hkv x4 x6 days s hs i hi (fun s' i' H R _ _ _ _ h1 h2 h3 => ih s' i' H R h1 h2 (by omega)) H R
theorem c_raise (b : Barn) (hok : b.ok) (ab : Option Addr) (cb bd m : Nat) (n : Nat) (hn : n ≤ 14641) (kv : KV) (hkv : KvOk b.dsk n kv) (x4 x6 : Nat) (days : Int) (s : HSt) (hs : b.dsk.inS s) (H : Heap) (R : Facts) [hD : MemRows (some ⟨bd, 0, none⟩) 18 [dcs b (b.sl ab cb) b.lasts b.most m] R] [hX : MemRows (some ⟨x4, 0, none⟩) 1 [[.pointer (some ⟨bd, 0, none⟩)]] R] [hY : MemRows (some ⟨x6, 0, none⟩) 1 [[.func (.func 27) #[] #[.pointer (some ⟨x4, 0, none⟩), .pointer (some ⟨x6, 0, none⟩)]]] R] [hK : MemF (KpF m kv) R] : Fn Tryz.prog 27 [stv s, .int .i64 days, .int .i64 0, .pointer (some ⟨x4, 0, none⟩), .pointer (some ⟨x6, 0, none⟩)] H R (fun v H' R' => ∃ t, Rz b.dsk n days s t ∧ v = stv t ∧ H' = H ∧ R' = R) :=
  c_raiseN b hok ab cb bd m n hn kv hkv x4 x6 days _ s 0 H R hs (Nat.zero_le _) (Nat.le_refl _)
theorem c_Clone (bk e n c : Nat) (l : List Int) (hn : n ≤ l.length) (hl : l.length ≤ 1000000) (H : Heap) (R : Facts) [hM : Mem1 bk (cel e (ints l)) H] :
    Fn Tryz.prog 28 [.slice (some ⟨bk, 0, none⟩) n c] H R (fun v H' R' => ∃ o : OSl 3 1 (irows (l.take n)), v = o.fs ∧ H' = o.G ++ H ∧ R' = R) := by
 refine fn_of Tryz.func28 rfl Tryz.ntmps28 rfl ?_
 refine sy_seq ?_
 refine sy_tx' [0] rfl ?_
 refine sp rfl (PE.assign rfl) rfl ?_
 refine sy_seq ?_
 refine sy_seq ?_
 refine sy_tx' [0, 1] rfl ?_
 refine sp rfl (PE.move rfl) rfl ?_
 refine sp rfl (PE.eqlNil isl22 rfl rfl) rfl ?_
 refine sy_condF rfl ?_
 refine sy_skip ?_
 refine sy_seq ?_
 refine sy_tx' [0, 1, 2, 3] rfl ?_
 refine bsl0 rfl sl22 rfl (fun o5 ho5 => ?_)
 refine sp rfl (PE.move rfl) rfl ?_
 refine apO o5 rfl ap22 rfl rfl (rowsI (n := n) (l := l) (e := e)) (by rw [irows_len, List.length_take]; omega) (by unfold onecells; rw [List.all_eq_true]; intro r hr; obtain ⟨x, _, rfl⟩ := List.mem_map.1 hr; rfl) (by rw [irows_len, List.length_take]; simp only [List.length_nil]; omega) rfl (fun o7 => ?_)
 refine sp rfl (PE.assign rfl) rfl ?_
 refine sy_ret ?_
 exact sy_return (vs := [_]) rfl (.cons (RV.tmp rfl) .nil) rfl ⟨o7.cast (List.nil_append _), rfl, rfl, rfl⟩ (fun _ h => h)
end Go.Proofs.YtelegnmfhjfbaaaGreat
