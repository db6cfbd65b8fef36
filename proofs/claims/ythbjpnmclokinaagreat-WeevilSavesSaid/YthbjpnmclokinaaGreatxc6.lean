/- Walks of the functions of the program, and the laws that join them: what the last theorem of this claim needs, in order. -/
import Derived.Test.YthbjpnmclokinaaGreatxc5
namespace Go.Proofs.YthbjpnmclokinaaGreat
set_option linter.unusedSimpArgs false
set_option linter.unusedVariables false
open Go
theorem ZfY : apT Tryz.prog 32 = some (110, 2, 16) := by kernel_rfl
theorem ZfI : apT Tryz.prog 33 = some (111, 3, 24) := by kernel_rfl
theorem Zdt : cal Tryz.prog 140 = true := by kernel_rfl
theorem ZdD : cal Tryz.prog 141 = true := by kernel_rfl
theorem ZeT : cal Tryz.prog 74 = true := by kernel_rfl
theorem Zfs : cal Tryz.prog 87 = true := by kernel_rfl
theorem ZeN : cal Tryz.prog 88 = true := by kernel_rfl
theorem ZfK : Z0E Tryz.prog 32 = some 1 := by kernel_rfl
theorem ZfH : Z0E Tryz.prog 33 = some 1 := by kernel_rfl
theorem Zfh : Z0E Tryz.prog 35 = some 3 := by kernel_rfl
theorem Zff : Tryz.prog.eqGuardType Tryz.prog.depth 67 = false := by kernel_rfl
theorem ZfV : Z1k Tryz.prog 35 = some [(0, 1), (1, 1), (2, 1)] := by kernel_rfl
theorem ZfU : slE Tryz.prog 32 = some (110, 2) := by kernel_rfl
theorem Zg0 : slE Tryz.prog 33 = some (111, 3) := by kernel_rfl
theorem ZeV : ZP Tryz.prog 111 = some ([.int .i64 0, .int .i64 0, .bool false]) := by kernel_rfl
theorem ZeA : ZP Tryz.prog 35 = some ([.int .i64 0, .slice none 0 0, .slice none 0 0]) := by kernel_rfl
theorem Z9A (xs ys : List Gp) (a a2 : Option Addr) (c c2 : Nat) (hl : xs.length ≤ 9223372036854775807) (hl2 : ys.length ≤ 9223372036854775807) (H : Z9) (R : Z6) [hR : MemRows a 2 (Zd xs) R] [hR2 : MemRows a2 2 (Zd ys) R] :
    FnV Tryz.prog 140 [.slice a xs.length c, .slice a2 ys.length c2] H R (.bool (decide (xs = ys))) := by
 refine Zi Tryz.func140 rfl Tryz.ntmps140 rfl ?_
 refine sqt 1 rfl (pur 1 rfl (Z0 (sqt 5 rfl (pur 1 rfl (sp rfl (PE.lenSl Z1X rfl) rfl (pur 1 rfl (sp rfl (PE.lenSl Z1X rfl) rfl (pur 1 rfl ?_))))))))
 refine Z1 rfl ?_ ?_ <;> intro hc0
 have hne : xs ≠ ys := fun e => by subst e; simp at hc0
 refine sqt 1 rfl (pur 1 rfl (Z5 ?_))
 exact rtA rfl rfl rfl ⟨by first | (simp only [ZG]; rw [dT heq]; done) | (simp only [ZG]; rw [dF hne]), rfl, rfl⟩ idH
 have hle : xs.length = ys.length := by simp only [cS] at hc0; omega
 refine Z2 (Z0 (sqt 3 rfl (pur 1 rfl (sp rfl (PE.lenSl Z1X rfl) rfl (pur 1 rfl (Z3 ?_))))))
 refine Ze (ι := {k : Nat // k ≤ xs.length ∧ xs.take k = ys.take k}) (fun k => ⟨[(0, .slice a xs.length c), (1, .slice a2 ys.length c2), (12, .int .i64 xs.length), (13, .int .i64 k.1)], H, R⟩) (fun k => xs.length - k.1) ⟨0, by simp⟩ ?_ (fun k => ?_)
 exact Zk idH
 obtain ⟨k, hk, hn⟩ := k
 dsimp only
 refine sqt 1 rfl (pur 1 rfl (Z0 ?_))
 refine Z1 rfl ?_ ?_ <;> intro hc1
 simp only [cS] at hc1
 obtain ⟨x, hx⟩ : ∃ x, xs[k]? = some x := ⟨_, List.getElem?_eq_getElem (by omega)⟩
 obtain ⟨z, hz⟩ : ∃ z, ys[k]? = some z := ⟨_, List.getElem?_eq_getElem (by omega)⟩
 refine Zg (a := a) (sz := 2) (rows := Zd xs) (by intro h0; simp [Zd] at h0; simp [h0] at hx) (fun b off he => ?_)
 subst he
 refine Zg (a := a2) (sz := 2) (rows := Zd ys) (by intro h0; simp [Zd] at h0; simp [h0] at hz) (fun b2 off2 he => ?_)
 subst he
 refine Z2 (Z0 (Z3 (sqt 2 rfl (pur 2 rfl (Z0 ?_)))))
 refine Zn [0, 0, 3, 7, 0, 0, 48, 112, 255] (tks 0 3 (.ld 3 (tks 4 3 (.ld 7 (.tk 8 .done))))) ZC (by kernel_rfl) ?_
 refine Zy 2 rfl (tk rfl (PE.indexAddr Z75 rfl rfl (by omega) (by omega)) rfl (ld rfl rfl (lfA Z6I (row := grow x) (by simp [Zd, hx]) rfl) rfl (Zy 2 rfl (tk rfl (PE.indexAddr Z75 rfl rfl (by omega) (by omega)) rfl (ld rfl rfl (lfA Z6I (row := grow z) (by simp [Zd, hz]) rfl) rfl (tk rfl (PE.neqAgg [x.a, x.b] [z.a, z.b] (Z28 10000 97 true 2 Ze0) ZdC rfl rfl rfl rfl) rfl ?_))))))
 refine Z1 rfl ?_ ?_ <;> intro hc2
 have hne : xs ≠ ys := fun e => by subst e; rw [hx] at hz; cases hz; simp at hc2
 refine sqt 1 rfl (pur 1 rfl (Z5 ?_))
 exact rtA rfl rfl rfl ⟨by first | (simp only [ZG]; rw [dT heq]; done) | (simp only [ZG]; rw [dF hne]), rfl, rfl⟩ idH
 have hxz : x = z := by cases x; cases z; simpa using hc2
 refine Z2 (sqr 2 rfl (sp rfl (PE.add rfl rfl (by omega)) rfl (pur 1 rfl ?_)))
 exact Za ⟨k + 1, by omega, by rw [List.take_add_one, List.take_add_one, hn, hx, hz, hxz]⟩ idH
 simp only [cS] at hc1
 obtain rfl : k = xs.length := by omega
 have heq : xs = ys := by
   rw [List.take_length] at hn
   exact hn.trans (by rw [hle]; exact List.take_length)
 refine Z7 (Z8 (Z8 (Zl (sqt 1 rfl (pur 1 rfl (Z5 ?_))))))
 exact rtA rfl rfl rfl ⟨by first | (simp only [ZG]; rw [dT heq]; done) | (simp only [ZG]; rw [dF hne]), rfl, rfl⟩ idH
def chS (P : Program) : Nat → List Field → List Bool → Bool
  | _, [], [] => true
  | o, f :: fs, b :: bs => !(f.name == "_") && Nat.beq f.offset o && (match P.underlying f.type with | some (.int _) => !b | some .bool => b | _ => false) && chS P (o + 1) fs bs
  | _, _, _ => false
def chT (P : Program) (T : Nat) (bs : List Bool) : Bool := match P.underlying T with
  | some (.struct fs) => chS P 0 fs.toList bs && !(P.stoodInHeld T)
  | _ => false
def scV (b : Bool) : Value → Bool
  | .int .i64 _ => !b
  | .bool _ => b
  | _ => false
def kOK : List Bool → List Value → Bool
  | [], [] => true
  | b :: bs, v :: vs => scV b v && kOK bs vs
  | _, _ => false
def scE : Value → Value → Bool
  | .int _ x, .int _ y => x == y
  | .bool x, .bool y => x == y
  | _, _ => false
def Zab : List Value → List Value → Bool
  | v :: vs, w :: ws => scE v w && Zab vs ws
  | _, _ => true
theorem Z9e {P : Program} {d e : Nat} {b : Bool} {v u : Value} (h : (match P.underlying e with | some (.int _) => !b | some .bool => b | _ => false) = true) (hv : scV b v = true) (hu : scV b u = true) (w : World) : (Op.equalIn (d + 1) e v u).run P w = .ok (scE v u) w := by
  cases b with
  | false =>
    match v, hv with
    | .int .i64 x, _ =>
      match u, hu with
      | .int .i64 y, _ =>
        cases ht : P.underlying e with
        | none => rw [ht] at h; cases h
        | some t =>
          rw [ht] at h
          cases t with
          | int k => exact run_equalIn_int w d e _ _ x y ht
          | _ => cases h
  | true =>
    match v, hv with
    | .bool x, _ =>
      match u, hu with
      | .bool y, _ =>
        cases ht : P.underlying e with
        | none => rw [ht] at h; cases h
        | some t =>
          rw [ht] at h
          cases t with
          | bool => exact run_equalIn_bool w d e x y ht
          | _ => cases h
theorem Z4Y {P : Program} {e : Nat} {b : Bool} (h : (match P.underlying e with | some (.int _) => !b | some .bool => b | _ => false) = true) (pre vs : List Value) (v : Value) (w : World) : (part e (pre ++ v :: vs).toArray pre.length).run P w = .ok v w := by
  have hs : Z2q P e = true := by
    cases ht : P.underlying e with
    | none => rw [ht] at h; cases h
    | some t =>
      rw [ht] at h
      cases t with
      | int k => simp [Z2q, ht]
      | bool => simp [Z2q, ht]
      | _ => cases h
  unfold part
  simp only [Sem.run_bind, Z0g hs, Result.andThen]
  simp [Sem.run_pure]
theorem Z6l {P : Program} {d : Nat} : ∀ (fs : List Field) (bs : List Bool) (vs ws pre pre2 : List Value), chS P pre.length fs bs = true → kOK bs vs = true → kOK bs ws = true → pre.length = pre2.length → ∀ w,
    (Op.eqFields (d + 1) (pre ++ vs).toArray (pre2 ++ ws).toArray fs).run P w = .ok (Zab vs ws) w
  | [], bs, vs, ws, pre, pre2, h, hv, hw, hp, w => by
    match bs, h with
    | [], _ =>
      match vs, hv with
      | [], _ => simp [Op.eqFields, Sem.run_pure, Zab]
  | f :: fs, bs, vs, ws, pre, pre2, h, hv, hw, hp, w => by
    match bs, h with
    | b :: bs, h =>
      match vs, hv with
      | v :: vs, hv =>
        match ws, hw with
        | u :: ws, hw =>
          simp only [chS, Bool.and_eq_true, Bool.not_eq_true'] at h
          obtain ⟨⟨⟨h1, h2⟩, h3⟩, h4⟩ := h
          simp only [kOK, Bool.and_eq_true] at hv hw
          have h2 := Nat.eq_of_beq_eq_true h2
          have hn' : f.name ≠ "_" := by simpa using h1
          have p1 := Z4Y h3 pre vs v w
          have p2 := Z4Y h3 pre2 ws u w
          have p3 := Z9e (d := d) h3 hv.1 hw.1 w
          have ih := Z6l (d := d) fs bs vs ws (pre ++ [v]) (pre2 ++ [u]) (by rw [List.length_append]; exact h4) hv.2 hw.2 (by rw [List.length_append, List.length_append, hp]; rfl) w
          rw [List.append_assoc, List.append_assoc] at ih
          simp only [List.singleton_append] at ih
          rw [← hp] at p2
          rw [← h2] at p1 p2
          simp only [Op.eqFields, hn', ne_eq, not_false_eq_true, if_true, Sem.run_bind, p1, p2, p3, Result.andThen]
          cases hc : scE v u with
          | true => simp [Zab, hc, ih]
          | false => simp [Zab, hc, Sem.run_pure]
section pe
variable {P : Program} {L : Zm} {d : Option Tmp} {ty : TypeId} {pos : String} {af : Array Edge} {g : Option (Nat × Bool)}
theorem PE.neqS {T U : Nat} {x y : Operand} (vs ws : List Value) (bs : List Bool) (hT : chT P T bs = true) (hg : P.eqGuardType P.depth T = false) (hx : ev L x = some (.agg vs.toArray)) (hy : ev L y = some (.agg ws.toArray)) (kv : kOK bs vs = true) (kw : kOK bs ws = true) :
    PE P L ⟨d, .binOp .neq T x y U, ty, pos, af, g⟩ (.bool (!(Zab vs ws))) := fun ρ hρ w => by
  have hb : binOp .neq T (.agg vs.toArray) (.agg ws.toArray) = (do pure (.bool (!(← Op.equal T (.agg vs.toArray) (.agg ws.toArray))))) := rfl
  unfold chT at hT
  split at hT
  · rename_i fs hu
    simp only [Bool.and_eq_true, Bool.not_eq_true'] at hT
    have hf : P.fieldsOf T = fs := by simp [Program.fieldsOf, hu]
    have he : (Op.equal T (.agg vs.toArray) (.agg ws.toArray)).run P w = .ok (Zab vs ws) w := by
      show (Op.equalIn (9999 + 1) T (.agg vs.toArray) (.agg ws.toArray)).run P w = _
      rw [run_equalIn_struct w 9999 T _ _ (by rw [hu, hf]) hT.2, hf]
      exact Z6l (d := 9998) fs.toList bs vs ws [] [] hT.1 kv kw rfl w
    simp only [execOp, hρ _ _ hx, hρ _ _ hy, Sem.run_bind, Z0B hg, hb, he, Result.andThen, Sem.run_pure]
  · cases hT
end pe
def Z6L (a b : Hse) : Bool := decide (a.bins = b.bins) && decide (a.gaps = b.gaps) && decide (a.sights = b.sights)
theorem sameH_iff {a b : Hse} : Z6L a b = true ↔ a = b := by
  unfold Z6L
  simp only [Bool.and_eq_true, decide_eq_true_eq]
  constructor
  · rintro ⟨⟨h1, h2⟩, h3⟩
    cases a; cases b; simp_all
  · rintro rfl; exact ⟨⟨rfl, rfl⟩, rfl⟩
theorem Zeo (a b : List Gp) : Zd (a ++ b) = Zd a ++ Zd b := List.map_append
def Zc7 (h : Hse) : Bool := decide (14 < h.gaps.length) || decide (12 < h.sights.length)
def Zbk (l : List (List Int)) : Bool := l.any (fun x => decide (14 < x.length)) || decide (14 < l.length)
theorem Zdl {l : List (List Int)} (h : ∀ x ∈ l.take l.length, ¬ 14 < x.length) : l.any (fun x => decide (14 < x.length)) = false := List.any_eq_false.2 fun x hx => by
  rw [List.take_length] at h
  simpa using h x hx
theorem Zbn {l : List (List Int)} {x : List Int} (hx : x ∈ l) (h : 14 < x.length) : l.any (fun x => decide (14 < x.length)) = true := List.any_eq_true.2 ⟨x, hx, decide_eq_true h⟩
theorem Z6x (m k : Nat) : ((m >>> k : Nat) : Int) / 2 = ((m >>> (k + 1) : Nat) : Int) := by rw [Nat.shiftRight_succ]; omega
theorem Z7T (m k : Nat) : decide (((m >>> k : Nat) : Int) % 2 = 1) = decide (m / 2 ^ k % 2 = 1) := by rw [Nat.shiftRight_eq_div_pow]; exact decide_eq_decide.2 (by omega)
theorem ZbX {m k : Nat} (h : m < 2 ^ 10) (hp : 0 < ((m >>> k : Nat) : Int)) : k < 10 := by
  rcases Nat.lt_or_ge k 10 with h1 | h1
  · exact h1
  · have : m >>> k = 0 := by rw [Nat.shiftRight_eq_div_pow]; exact Nat.div_eq_of_lt (Nat.lt_of_lt_of_le h (Nat.pow_le_pow_right (by decide) h1))
    omega
theorem Z9L (xs ys : List Sgt) (a a2 : Option Addr) (c c2 : Nat) (hl : xs.length ≤ 9223372036854775807) (hl2 : ys.length ≤ 9223372036854775807) (H : Z9) (R : Z6) [hR : MemRows a 3 (Zf xs) R] [hR2 : MemRows a2 3 (Zf ys) R] :
    FnV Tryz.prog 141 [.slice a xs.length c, .slice a2 ys.length c2] H R (.bool (decide (xs = ys))) := by
 refine Zi Tryz.func141 rfl Tryz.ntmps141 rfl ?_
 refine sqt 1 rfl (pur 1 rfl (Z0 (sqt 5 rfl (pur 1 rfl (sp rfl (PE.lenSl Z3E rfl) rfl (pur 1 rfl (sp rfl (PE.lenSl Z3E rfl) rfl (pur 1 rfl ?_))))))))
 refine Z1 rfl ?_ ?_ <;> intro hc0
 have hne : xs ≠ ys := fun e => by subst e; simp at hc0
 refine sqt 1 rfl (pur 1 rfl (Z5 ?_))
 exact rtA rfl rfl rfl ⟨by first | (simp only [ZG]; rw [dT heq]; done) | (simp only [ZG]; rw [dF hne]), rfl, rfl⟩ idH
 have hle : xs.length = ys.length := by simp only [cS] at hc0; omega
 refine Z2 (Z0 (sqt 3 rfl (pur 1 rfl (sp rfl (PE.lenSl Z3E rfl) rfl (pur 1 rfl (Z3 ?_))))))
 refine Ze (ι := {k : Nat // k ≤ xs.length ∧ xs.take k = ys.take k}) (fun k => ⟨[(0, .slice a xs.length c), (1, .slice a2 ys.length c2), (12, .int .i64 xs.length), (13, .int .i64 k.1)], H, R⟩) (fun k => xs.length - k.1) ⟨0, by simp⟩ ?_ (fun k => ?_)
 exact Zk idH
 obtain ⟨k, hk, hn⟩ := k
 dsimp only
 refine sqt 1 rfl (pur 1 rfl (Z0 ?_))
 refine Z1 rfl ?_ ?_ <;> intro hc1
 simp only [cS] at hc1
 obtain ⟨x, hx⟩ : ∃ x, xs[k]? = some x := ⟨_, List.getElem?_eq_getElem (by omega)⟩
 obtain ⟨z, hz⟩ : ∃ z, ys[k]? = some z := ⟨_, List.getElem?_eq_getElem (by omega)⟩
 refine Zg (a := a) (sz := 3) (rows := Zf xs) (by intro h0; simp [Zf] at h0; simp [h0] at hx) (fun b off he => ?_)
 subst he
 refine Zg (a := a2) (sz := 3) (rows := Zf ys) (by intro h0; simp [Zf] at h0; simp [h0] at hz) (fun b2 off2 he => ?_)
 subst he
 refine Z2 (Z0 (Z3 (sqt 2 rfl (pur 2 rfl (Z0 ?_)))))
 refine Zn [0, 0, 3, 7, 0, 0, 48, 112, 255] (tks 0 3 (.ld 3 (tks 4 3 (.ld 7 (.tk 8 .done))))) ZC (by kernel_rfl) ?_
 refine Zy 2 rfl (tk rfl (PE.indexAddr ZdV rfl rfl (by omega) (by omega)) rfl (ld rfl rfl (lfA ZbA (row := Z1W x) (by simp [Zf, hx]) rfl) rfl (Zy 2 rfl (tk rfl (PE.indexAddr ZdV rfl rfl (by omega) (by omega)) rfl (ld rfl rfl (lfA ZbA (row := Z1W z) (by simp [Zf, hz]) rfl) rfl (tk rfl (PE.neqS (Z1W x) (Z1W z) [false, false, true] (by kernel_rfl) Zff rfl rfl rfl rfl) rfl ?_))))))
 refine Z1 rfl ?_ ?_ <;> intro hc2
 have hne : xs ≠ ys := fun e => by subst e; rw [hx] at hz; cases hz; simp [Zab, scE, Z1W] at hc2
 refine sqt 1 rfl (pur 1 rfl (Z5 ?_))
 exact rtA rfl rfl rfl ⟨by first | (simp only [ZG]; rw [dT heq]; done) | (simp only [ZG]; rw [dF hne]), rfl, rfl⟩ idH
 have hxz : x = z := by cases x; cases z; simpa [Zab, scE, Z1W, and_assoc] using hc2
 refine Z2 (sqr 2 rfl (sp rfl (PE.add rfl rfl (by omega)) rfl (pur 1 rfl ?_)))
 exact Za ⟨k + 1, by omega, by rw [List.take_add_one, List.take_add_one, hn, hx, hz, hxz]⟩ idH
 simp only [cS] at hc1
 obtain rfl : k = xs.length := by omega
 have heq : xs = ys := by
   rw [List.take_length] at hn
   exact hn.trans (by rw [hle]; exact List.take_length)
 refine Z7 (Z8 (Z8 (Zl (sqt 1 rfl (pur 1 rfl (Z5 ?_))))))
 exact rtA rfl rfl rfl ⟨by first | (simp only [ZG]; rw [dT heq]; done) | (simp only [ZG]; rw [dF hne]), rfl, rfl⟩ idH
theorem Z9K (xs ys : List Gp) (a a2 : Option Addr) (c c2 : Nat) (hl : xs.length ≤ 9223372036854775807) (hl2 : ys.length ≤ 9223372036854775807) (H : Z9) (R : Z6) [hR : MemRows a 2 (Zd xs) R] [hR2 : MemRows a2 2 (Zd ys) R] :
    FnV Tryz.prog 87 [.slice a xs.length c, .slice a2 ys.length c2] H R (.bool (decide (xs = ys))) := by
 refine Zi Tryz.func87 rfl Tryz.ntmps87 rfl ?_
 refine sqt 1 rfl (pur 1 rfl (sqt 4 rfl (pur 2 rfl ?_)))
 refine clV rfl Zdt rfl rfl (Z9A xs ys a a2 c c2 hl hl2 _ _) ?_
 refine pur 1 rfl (Z5 ?_)
 exact rtA rfl rfl rfl ⟨rfl, rfl, rfl⟩ drp
theorem Z9E (xs ys : List Sgt) (a a2 : Option Addr) (c c2 : Nat) (hl : xs.length ≤ 9223372036854775807) (hl2 : ys.length ≤ 9223372036854775807) (H : Z9) (R : Z6) [hR : MemRows a 3 (Zf xs) R] [hR2 : MemRows a2 3 (Zf ys) R] :
    FnV Tryz.prog 88 [.slice a xs.length c, .slice a2 ys.length c2] H R (.bool (decide (xs = ys))) := by
 refine Zi Tryz.func88 rfl Tryz.ntmps88 rfl ?_
 refine sqt 1 rfl (pur 1 rfl (sqt 4 rfl (pur 2 rfl ?_)))
 refine clV rfl ZdD rfl rfl (Z9L xs ys a a2 c c2 hl hl2 _ _) ?_
 refine pur 1 rfl (Z5 ?_)
 exact rtA rfl rfl rfl ⟨rfl, rfl, rfl⟩ drp
theorem ZbH (h : Hse) (ag as_ : Option Addr) (cg cs : Nat) (hlg : h.gaps.length ≤ 9223372036854775807) (hls : h.sights.length ≤ 9223372036854775807) (H : Z9) (R : Z6) :
    FnV Tryz.prog 28 [h.v (h.sg ag cg) (h.ss as_ cs)] H R (.bool (Zc7 h)) := by
 refine Zi Tryz.func28 rfl Tryz.ntmps28 rfl ?_
 refine sqt 2 rfl (bx rfl rfl rfl (fun b1 => pur 1 rfl (sqt 11 rfl (sp rfl (PE.fA Z06 rfl) rfl (spL rfl rfl (lh Z3J rfl rfl) rfl (sp rfl (PE.lenSl Z1X rfl) rfl (pur 2 rfl ?_)))))))
 refine Zo 7 rfl ?_ ?_ <;> intro g7
 refine pur 6 rfl (Z5 ?_)
 exact rtA rfl rfl rfl ⟨congrArg Value.bool (show true = Zc7 h by unfold Zc7; rw [dT (by have := of_decide_eq_true g7; omega)]; rfl), rfl, rfl⟩ (fun w h9 => h9.del b1)
 refine spG rfl rfl rfl rfl (PE.fA Z0H rfl) rfl ?_
 refine Z0t rfl rfl rfl rfl rfl (lh Z5d rfl rfl) rfl ?_
 refine spG rfl rfl rfl rfl (PE.lenSl Z3E rfl) rfl ?_
 refine pur 3 rfl (Z5 ?_)
 exact rtA rfl rfl rfl ⟨congrArg Value.bool (show _ = Zc7 h by unfold Zc7; rw [dF (show ¬ 14 < h.gaps.length by have := of_decide_eq_false g7; omega), Bool.false_or]; exact decide_eq_decide.2 (by omega)), rfl, rfl⟩ (fun w h9 => h9.del b1)
theorem ZaC (pl : List PL) (ap : Option Addr) (cp : Nat) (hpl : pl.length ≤ 9223372036854775807) (hpx : ∀ x ∈ pl, x.l.length ≤ 9223372036854775807) (H : Z9) (R : Z6) [hP : MemRows ap 1 (Zh pl) R] :
    FnV Tryz.prog 10 [.slice ap pl.length cp] H R (.bool (Zbk (lls pl))) := by
 refine Zi Tryz.func10 rfl Tryz.ntmps10 rfl ?_
 refine sqt 1 rfl (pur 1 rfl (Z0 (sqt 3 rfl (pur 1 rfl (sp rfl (PE.lenSl Z0P rfl) rfl (pur 1 rfl (Z3 ?_)))))))
 refine Ze (ι := {k : Nat // k ≤ pl.length ∧ ∀ x ∈ (lls pl).take k, ¬ 14 < x.length}) (fun k => ⟨[(0, .slice ap pl.length cp), (5, .slice ap pl.length cp), (6, .int .i64 pl.length), (7, .int .i64 k.1)], H, R⟩) (fun k => pl.length - k.1) ⟨0, Nat.zero_le _, by simp⟩ ?_ (fun k => ?_)
 exact Zk idH
 obtain ⟨k, hk, hn⟩ := k
 dsimp only at hk hn ⊢
 refine sqt 1 rfl (pur 1 rfl (Z0 ?_))
 refine Z1 rfl ?_ ?_ <;> intro hc0 <;> try simp only [cS] at hc0
 obtain ⟨x, hx⟩ : ∃ x, pl[k]? = some x := ⟨_, List.getElem?_eq_getElem (by omega)⟩
 have hgx := Z0O hx
 have hxl := hpx x (List.mem_of_getElem? hx)
 refine Zg (a := ap) (sz := 1) (rows := Zh pl) (ne0 (by rw [Zv]; omega)) (fun ba oa he => ?_)
 subst he
 refine Z2 (Z0 (Z3 (sqt 3 rfl (sp rfl (PE.indexAddr Z5p rfl rfl (by omega) (by omega)) rfl (spL rfl rfl (lf0 Z1Y (Z1e hx) rfl) rfl (pur 1 rfl (sqt 3 rfl (pur 1 rfl (sp rfl (PE.lenSl Zx rfl) rfl (pur 1 rfl ?_))))))))))
 refine Z1 rfl ?_ ?_ <;> intro hc1 <;> try simp only [cS] at hc1
 have ha := Zbn (List.mem_of_getElem? hgx) (show 14 < x.l.length by omega)
 refine sqt 1 rfl (pur 1 rfl (Z5 ?_))
 exact rtA rfl rfl rfl ⟨congrArg Value.bool (show true = Zbk (lls pl) by unfold Zbk; rw [ha]; rfl), rfl, rfl⟩ drp
 refine Z2 (sqr 2 rfl (sp rfl (PE.add rfl rfl (by omega)) rfl (pur 1 rfl ?_)))
 exact Zc ⟨k + 1, by omega, fun y hy => by
   rw [List.take_add_one, hgx] at hy
   rcases List.mem_append.1 hy with h1 | h1
   · exact hn y h1
   · rw [List.mem_singleton.1 h1]; omega⟩ (by dsimp only; omega) (by repeat' first | exact Sub.nil | apply Sub.cons | rfl | (simp [lk]; omega)) idH
 obtain rfl : k = pl.length := by omega
 have hll := ZR pl
 have ha := Zdl (l := lls pl) (by rw [hll]; exact hn)
 refine Z7 (Z8 (Z8 (Zl (sqt 4 rfl (pur 1 rfl (sp rfl (PE.lenSl Z0P rfl) rfl (pur 2 rfl (Z5 ?_))))))))
 exact rtA rfl rfl rfl ⟨congrArg Value.bool (show _ = Zbk (lls pl) by unfold Zbk; rw [ha, Bool.false_or]; exact decide_eq_decide.2 (by omega)), rfl, rfl⟩ drp
set_option maxHeartbeats 400000 in
theorem Z9b (h : Hse) (ag as_ : Option Addr) (cg cs : Nat) (hlg : h.gaps.length ≤ 1000000) (hls : h.sights.length ≤ 1000000) (H : Z9) (R : Z6) [hG : MemRows ag 2 (Zd h.gaps) R] [hS : MemRows as_ 3 (Zf h.sights) R] :
    Fn Tryz.prog 13 [h.v (h.sg ag cg) (h.ss as_ cs)] H R (fun v H' R' => ∃ (ax ay : Option Addr) (cx cy : Nat), v = h.v (h.sg ax cx) (h.ss ay cy) ∧ H' = H ∧ R' = RowsA ay 3 (Zf h.sights) :: RowsA ax 2 (Zd h.gaps) :: R) := by
 refine Zi Tryz.func13 rfl Tryz.ntmps13 rfl ?_
 refine sqt 2 rfl (bx rfl rfl rfl (fun b1 => alc rfl ZeA rfl (fun b2 => sqt 5 rfl (sp rfl (PE.fA Z1d rfl) rfl (spL rfl rfl (lh (v := .int .i64 h.bins) sc3 rfl rfl) rfl (sp rfl (PE.build (out := htl h (.slice none 0 0) (.slice none 0 0)) ZfV ZeA rfl rfl) rfl (alc rfl ZeA rfl (fun b3 => ?_))))))))
 refine ZS (l' := htl h (.slice none 0 0) (.slice none 0 0)) rfl rfl rfl Zfh rfl rfl rfl rfl (nl rfl) ?_
 refine Z0 (sqt 4 rfl (sp rfl (PE.fA Z06 rfl) rfl (spL rfl rfl (lh Z3J rfl rfl) rfl (sp rfl (PE.lenSl Z1X rfl) rfl (pur 1 rfl (Z3 ?_))))))
 refine Ze (ι := (k : {k : Nat // k ≤ h.gaps.length}) × OSl 110 2 (Zd (h.gaps.take k.1))) (fun x => ⟨[(1, .pointer (some ⟨b1, 0, none⟩)), (2, .pointer (some ⟨b2, 0, none⟩)), (3, .pointer (some ⟨b3, 0, none⟩)), (12, h.sg ag cg), (13, .int .i64 h.gaps.length), (14, .int .i64 x.1.1)], x.2.G ++ ((b3, cel 35 (htl h x.2.fs (.slice none 0 0))) :: (b2, cel 35 (htl ⟨0, [], []⟩ (.slice none 0 0) (.slice none 0 0))) :: (b1, cel 25 (htl h (h.sg ag cg) (h.ss as_ cs))) :: H), R⟩) (fun x => h.gaps.length - x.1.1) ⟨⟨0, by omega⟩, OSl.nil _ _⟩ ?_ (fun x => ?_)
 exact Zk idH
 obtain ⟨⟨k, hk⟩, o⟩ := x
 dsimp only at hk o ⊢
 refine sqt 1 rfl (pur 1 rfl (Z0 ?_))
 refine Z1 rfl ?_ ?_ <;> intro hc0 <;> try simp only [cS] at hc0
 obtain ⟨x, hx⟩ : ∃ x, h.gaps[k]? = some x := ⟨_, List.getElem?_eq_getElem (by omega)⟩
 refine Zg (a := ag) (sz := 2) (rows := Zd h.gaps) (ne0 (by rw [Z0w]; omega)) (fun ba oa he => ?_)
 subst he
 refine Z2 (Z0 (Z3 (sqt 4 rfl (sp rfl (PE.indexAddr Z75 rfl rfl (by omega) (by omega)) rfl (spL rfl rfl (lfA Z6I (row := grow x) (Z0U hx) rfl) rfl (alc rfl Z5c rfl (fun b5 => ?_)))))))
 refine ZS (l' := grow x) rfl rfl rfl ZcH rfl rfl rfl rfl (nl rfl) ?_
 refine sqr 7 rfl (sp rfl (PE.fA Z1h rfl) rfl (spL rfl rfl (lh Z7D rfl rfl) rfl (spL rfl rfl (lhA (grow x) Z6I rfl rfl rfl) rfl ?_)))
 refine bsl (out := [_, _]) rfl ZfU Z9V rfl rfl rfl rfl rfl rfl (fun b21 => ?_)
 refine apO (o) rfl ZfY rfl rfl (Z0A (row := grow x) rfl) rfl rfl ((by rw [Z0w, List.length_take]; simp only [List.length_singleton]; omega)) rfl (fun o22 => ?_)
 refine sp rfl (PE.fA Z1h rfl) rfl ?_
 refine ZS (l' := htl h o22.fs (.slice none 0 0)) rfl rfl rfl ZfK rfl (by rw [o22.cells.1]; first | done | rfl) (by rw [o22.cells.1]; simp [o22.cells.2]) (by rw [o22.cells.1]; first | done | rfl) (by rw [o22.cells.1]; first | done | exact Nat.le_of_ble_eq_true rfl) ?_
 refine sqr 2 rfl (sp rfl (PE.add rfl rfl (by omega)) rfl (pur 1 rfl ?_))
 exact Za ⟨⟨k + 1, by omega⟩, o22.cast (by rw [Z5H hx, Zeo]; rfl)⟩ (fun w h9 => (h9.del b21).del b5)
 obtain rfl : k = h.gaps.length := by omega
 obtain ⟨ax, cx, he, hcx, hf⟩ := (o.cast (show _ = Zd h.gaps by rw [List.take_length])).freezeC
 rw [Z0w] at hcx
 rw [show o.fs = _ from he, Z0w]
 refine Sy.heap (fun w h9 => hf h9) ?_
 clear he hf
 refine Z7 (Z8 (Z8 (Zl (Z0 (sqt 4 rfl (sp rfl (PE.fA Z0H rfl) rfl (spL rfl rfl (lh Z5d rfl rfl) rfl (sp rfl (PE.lenSl Z3E rfl) rfl (pur 1 rfl (Z3 ?_))))))))))
 refine Ze (ι := (k : {k : Nat // k ≤ h.sights.length}) × OSl 111 3 (Zf (h.sights.take k.1))) (fun x => ⟨[(1, .pointer (some ⟨b1, 0, none⟩)), (2, .pointer (some ⟨b2, 0, none⟩)), (3, .pointer (some ⟨b3, 0, none⟩)), (26, h.ss as_ cs), (27, .int .i64 h.sights.length), (28, .int .i64 x.1.1)], x.2.G ++ ((b3, cel 35 (htl h (.slice ax h.gaps.length cx) x.2.fs)) :: (b2, cel 35 (htl ⟨0, [], []⟩ (.slice none 0 0) (.slice none 0 0))) :: (b1, cel 25 (htl h (h.sg ag cg) (h.ss as_ cs))) :: H), RowsA ax 2 (Zd h.gaps) :: R⟩) (fun x => h.sights.length - x.1.1) ⟨⟨0, by omega⟩, OSl.nil _ _⟩ ?_ (fun x => ?_)
 exact Zk idH
 obtain ⟨⟨k, hk⟩, o⟩ := x
 dsimp only at hk o ⊢
 refine sqt 1 rfl (pur 1 rfl (Z0 ?_))
 refine Z1 rfl ?_ ?_ <;> intro hc1 <;> try simp only [cS] at hc1
 obtain ⟨x, hx⟩ : ∃ x, h.sights[k]? = some x := ⟨_, List.getElem?_eq_getElem (by omega)⟩
 refine Zg (a := as_) (sz := 3) (rows := Zf h.sights) (ne0 (by rw [Z2d]; omega)) (fun bs os he => ?_)
 subst he
 refine Z2 (Z0 (Z3 (sqt 4 rfl (sp rfl (PE.indexAddr ZdV rfl rfl (by omega) (by omega)) rfl (spL rfl rfl (lfA ZbA (row := Z1W x) (Z60 hx) rfl) rfl (alc rfl Zbt rfl (fun b7 => ?_)))))))
 refine ZS (l' := Z1W x) rfl rfl rfl ZfQ rfl rfl rfl rfl (nl rfl) ?_
 refine sqr 7 rfl (sp rfl (PE.fA Z3R rfl) rfl (spL rfl rfl (lh ZcQ rfl rfl) rfl (spL rfl rfl (lhA (Z1W x) ZbA rfl rfl rfl) rfl ?_)))
 refine bsl (out := [_, _, _]) rfl Zg0 ZeV rfl rfl rfl rfl rfl rfl (fun b35 => ?_)
 refine apO (o) rfl ZfI rfl rfl (Z0A (row := Z1W x) rfl) rfl rfl ((by rw [Z2d, List.length_take]; simp only [List.length_singleton]; omega)) rfl (fun o36 => ?_)
 refine sp rfl (PE.fA Z3R rfl) rfl ?_
 refine ZS (l' := htl h (.slice ax h.gaps.length cx) o36.fs) rfl rfl rfl ZfH rfl (by rw [o36.cells.1]; first | done | rfl) (by rw [o36.cells.1]; simp [o36.cells.2]) (by rw [o36.cells.1]; first | done | rfl) (by rw [o36.cells.1]; first | done | exact Nat.le_of_ble_eq_true rfl) ?_
 refine sqr 2 rfl (sp rfl (PE.add rfl rfl (by omega)) rfl (pur 1 rfl ?_))
 exact Za ⟨⟨k + 1, by omega⟩, o36.cast (by rw [Z5H hx, ZcI]; rfl)⟩ (fun w h9 => (h9.del b35).del b7)
 obtain rfl : k = h.sights.length := by omega
 obtain ⟨ay, cy, he, hcy, hf⟩ := (o.cast (show _ = Zf h.sights by rw [List.take_length])).freezeC
 rw [Z2d] at hcy
 rw [show o.fs = _ from he, Z2d]
 refine Sy.heap (fun w h9 => hf h9) ?_
 clear he hf
 refine Z7 (Z8 (Z8 (Zl (sqt 2 rfl (spL rfl rfl (lhA (htl h (.slice ax h.gaps.length cx) (.slice ay h.sights.length cy)) Z5a rfl rfl rfl) rfl ?_)))))
 refine ZS (l' := htl h (.slice ax h.gaps.length cx) (.slice ay h.sights.length cy)) rfl rfl rfl Zfh rfl rfl rfl rfl (nl rfl) ?_
 refine Z5 ?_
 exact Zp (vs := [_]) rfl (.cons (RV.cell rfl (lhA (htl h (.slice ax h.gaps.length cx) (.slice ay h.sights.length cy)) Z5a rfl rfl rfl)) .nil) rfl ⟨ax, ay, cx, cy, rfl, rfl, rfl⟩ (fun w h9 => ((h9.del b3).del b2).del b1)
theorem ZaW (h q : Hse) (ag as_ ax ay : Option Addr) (cg cs cx cy : Nat) (hlg : h.gaps.length ≤ 9223372036854775807) (hls : h.sights.length ≤ 9223372036854775807) (hqg : q.gaps.length ≤ 9223372036854775807) (hqs : q.sights.length ≤ 9223372036854775807) (H : Z9) (R : Z6) [hG : MemRows ag 2 (Zd h.gaps) R] [hS : MemRows as_ 3 (Zf h.sights) R] [hX : MemRows ax 2 (Zd q.gaps) R] [hY : MemRows ay 3 (Zf q.sights) R] :
    FnV Tryz.prog 25 [h.v (h.sg ag cg) (h.ss as_ cs), q.v (q.sg ax cx) (q.ss ay cy)] H R (.bool (Z6L h q)) := by
 refine Zi Tryz.func25 rfl Tryz.ntmps25 rfl ?_
 refine sqt 3 rfl (bx rfl rfl rfl (fun b2 => bx rfl rfl rfl (fun b3 => pur 1 rfl (sqt 20 rfl (sp rfl (PE.fA Z1d rfl) rfl (spL rfl rfl (lh (v := .int .i64 h.bins) sc3 rfl rfl) rfl (sp rfl (PE.fA Z1d rfl) rfl (spL rfl rfl (lh (v := .int .i64 q.bins) sc3 rfl rfl) rfl (pur 2 rfl ?_)))))))))
 refine Zo 10 rfl ?_ ?_ <;> intro g10
 refine spG rfl rfl rfl rfl (PE.fA Z06 rfl) rfl ?_
 refine Z0t rfl rfl rfl rfl rfl (lh Z3J rfl rfl) rfl ?_
 refine spG rfl rfl rfl rfl (PE.fA Z06 rfl) rfl ?_
 refine Z0t rfl rfl rfl rfl rfl (lh Z3J rfl rfl) rfl ?_
 refine Z22 rfl rfl rfl rfl Zfs rfl rfl (Z9K h.gaps q.gaps ag ax cg cx hlg hqg _ _) ?_
 refine pur 2 rfl ?_
 refine Zo 17 rfl ?_ ?_ <;> intro g17
 refine spG rfl rfl rfl rfl (PE.fA Z0H rfl) rfl ?_
 refine Z0t rfl rfl rfl rfl rfl (lh Z5d rfl rfl) rfl ?_
 refine spG rfl rfl rfl rfl (PE.fA Z0H rfl) rfl ?_
 refine Z0t rfl rfl rfl rfl rfl (lh Z5d rfl rfl) rfl ?_
 refine Z22 rfl rfl rfl rfl ZeN rfl rfl (Z9E h.sights q.sights as_ ay cs cy hls hqs _ _) ?_
 refine pur 2 rfl (Z5 ?_)
 exact rtA rfl rfl rfl ⟨by simp only [ZG, Z6L]; first | (rw [g10, g17]; rfl) | (rw [g10]; rfl), rfl, rfl⟩ (fun w h9 => (h9.del b3).del b2)
 refine pur 7 rfl (Z5 ?_)
 exact rtA rfl rfl rfl ⟨by simp only [ZG, Z6L]; first | (rw [g10, g17]; rfl) | (rw [g10]; rfl), rfl, rfl⟩ (fun w h9 => (h9.del b3).del b2)
 refine pur 14 rfl (Z5 ?_)
 exact rtA rfl rfl rfl ⟨by simp only [ZG, Z6L]; first | (rw [g10, g17]; rfl) | (rw [g10]; rfl), rfl, rfl⟩ (fun w h9 => (h9.del b3).del b2)
theorem ZbC (n : Nat) (hn : n ≤ 20) (H : Z9) (R : Z6) :
    FnV Tryz.prog 74 [.int .i64 (n : Int)] H R (.int .i64 ((2 ^ n : Nat) : Int)) := by
 refine Zi Tryz.func74 rfl Tryz.ntmps74 rfl ?_
 refine sqt 1 rfl (pur 1 rfl (sqt 1 rfl (pur 1 rfl (Z0 (sqt 1 rfl (pur 1 rfl (Z3 ?_)))))))
 refine Ze (ι := {k : Nat // k ≤ n}) (fun k => ⟨[(0, .int .i64 (n : Int)), (3, .int .i64 ((2 ^ k.1 : Nat) : Int)), (4, .int .i64 (k.1 : Int))], H, R⟩) (fun k => n - k.1) ⟨0, Nat.zero_le _⟩ ?_ (fun k => ?_)
 exact Zk idH
 obtain ⟨k, hk⟩ := k
 dsimp only at hk ⊢
 have hp := Nat.pow_le_pow_right (show 0 < 2 by decide) (show k ≤ 20 by omega)
 have h20 : (2 : Nat) ^ 20 = 1048576 := rfl
 have hps := Nat.pow_succ 2 k
 refine Z0 (sqt 3 rfl (pur 3 rfl ?_))
 refine Z1 rfl ?_ ?_ <;> intro hc0 <;> try simp only [cS] at hc0
 refine Z2 (Z0 (Z3 (sqr 3 rfl (pur 1 rfl (sp rfl (PE.mul rfl rfl (by omega)) rfl (pur 1 rfl (sqr 3 rfl (pur 1 rfl (sp rfl (PE.add rfl rfl (by omega)) rfl (pur 1 rfl ?_))))))))))
 rw [show (2 : Int) * ((2 ^ k : Nat) : Int) = ((2 ^ (k + 1) : Nat) : Int) by omega]
 exact Za ⟨k + 1, by omega⟩ idH
 obtain rfl : k = n := by omega
 refine Z7 (Z8 (Z8 (Zl (sqt 2 rfl (pur 2 rfl (Z5 ?_))))))
 exact rtA rfl rfl rfl ⟨rfl, rfl, rfl⟩ drp
theorem Zbd (s : Nat) (hs : s < 2 ^ 10) (H : Z9) (R : Z6) :
    Fn Tryz.prog 75 [.int .i64 (s : Int)] H R (fun v H' R' => ∃ o : OSl 3 1 (Z4 (ZF s)), v = o.fs ∧ H' = o.G ++ H ∧ R' = R) := by
 refine Zi Tryz.func75 rfl Tryz.ntmps75 rfl ?_
 refine sqt 1 rfl ?_
 have h10 : (2 : Nat) ^ 10 = 1024 := rfl
 rw [show (s : Int) = ((s >>> 0 : Nat) : Int) from rfl]
 refine pur 1 rfl (sqt 1 rfl (pur 1 rfl (Z0 (sqt 1 rfl (pur 1 rfl (Z3 ?_))))))
 refine Ze (ι := (k : {k : Nat // k ≤ 10}) × OSl 3 1 (Z4 (Z6R s k.1))) (fun x => ⟨[(0, .int .i64 ((s >>> x.1.1 : Nat) : Int)), (3, x.2.fs), (4, .int .i64 (x.1.1 : Int))], x.2.G ++ H, R⟩) (fun x => 10 - x.1.1) ⟨⟨0, by omega⟩, OSl.nil _ _⟩ ?_ (fun x => ?_)
 exact Zk idH
 obtain ⟨⟨k, hk⟩, o⟩ := x
 dsimp only at hk o ⊢
 have hml := Z4v s k
 have hsk : s >>> k ≤ s := Nat.shiftRight_le _ _
 refine Z0 (sqt 2 rfl (pur 2 rfl ?_))
 refine Z1 rfl ?_ ?_ <;> intro hc0 <;> try simp only [cS] at hc0
 have hk4 := ZbX hs hc0
 refine Z2 (Z0 (Z3 (Z0 (sqt 3 rfl (pur 1 rfl (sp rfl (PE.rem rfl rfl ⟨Int.natCast_nonneg _, by decide⟩) rfl (pur 1 rfl ?_)))))))
 refine Z1 rfl ?_ ?_ <;> intro hc1
 rw [Z7T] at hc1
 have eb := Z8Y (of_decide_eq_true hc1)
 refine sqr 5 rfl (pur 2 rfl ?_)
 refine bsl (out := [_]) rfl Z0D zl3 rfl rfl rfl rfl rfl rfl (fun b14 => ?_)
 refine apO (o) rfl Z21 rfl rfl (Z0A (row := [.int .i64 (k : Int)]) rfl) rfl rfl ((by rw [irl]; simp only [List.length_singleton]; omega)) rfl (fun o15 => ?_)
 refine pur 1 rfl (sqr 3 rfl (pur 1 rfl (sp rfl (PE.quo rfl rfl ⟨Int.natCast_nonneg _, by omega, by decide⟩) rfl ?_)))
 rw [Z6x]
 refine pur 1 rfl (sqr 3 rfl (pur 1 rfl (sp rfl (PE.add rfl rfl (by omega)) rfl (pur 1 rfl ?_))))
 first
   | exact Zb ⟨⟨k + 1, by omega⟩, o15.cast (by rw [eb]; simp [Z4])⟩ (by dsimp only; omega) (fun w h => h.del b14)
   | exact Zb ⟨⟨k + 1, by omega⟩, o.cast (by rw [eb])⟩ (by dsimp only; omega) idH
 rw [Z7T] at hc1
 have eb := Z4i (of_decide_eq_false hc1)
 refine Z2 (sqr 3 rfl (pur 1 rfl (sp rfl (PE.quo rfl rfl ⟨Int.natCast_nonneg _, by omega, by decide⟩) rfl ?_)))
 rw [Z6x]
 refine pur 1 rfl (sqr 3 rfl (pur 1 rfl (sp rfl (PE.add rfl rfl (by omega)) rfl (pur 1 rfl ?_))))
 first
   | exact Zb ⟨⟨k + 1, by omega⟩, o15.cast (by rw [eb]; simp [Z4])⟩ (by dsimp only; omega) (fun w h => h.del b14)
   | exact Zb ⟨⟨k + 1, by omega⟩, o.cast (by rw [eb])⟩ (by dsimp only; omega) idH
 have hz : s / 2 ^ k = 0 := by
   have h5 : s >>> k = 0 := Nat.le_zero.1 (Int.ofNat_le.1 hc0)
   rw [Nat.shiftRight_eq_div_pow] at h5; exact h5
 refine Z7 (Z8 (Z8 (Zl (sqt 2 rfl (pur 2 rfl (Z5 ?_))))))
 exact rtA rfl rfl rfl ⟨o.cast (by rw [Z87 hz (by omega)]), rfl, rfl, rfl⟩ idH
end Go.Proofs.YthbjpnmclokinaaGreat
namespace Go.Proofs.YthbjpnmclokinaaGreat
set_option linter.unusedSimpArgs false
set_option linter.unusedVariables false
def Stp1 (gs : List Gp) (K sp m c l n : Nat) : Prop := l &&& c = 0 ∧ cnt gs.length l ≤ sp ∧ spr gs (c ||| l) m &&& K = 0 ∧ ((spr gs (c ||| l) m = m ∧ n = cnt gs.length l) ∨ (spr gs (c ||| l) m ≠ m ∧ ∃ k, n = cnt gs.length l + k ∧ Lst (Pl gs K sp (spr gs (c ||| l) m) (c ||| l)) k))
def FwQ (gs : List Gp) (K sp m c : Nat) (x : Int) : Prop := (∃ n : Nat, Lst (Pl gs K sp m c) n ∧ x = n) ∨ ((∀ n, ¬ Pl gs K sp m c n) ∧ x = -1)
structure FwI (gs : List Gp) (K sp m c s : Nat) (x : Int) : Prop where
  lo : ∀ l, l < s → ∀ n, Stp1 gs K sp m c l n → 0 ≤ x ∧ x ≤ n
  is : x = -1 ∨ ∃ l n : Nat, l < s ∧ Stp1 gs K sp m c l n ∧ x = n
theorem FwI.start (gs : List Gp) (K sp m c : Nat) : FwI gs K sp m c 0 (-1) := ⟨fun l hl => absurd hl (Nat.not_lt_zero _), .inl rfl⟩
theorem FwI.skip {gs : List Gp} {K sp m c s : Nat} {x : Int} (h : FwI gs K sp m c s x) (hn : ∀ n, ¬ Stp1 gs K sp m c s n) : FwI gs K sp m c (s + 1) x := by
  refine ⟨fun l hl n hs => ?_, h.is.imp id fun ⟨l, n, h1, h2⟩ => ⟨l, n, by omega, h2⟩⟩
  rcases Nat.lt_or_ge l s with h1 | h1
  · exact h.lo l h1 n hs
  · obtain rfl : l = s := by omega
    exact absurd hs (hn n)
theorem Stp1.unique {gs : List Gp} {K sp m c l n n' : Nat} (h : Stp1 gs K sp m c l n) (h' : Stp1 gs K sp m c l n') : n = n' := by
  obtain ⟨_, _, _, h4⟩ := h
  obtain ⟨_, _, _, h5⟩ := h'
  rcases h4 with ⟨h1, h2⟩ | ⟨h1, k, h2, h3⟩ <;> rcases h5 with ⟨g1, g2⟩ | ⟨g1, k', g2, g3⟩
  · omega
  · exact absurd h1 g1
  · exact absurd g1 h1
  · rw [h2, g2, h3.unique g3]
theorem FwI.worse {gs : List Gp} {K sp m c s n : Nat} {x : Int} (h : FwI gs K sp m c s x) (hs : Stp1 gs K sp m c s n) (hx : 0 ≤ x ∧ x ≤ n) : FwI gs K sp m c (s + 1) x := by
  refine ⟨fun l hl n' hs' => ?_, h.is.imp id fun ⟨l, n, h1, h2⟩ => ⟨l, n, by omega, h2⟩⟩
  rcases Nat.lt_or_ge l s with h1 | h1
  · exact h.lo l h1 n' hs'
  · obtain rfl : l = s := by omega
    rw [hs'.unique hs]; exact hx
theorem FwI.take {gs : List Gp} {K sp m c s n : Nat} {x : Int} (h : FwI gs K sp m c s x) (hs : Stp1 gs K sp m c s n) (hx : x < 0 ∨ (n : Int) < x) : FwI gs K sp m c (s + 1) n := by
  refine ⟨fun l hl n' hs' => ?_, .inr ⟨s, n, by omega, hs, rfl⟩⟩
  rcases Nat.lt_or_ge l s with h1 | h1
  · have := h.lo l h1 n' hs'
    omega
  · obtain rfl : l = s := by omega
    rw [hs'.unique hs]; omega
theorem Stp1.pl {gs : List Gp} {K sp m c l n : Nat} (hl : l < 2 ^ gs.length) (h : Stp1 gs K sp m c l n) : Pl gs K sp m c n := by
  obtain ⟨h1, h2, h3, h4⟩ := h
  rcases h4 with ⟨h5, rfl⟩ | ⟨h5, k, rfl, h6⟩
  · exact .stay hl h1 h2 h5 (by rw [h5] at h3; exact h3)
  · exact .go hl h1 h2 h5 h3 h6.1
theorem FwI.done {gs : List Gp} {K sp m c : Nat} {x : Int} (h : FwI gs K sp m c (2 ^ gs.length) x) : FwQ gs K sp m c x := by
  have key : ∀ n, Pl gs K sp m c n → ∃ l n', l < 2 ^ gs.length ∧ n' ≤ n ∧ Stp1 gs K sp m c l n' := fun n hp => by
    obtain ⟨l, h1, h2, h3, h4, h5⟩ := hp.cons_inv
    rcases h5 with ⟨h6, h7⟩ | ⟨h6, k, h7, h8⟩
    · exact ⟨l, n, h1, Nat.le_refl _, h2, h3, h4, .inl ⟨h6, h7⟩⟩
    · obtain ⟨k', h9, h10⟩ := Lst.ex h8
      exact ⟨l, cnt gs.length l + k', h1, by omega, h2, h3, h4, .inr ⟨h6, k', rfl, h9⟩⟩
  rcases h.is with h1 | ⟨l, n, h1, h2, h3⟩
  · refine .inr ⟨fun n hp => ?_, h1⟩
    obtain ⟨l, n', h2, _, h4⟩ := key n hp
    have := h.lo l h2 n' h4
    omega
  · refine .inl ⟨n, ⟨h2.pl h1, fun k hp => ?_⟩, h3⟩
    obtain ⟨l', n', g1, g2, g3⟩ := key k hp
    have := h.lo l' g1 n' g3
    omega
structure CtI (gs : List Gp) (S K s b : Nat) : Prop where
  lo : ∀ l, l < s → Shut gs l S K → b ≤ cnt gs.length l
  is : b = gs.length ∨ ∃ l, l < s ∧ Shut gs l S K ∧ cnt gs.length l = b
  le : b ≤ gs.length
theorem CtI.start (gs : List Gp) (S K : Nat) : CtI gs S K 0 gs.length := ⟨fun l hl => absurd hl (Nat.not_lt_zero _), .inl rfl, Nat.le_refl _⟩
theorem CtI.skip {gs : List Gp} {S K s b : Nat} (h : CtI gs S K s b) (hn : b ≤ cnt gs.length s ∨ ¬ Shut gs s S K) : CtI gs S K (s + 1) b := by
  refine ⟨fun l hl hs => ?_, h.is.imp id fun ⟨l, h1, h2⟩ => ⟨l, by omega, h2⟩, h.le⟩
  rcases Nat.lt_or_ge l s with h1 | h1
  · exact h.lo l h1 hs
  · obtain rfl : l = s := by omega
    exact hn.resolve_right (fun h9 => h9 hs)
theorem CtI.take {gs : List Gp} {S K s b : Nat} (h : CtI gs S K s b) (hb : cnt gs.length s < b) (hs : Shut gs s S K) : CtI gs S K (s + 1) (cnt gs.length s) := by
  refine ⟨fun l hl hs' => ?_, .inr ⟨s, by omega, hs, rfl⟩, by have := h.le; omega⟩
  rcases Nat.lt_or_ge l s with h1 | h1
  · have := h.lo l h1 hs'; omega
  · obtain rfl : l = s := by omega
    exact Nat.le_refl _
theorem CtI.done {gs : List Gp} {S K b : Nat} (ht : Two gs S K) (h : CtI gs S K (2 ^ gs.length) b) : Cut gs S K b := by
  refine ⟨?_, fun n ⟨C, h1, h2, h3⟩ => by rw [← h3]; exact h.lo C h1 h2⟩
  rcases h.is with h1 | h1
  · have hp := Nat.two_pow_pos gs.length
    refine ⟨2 ^ gs.length - 1, by omega, Z6r ht, ?_⟩
    rw [h1]
    unfold cnt
    rw [List.countP_eq_length.2, List.length_range]
    intro k hk
    rw [Nat.testBit_two_pow_sub_one]
    exact decide_eq_true (List.mem_range.1 hk)
  · obtain ⟨l, g1, g2, g3⟩ := h1
    exact ⟨l, g1, g2, g3⟩
open Go
theorem Zd8 : cal Tryz.prog 10 = true := by kernel_rfl
theorem ZeZ : cal Tryz.prog 12 = true := by kernel_rfl
theorem ZeU : cal Tryz.prog 13 = true := by kernel_rfl
theorem Zf4 : cal Tryz.prog 16 = true := by kernel_rfl
theorem Z9F : cal Tryz.prog 18 = true := by kernel_rfl
theorem ZcV : cal Tryz.prog 25 = true := by kernel_rfl
theorem Zfi : cal Tryz.prog 28 = true := by kernel_rfl
theorem ZeS : cal Tryz.prog 75 = true := by kernel_rfl
theorem Z3f {α : Type} {l : List α} {k : Nat} {x : α} (h : l[k]? = some x) : l.take (k + 1) = l.take k ++ [x] := by rw [List.take_add_one, h]; rfl
theorem Z4V (xs : List Int) (a : Option Addr) (c : Nat) (hl : xs.length ≤ 1000000) (H : Z9) (R : Z6) [hR : MemRows a 1 (Z4 xs) R] :
    Fn Tryz.prog 14 [.slice a xs.length c] H R (fun v H' R' => ∃ o : OSl 3 1 (Z4 xs), v = o.fs ∧ o.here ∧ H' = o.G ++ H ∧ R' = R) := by
 refine Zi Tryz.func14 rfl Tryz.ntmps14 rfl ?_
 refine sqt 1 rfl (pur 1 rfl (sqt 6 rfl (pur 1 rfl (sp rfl (PE.lenSl Zx rfl) rfl ?_))))
 refine mkO rfl Z21 zl3 rfl rfl ⟨by omega, by omega⟩ rfl (fun o ho => ?_)
 refine pur 1 rfl ?_
 refine ZeC (news := Z4 xs) o rfl Z21 rfl rfl (Z3r) (by simp [Z4]) (by simp [ZA, Z4, Value.oneCell']) ⟨by simp [Z4]; omega, by simp [Z4]; omega⟩ rfl ho (fun o2 ho2 => ?_)
 refine pur 1 rfl (Z5 ?_)
 exact rtA rfl rfl rfl ⟨o2.cast (by simp), rfl, ho2, rfl, rfl⟩ idH
theorem St.blkRows {rows : List (List Value)} {sz bk e : Nat} {junk : List Value} {H : Z9} {R : Z6} {w : World} (hz : ∀ r ∈ rows, r.length = sz) (hs : St ((bk, cel e (rows.flatten ++ junk)) :: H) R w) :
    St H (RowsA (some ⟨bk, 0, none⟩) sz rows :: R) w := by
  have h1 := (St.freeze hs).also (f := RowsA (some ⟨bk, 0, none⟩) sz rows) (fun w' hw => by
    have hb := hw (fun w => w.heap[bk]? = some (cel e (rows.flatten ++ junk))) (by simp)
    exact Z2w hb hz)
  exact h1.facts (fun g hg => by rcases List.mem_cons.1 hg with h3 | h3 <;> simp [h3])
theorem Z8b (l : List PL) : ∀ r ∈ Zh l, r.length = 1 := fun r hr => by obtain ⟨x, _, rfl⟩ := List.mem_map.1 hr; rfl
theorem Z6Z (A B : List PL) : Zh (A ++ B) = Zh A ++ Zh B := by simp [Zh]
theorem Z5Z (l : List PL) : (Zh l).flatten.length = l.length := by rw [Z0f (Z8b l), Zv]; omega
def ZaN (ql : List PL) (n : Nat) : List Value := (Zh ql).flatten ++ (List.replicate n [Value.slice none 0 0]).flatten
theorem Z9s (ql : List PL) (n : Nat) : (ZaN ql n).length = ql.length + n := by
  unfold ZaN
  rw [List.length_append, Z5Z, Z0f (sz := 1) (fun q hq => by rw [(List.mem_replicate.1 hq).2]; rfl), List.length_replicate]; omega
theorem Zaa (ql : List PL) (n : Nat) (x : PL) {i : Nat} (e : i = ql.length) : spl (ZaN ql (n + 1)) i [.slice x.a x.l.length x.c] = ZaN (ql ++ [x]) n := by
  subst e
  unfold ZaN
  rw [List.replicate_succ, List.flatten_cons, Z6Z, List.flatten_append, List.append_assoc]
  have := ZaH (p := (Zh ql).flatten) (q := [Value.slice none 0 0]) (s := (List.replicate n [Value.slice none 0 0]).flatten) (vs := [.slice x.a x.l.length x.c]) rfl
  rw [Z5Z] at this
  exact this
theorem St.innSnocH {a : Option Addr} {c : Nat} {l0 : List Int} {l : List PL} {H : Z9} {R : Z6} {w : World} [m1 : MemF (Inn l) R] [m2 : MemRows a 1 (Z4 l0) R] (h : St H R w) : St H (Inn (l ++ [⟨a, c, l0⟩]) :: R) w :=
  h.also fun w' hw x hx => by
    rcases List.mem_append.1 hx with hx | hx
    · exact hw _ m1.mem x hx
    · obtain rfl : x = ⟨a, c, l0⟩ := by simpa using hx
      exact hw _ m2.mem
theorem Z7o (pl : List PL) (ap : Option Addr) (cp : Nat) (hpl : pl.length ≤ 1000000) (hpi : ∀ x ∈ pl, x.l.length ≤ 1000000) (H : Z9) (R : Z6) [hP : MemRows ap 1 (Zh pl) R] [hI : MemF (Inn pl) R] :
    Fn Tryz.prog 15 [.slice ap pl.length cp] H R (fun v H' R' => ∃ (ql : List PL) (aq : Option Addr) (cq : Nat), lls ql = lls pl ∧ v = .slice aq ql.length cq ∧ H' = H ∧ R' = RowsA aq 1 (Zh ql) :: Inn ql :: R) := by
 refine Zi Tryz.func15 rfl Tryz.ntmps15 rfl ?_
 refine sqt 1 rfl (pur 1 rfl (sqt 4 rfl (pur 1 rfl (sp rfl (PE.lenSl Z0P rfl) rfl ?_))))
 refine mkS rfl ZfD Z9H rfl rfl (Nat.le_refl _) ⟨by omega, by omega⟩ rfl (fun b8 => ?_)
 refine Sy.heap (H' := (b8, cel 26 (ZaN [] pl.length)) :: H) (R' := Inn [] :: R) (fun w h => St.inn0 (by rw [← Z29] at h; exact h)) ?_
 refine pur 1 rfl (Z0 (sqt 3 rfl (pur 1 rfl (sp rfl (PE.lenSl Z0P rfl) rfl (pur 1 rfl (Z3 ?_))))))
 refine Ze (ι := {q : List PL // q.length ≤ pl.length ∧ lls q = (lls pl).take q.length}) (fun q => ⟨[(3, .slice (some ⟨b8, 0, none⟩) pl.length pl.length), (9, .slice ap pl.length cp), (10, .int .i64 pl.length), (11, .int .i64 q.1.length)], (b8, cel 26 (ZaN q.1 (pl.length - q.1.length))) :: H, Inn q.1 :: R⟩) (fun q => pl.length - q.1.length) ⟨[], Nat.zero_le _, rfl⟩ ?_ (fun q => ?_)
 exact Zk idH
 obtain ⟨q, hq, hqe⟩ := q
 dsimp only at hq hqe ⊢
 refine sqt 1 rfl (pur 1 rfl (Z0 ?_))
 refine Z1 rfl ?_ ?_ <;> intro hc0 <;> try simp only [cS] at hc0
 obtain ⟨x, hx⟩ : ∃ x, pl[q.length]? = some x := ⟨_, List.getElem?_eq_getElem (by omega)⟩
 have hxm := List.mem_of_getElem? hx
 have hxl := hpi x hxm
 refine Zg (a := ap) (sz := 1) (rows := Zh pl) (ne0 (by rw [Zv]; omega)) (fun ba oa he => ?_)
 subst he
 refine Sy.heap (fun w h => St.inn (x := x) h hxm) ?_
 refine Z2 (Z0 (Z3 (sqt 5 rfl (pur 1 rfl (sp rfl (PE.indexAddr Z5p rfl rfl (by omega) (by omega)) rfl (spL rfl rfl (lf0 Z1Y (Z1e hx) rfl) rfl (pur 2 rfl (sqr 6 rfl (pur 3 rfl ?_)))))))))
 refine cl rfl Zcq rfl rfl (Z4V x.l x.a x.c hxl _ _) ?_
 rintro _ _ _ ⟨o, rfl, ho, rfl, rfl⟩
 obtain ⟨ax, cx, he, hf⟩ := o.freeze
 rw [he, Z01]
 refine Sy.heap (fun w h => hf h) ?_
 clear he hf
 refine sp rfl (PE.indexAddr Z5p rfl rfl (by omega) (by omega)) rfl ?_
 refine ZS (l' := ZaN (q ++ [⟨ax, cx, x.l⟩]) (pl.length - (q.length + 1))) rfl rfl rfl ZcB rfl rfl rfl (by rw [show pl.length - q.length = (pl.length - (q.length + 1)) + 1 by omega]; exact Zaa q _ ⟨ax, cx, x.l⟩ (by show 0 + ((q.length : Nat) : Int).toNat * 1 = _; omega)) (by rw [Z9s]; show 0 + ((q.length : Nat) : Int).toNat * 1 + 1 ≤ _; omega) ?_
 refine sqr 2 rfl (sp rfl (PE.add rfl rfl (by omega)) rfl (pur 1 rfl ?_))
 exact Zc ⟨q ++ [⟨ax, cx, x.l⟩], by rw [List.length_append, List.length_singleton]; omega, by rw [List.length_append, List.length_singleton, Z3f (Z0O hx), ← hqe]; simp [lls]⟩ (by dsimp only; rw [List.length_append, List.length_singleton]; omega) (by dsimp only; rw [List.length_append, List.length_singleton]; exact (by repeat' first | exact Sub.nil | apply Sub.cons | rfl | (simp [lk]; omega))) (fun w h => by dsimp only; rw [List.length_append, List.length_singleton]; exact (St.innSnocH (a := ax) (c := cx) (l0 := x.l) (l := q) h).facts (fun g hg => by rcases List.mem_cons.1 hg with h3 | h3 <;> simp [h3]))
 have hql : q.length = pl.length := by omega
 rw [hql, List.take_of_length_le (by rw [ZR]; exact Nat.le_refl _)] at hqe
 refine Sy.heap (H' := (b8, cel 26 ((Zh q).flatten ++ [])) :: H) (fun w h => by rw [hql, Nat.sub_self] at h; exact h) ?_
 refine Sy.heap (fun w h => St.blkRows (Z8b q) h) ?_
 refine Z7 (Z8 (Z8 (Zl (sqt 2 rfl (pur 2 rfl (Z5 ?_))))))
 exact rtA rfl rfl rfl ⟨q, _, _, hqe, by rw [hql]; rfl, rfl, rfl⟩ idH
theorem Z6E (pl : List PL) (ap : Option Addr) (cp : Nat) (hpl : pl.length ≤ 9223372036854775807) (hpi : ∀ x ∈ pl, x.l.length ≤ 9223372036854775807) (ql : List PL) (aq : Option Addr) (cq : Nat) (hql : ql.length ≤ 9223372036854775807) (hqi : ∀ x ∈ ql, x.l.length ≤ 9223372036854775807) (H : Z9) (R : Z6) [hP : MemRows ap 1 (Zh pl) R] [hI : MemF (Inn pl) R] [hQ : MemRows aq 1 (Zh ql) R] [hJ : MemF (Inn ql) R] :
    FnV Tryz.prog 27 [.slice ap pl.length cp, .slice aq ql.length cq] H R (.bool (decide (lls pl = lls ql))) := by
 refine Zi Tryz.func27 rfl Tryz.ntmps27 rfl ?_
 refine sqt 1 rfl (pur 1 rfl (Z0 (sqt 5 rfl (pur 1 rfl (sp rfl (PE.lenSl Z0P rfl) rfl (pur 1 rfl (sp rfl (PE.lenSl Z0P rfl) rfl (pur 1 rfl ?_))))))))
 refine Z1 rfl ?_ ?_ <;> intro hc0 <;> try simp only [cS] at hc0
 have hne : lls pl ≠ lls ql := fun e => by have := congrArg List.length e; rw [ZR, ZR] at this; omega
 refine sqt 1 rfl (pur 1 rfl (Z5 ?_))
 exact rtA rfl rfl rfl ⟨by first | (simp only [ZG]; rw [dT heq]; done) | (simp only [ZG]; rw [dF hne]), rfl, rfl⟩ drp
 have hle : pl.length = ql.length := by omega
 refine Z2 (Z0 (sqt 3 rfl (pur 1 rfl (sp rfl (PE.lenSl Z0P rfl) rfl (pur 1 rfl (Z3 ?_))))))
 refine Ze (ι := {k : Nat // k ≤ pl.length ∧ (lls pl).take k = (lls ql).take k}) (fun k => ⟨[(1, .slice aq ql.length cq), (12, .slice ap pl.length cp), (13, .int .i64 pl.length), (14, .int .i64 k.1)], H, R⟩) (fun k => pl.length - k.1) ⟨0, Nat.zero_le _, rfl⟩ ?_ (fun k => ?_)
 exact Zk idH
 obtain ⟨k, hk, hke⟩ := k
 dsimp only at hk hke ⊢
 refine sqt 1 rfl (pur 1 rfl (Z0 ?_))
 refine Z1 rfl ?_ ?_ <;> intro hc1 <;> try simp only [cS] at hc1
 obtain ⟨x, hx⟩ : ∃ x, pl[k]? = some x := ⟨_, List.getElem?_eq_getElem (by omega)⟩
 have hxm := List.mem_of_getElem? hx
 have hxl := hpi x hxm
 obtain ⟨z, hz⟩ : ∃ z, ql[k]? = some z := ⟨_, List.getElem?_eq_getElem (by omega)⟩
 have hzm := List.mem_of_getElem? hz
 have hzl := hqi z hzm
 refine Zg (a := ap) (sz := 1) (rows := Zh pl) (ne0 (by rw [Zv]; omega)) (fun ba oa he => ?_)
 subst he
 refine Zg (a := aq) (sz := 1) (rows := Zh ql) (ne0 (by rw [Zv]; omega)) (fun bq oq he => ?_)
 subst he
 refine Sy.heap (fun w h => St.inn (x := x) h hxm) ?_
 refine Sy.heap (fun w h => St.inn (x := z) h hzm) ?_
 refine Z2 (Z0 (Z3 (sqt 5 rfl (pur 1 rfl (sp rfl (PE.indexAddr Z5p rfl rfl (by omega) (by omega)) rfl (spL rfl rfl (lf0 Z1Y (Z1e hx) rfl) rfl (pur 2 rfl (sqt 7 rfl (pur 3 rfl (sp rfl (PE.indexAddr Z5p rfl rfl (by omega) (by omega)) rfl (spL rfl rfl (lf0 Z1Y (Z1e hz) rfl) rfl ?_)))))))))))
 refine clV rfl Zdd rfl rfl (Z6j x.l z.l x.a z.a x.c z.c hxl hzl _ _) ?_
 refine pur 1 rfl ?_
 refine Z1 rfl ?_ ?_ <;> intro hc2
 have hne : lls pl ≠ lls ql := fun e => by
   have h1 := Z0O hx; have h2 := Z0O hz
   rw [e, h2] at h1
   have e3 := Option.some.inj h1
   rw [e3] at hc2
   simp at hc2
 refine sqt 1 rfl (pur 1 rfl (Z5 ?_))
 exact rtA rfl rfl rfl ⟨by first | (simp only [ZG]; rw [dT heq]; done) | (simp only [ZG]; rw [dF hne]), rfl, rfl⟩ drp
 have hxz : x.l = z.l := by simpa using hc2
 refine Z2 (sqr 2 rfl (sp rfl (PE.add rfl rfl (by omega)) rfl (pur 1 rfl ?_)))
 exact Za ⟨k + 1, by omega, by rw [Z3f (Z0O hx), Z3f (Z0O hz), hke, hxz]⟩ (fun w h => h.ftail.ftail)
 obtain rfl : k = pl.length := by omega
 have heq : lls pl = lls ql := by
   rw [List.take_of_length_le (by rw [ZR]; exact Nat.le_refl _), List.take_of_length_le (by rw [ZR]; omega)] at hke; exact hke
 refine Z7 (Z8 (Z8 (Zl (sqt 1 rfl (pur 1 rfl (Z5 ?_))))))
 exact rtA rfl rfl rfl ⟨by first | (simp only [ZG]; rw [dT heq]; done) | (simp only [ZG]; rw [dF hne]), rfl, rfl⟩ drp
theorem Z9W {b e : Nat} {l : List Value} {T : Z9} {R R' : Z6} {w : World} (h : St T (Z6C b (cel e l) R :: R') w) : b ∉ ids T := fun hb => by
  have h0 := (h.now (f := Z6C b (cel e l) R) (by simp)).1
  have hlt : b < w.heap.size := (Array.getElem?_eq_some_iff.1 h0).1
  have k1 : Keep (ids T) w { w with heap := w.heap.setIfInBounds b (.deferred (some [])) } := ⟨rfl, rfl, rfl, by simp, fun i hi hn => by
    show (w.heap.setIfInBounds b _)[i]? = _
    rw [Array.getElem?_setIfInBounds_ne (fun e => by subst e; exact hn hb)]⟩
  have h1 := (h.fact _ (by simp : Z6C b (cel e l) R ∈ Z6C b (cel e l) R :: R') _ k1).1
  have h2 : (w.heap.setIfInBounds b (.deferred (some [])))[b]? = some (cel e l) := h1
  rw [Array.getElem?_setIfInBounds_self_of_lt hlt] at h2
  cases h2
theorem Fn.lendOO {P : Program} {f : FuncId} {q : Value → Z9 → Prop} {e sz : Nat} {rows : List (List Value)} (o : OSl e sz rows) (mk : Value → List Value) {T : Z9} {R : Z6}
    (h : ∀ (a : Option Addr) (c : Nat) (B : World → Prop), Fn P f (mk (.slice a rows.length c)) T (RowsA a sz rows :: B :: R) (fun v H' R' => q v H' ∧ R' = RowsA a sz rows :: B :: R)) : Fn P f (mk o.fs) (o.G ++ T) R (fun v H' R' => ∃ T', q v T' ∧ H' = o.G ++ T' ∧ R' = R) := fun w hw => by
  obtain ⟨fs, G, hl, his⟩ := o
  rcases his with ⟨rfl, rfl, rfl⟩ | ⟨b, cap, junk, rfl, rfl, h1, h2, h3⟩
  · have h3 : St T (RowsA none sz [] :: (fun _ => True) :: R) w := St.also (St.also hw (f := fun _ => True) (fun _ _ => trivial)) (fun w' _ i row hi => by simp at hi)
    refine CallsIn.mono (h none 0 _ w h3) ?_
    rintro e' w' ⟨u, H', R', ⟨hp, rfl⟩, he, hs'⟩
    exact ⟨u, _, R, ⟨H', hp, rfl, rfl⟩, he, hs'.ftail.ftail⟩
  · have hw2 : St ((b, cel e (rows.flatten ++ junk)) :: T) R w := hw
    have h5 : St T (RowsA (some ⟨b, 0, none⟩) sz rows :: Z6C b (cel e (rows.flatten ++ junk)) R :: R) w :=
      St.also hw2.lend (fun w' hg => Z2w (hg (Z6C b (cel e (rows.flatten ++ junk)) R) (by simp)).1 hl)
    refine CallsIn.mono (h _ _ _ w h5) ?_
    rintro e' w' ⟨u, H', R', ⟨hp, rfl⟩, he, hs'⟩
    have h6 : St H' (Z6C b (cel e (rows.flatten ++ junk)) R :: R) w' := hs'.ftail
    exact ⟨u, _, R, ⟨H', hp, rfl, rfl⟩, he, h6.unlend (Z9W h6)⟩
theorem ZfC {s : Nat} {cz : List Int} (hc : ∀ x ∈ cz, 0 ≤ x) (hs : s < 2 ^ 10) : (ZF s).any (ZD cz) = true ↔ s &&& msk cz ≠ 0 := by
  rw [List.any_eq_true]
  constructor
  · rintro ⟨x, h1, h2⟩ h3
    obtain ⟨k, _, h4, rfl⟩ := memL_bit.1 h1
    have h5 := and_zero.1 h3 k h4
    rw [Z2u hc] at h2
    rw [h2] at h5; cases h5
  · intro h
    refine Classical.byContradiction fun hn => h (and_zero.2 fun k hk => ?_)
    cases hb : (msk cz).testBit k with
    | false => rfl
    | true =>
      have hk10 : k < 10 := Z02 hs hk
      exact absurd ⟨(k : Int), memL_bit.2 ⟨k, hk10, hk, rfl⟩, by rw [Z2u hc]; exact hb⟩ hn
theorem Zez {l to_ : List Int} {m : Nat} (hl : Lm l m) (ht : ∀ x ∈ to_, 0 ≤ x) : to_.any (ZD l) = true ↔ m &&& msk to_ ≠ 0 := by
  rw [List.any_eq_true]
  constructor
  · rintro ⟨x, h1, h2⟩ h3
    rw [hl.has (ht x h1)] at h2
    have h5 := and_zero.1 h3 _ h2
    rw [(Zt ht x.toNat).2 (by rw [show ((x.toNat : Nat) : Int) = x by have := ht x h1; omega]; exact h1)] at h5; cases h5
  · intro h
    refine Classical.byContradiction fun hn => h (and_zero.2 fun k hk => ?_)
    cases hb : (msk to_).testBit k with
    | false => rfl
    | true => exact absurd ⟨(k : Int), (Zt ht k).1 hb, by rw [hl.has (by omega), Int.toNat_natCast]; exact hk⟩ hn
theorem Lm.grow {l l2 : List Int} {gs : List Gp} {c m : Nat} (h1 : Lm l m) (h2 : Lm l2 (spr gs c m)) : l.length < l2.length ↔ spr gs c m ≠ m := by
  rw [h1.len, h2.len]
  constructor
  · intro h e; rw [e] at h; exact Nat.lt_irrefl _ h
  · intro h
    have hex : ∃ k, (spr gs c m).testBit k = true ∧ m.testBit k = false := Classical.byContradiction fun hn => h (ZJ fun k => by
      cases hb : m.testBit k with
      | true => exact Z0j hb
      | false =>
        cases hb2 : (spr gs c m).testBit k with
        | false => rfl
        | true => exact absurd ⟨k, hb2, hb⟩ hn)
    obtain ⟨k, h3, h4⟩ := hex
    unfold cnt
    exact Z2e (fun x _ hx => Z0j hx) ⟨k, List.mem_range.2 (Z02 h2.lt h3), h3, h4⟩
theorem Lst.few9 {gs : List Gp} {K sp m c k : Nat} (h : Lst (Pl gs K sp m c) k) : k ≤ gs.length := by have := h.1.few; omega
theorem Z8R (s : Nat) : (ZF s).Nodup := by
  unfold ZF
  rw [List.nodup_iff_pairwise_ne, List.pairwise_map]
  exact (List.nodup_iff_pairwise_ne.1 (List.nodup_range.sublist List.filter_sublist)).imp fun h e => h (by omega)
theorem Z8w {l : List Int} {n : Nat} (h : ∀ x ∈ l, 0 ≤ x ∧ x < (n : Int)) (hn : l.Nodup) : l.length ≤ n := by rw [← ZcY h hn]; exact Z1p _ _
def Z76 (gl : Nat) (sp : Int) (pl : List (List Int)) : Int := bif decide (9 < pl.length) then 2 else bif decide (plE gl sp pl ≠ 0) then plE gl sp pl else ZI (gl : Int) pl.flatten
theorem Z57 {gl : Nat} {sp : Int} {pl : List (List Int)} (h : 9 < pl.length) : Z76 gl sp pl = 2 := by unfold Z76; rw [decide_eq_true h]; rfl
theorem Z4A {gl : Nat} {sp : Int} {pl : List (List Int)} (h : ¬ 9 < pl.length) (h2 : plE gl sp pl ≠ 0) : Z76 gl sp pl = plE gl sp pl := by unfold Z76; rw [decide_eq_false h, decide_eq_true h2]; rfl
theorem Z5D {gl : Nat} {sp : Int} {pl : List (List Int)} (h : ¬ 9 < pl.length) (h2 : plE gl sp pl = 0) : Z76 gl sp pl = ZI (gl : Int) pl.flatten := by unfold Z76; rw [decide_eq_false h, h2]; rfl
theorem Zcd {h : Hse} {fr to_ : List Int} {sp : Int} {pl : List (List Int)} (h0 : h.rcE fr to_ sp = 0) : h.svE fr to_ sp pl = Z76 h.gaps.length sp pl := by unfold Hse.svE Z76; rw [h0]; rfl
set_option maxHeartbeats 600000 in
theorem Z9l (h : Hse) (ag as_ : Option Addr) (cg cs : Nat) (hgl : h.gaps.length ≤ 10) (now cz : List Int) (an ac : Option Addr) (cn cc : Nat) (hnl : now.length ≤ 1000000) (hcl : cz.length ≤ 1000000) (H : Z9) (R : Z6) [hG : MemRows ag 2 (Zd h.gaps) R] [hN : MemRows an 1 (Z4 now) R] [hC : MemRows ac 1 (Z4 cz) R] :
    Fn Tryz.prog 76 [h.v (h.sg ag cg) (h.ss as_ cs), .slice an now.length cn, .slice ac cz.length cc] H R (fun v H' R' => ∃ o : OSl 3 1 (Z4 (Z0h h.gaps cz now)), v = o.fs ∧ H' = o.G ++ H ∧ R' = R) := by
 refine Zi Tryz.func76 rfl Tryz.ntmps76 rfl ?_
 refine sqt 2 rfl (bx rfl rfl rfl (fun b3 => pur 1 rfl (sqt 4 rfl ?_)))
 refine ZcF rfl Z0D rfl (fun o10 ho10 => ?_)
 refine pur 1 rfl ?_
 refine apO (news := Z4 now) o10 rfl Z21 rfl rfl (Z3r) (irl _) (by simp [ZA, Z4, Value.oneCell']) (by rw [irl]; simp only [List.length_nil]; omega) rfl (fun o12 => ?_)
 refine pur 1 rfl (Z0 (sqt 1 rfl (pur 1 rfl (Z3 ?_))))
 refine Ze (ι := (i : {i : Nat // i ≤ h.gaps.length}) × OSl 3 1 (Z4 (nxt h.gaps cz now (i.1)))) (fun y => ⟨[(1, .slice an now.length cn), (2, .slice ac cz.length cc), (3, .pointer (some ⟨b3, 0, none⟩)), (7, y.2.fs), (8, .int .i64 (y.1.1 : Int))], y.2.G ++ ((b3, cel 35 (htl h (h.sg ag cg) (h.ss as_ cs))) :: H), R⟩) (fun y => h.gaps.length - y.1.1) ⟨⟨0, Nat.zero_le _⟩, o12.cast (by simp [nxt, Z4])⟩ ?_ (fun y => ?_)
 exact Zk idH
 obtain ⟨⟨i, hi⟩, o⟩ := y
 dsimp only at hi o ⊢
 have hnx := Z3w h.gaps cz now i
 have hnx2 := Z3w h.gaps cz now (i + 1)
 refine Z0 (sqt 5 rfl (pur 1 rfl (sp rfl (PE.fA Z1h rfl) rfl (spL rfl rfl (lh Z7D rfl rfl) rfl (sp rfl (PE.lenSl Z5v rfl) rfl (pur 1 rfl ?_))))))
 refine Z1 rfl ?_ ?_ <;> intro hc0 <;> try simp only [cS] at hc0
 obtain ⟨g, hg⟩ : ∃ g, h.gaps[i]? = some g := ⟨_, List.getElem?_eq_getElem (by omega)⟩
 refine Zg (a := ag) (sz := 2) (rows := Zd h.gaps) (ne0 (by rw [Z0w]; omega)) (fun ba oa he => ?_)
 subst he
 refine Z2 (Z0 (Z3 (sqt 7 rfl (sp rfl (PE.fA Z1h rfl) rfl (spL rfl rfl (lh Z7D rfl rfl) rfl (pur 1 rfl (sp rfl (PE.indexAddr Zfy rfl rfl (by omega) (by omega)) rfl (spL rfl rfl (lfA Zcz (row := grow g) (Z0U hg) rfl) rfl (alc rfl Z9V rfl (fun b9 => ?_))))))))))
 refine ZS (l' := grow g) rfl rfl rfl Zbg rfl rfl rfl rfl (nl rfl) ?_
 refine Z0 (sqt 3 rfl (pur 2 rfl ?_))
 refine clV rfl Z0Z rfl rfl (Z04 cz ac cc (i : Int) (by omega) _ _) ?_
 refine Z1 rfl ?_ ?_ <;> intro hc1 <;> try simp only [cS] at hc1
 refine Z7 (Z8 (Zl (sqr 3 rfl (pur 1 rfl (sp rfl (PE.add rfl rfl (by omega)) rfl (pur 1 rfl ?_))))))
 exact Za ⟨⟨i + 1, by omega⟩, o.cast (by rw [Z6p hg hc1])⟩ (fun w h9 => h9.del b9)
 have hop := Z5N (now := now) hg hc1
 have hx1 : (nx1 h.gaps cz now i g).length ≤ now.length + 2 * i + 1 := by unfold nx1; cases ZD now g.a && !ZD (nxt h.gaps cz now i) g.b <;> simp <;> omega
 refine Sy.heap (H' := o.G ++ ((b9, cel 110 (grow g)) :: _)) (fun w h9 => h9.perm (Zr [_] _ _)) ?_
 refine Z2 (Z0 (sqt 11 rfl (pur 1 rfl (sp rfl (PE.fA Z00 rfl) rfl (spL rfl rfl (lh sc3 rfl rfl) rfl ?_)))))
 refine clV rfl Z0Z rfl rfl (Z04 now an cn g.a (by omega) _ _) ?_
 refine pur 1 rfl ?_
 refine Zo 32 rfl ?_ ?_ <;> intro g32
 refine pur 1 rfl ?_
 refine spG rfl rfl rfl rfl (PE.fA Z0m rfl) rfl ?_
 refine Z0t rfl rfl rfl rfl rfl (lh sc3 rfl rfl) rfl ?_
 refine Z22 rfl rfl rfl rfl Z0Z rfl rfl (FnV.lendO o (fun v => [v, .int .i64 g.b]) (fun a5 c5 _ => by rw [irl]; exact Z04 (nxt h.gaps cz now (i)) a5 c5 g.b (by omega) _ _)) ?_
 refine pur 2 rfl ?_
 refine Z0c (ι := OSl 3 1 (Z4 (nx1 h.gaps cz now i g))) (fun o => ⟨[(1, .slice an now.length cn), (2, .slice ac cz.length cc), (3, .pointer (some ⟨b3, 0, none⟩)), (7, o.fs), (8, .int .i64 (i : Int)), (9, .pointer (some ⟨b9, 0, none⟩))], o.G ++ ((b9, cel 110 (grow g)) :: (b3, cel 35 (htl h (h.sg (some ⟨ba, oa, none⟩) cg) (h.ss as_ cs))) :: H), R⟩) ?_ ?_
 refine Z1 rfl ?_ ?_ <;> intro hc2
 refine sqr 6 rfl (pur 1 rfl (sp rfl (PE.fA Z0m rfl) rfl (spL rfl rfl (lh sc3 rfl rfl) rfl ?_)))
 refine bsl (out := [_]) rfl Z0D zl3 rfl rfl rfl rfl rfl rfl (fun b42 => ?_)
 refine apO (o) rfl Z21 rfl rfl (Z0A (row := [.int .i64 g.b]) rfl) rfl rfl ((by rw [irl]; simp only [List.length_singleton]; omega)) rfl (fun o43 => ?_)
 refine pur 1 rfl ?_
 first | exact Zq (o43.cast (by unfold nx1; simp [Z4, *])) (fun w h9 => h9.del b42) | exact Zq (o.cast (by unfold nx1; simp [Z4, *])) idH
 refine Z2 ?_
 first | exact Zq (o43.cast (by unfold nx1; simp [Z4, *])) (fun w h9 => h9.del b42) | exact Zq (o.cast (by unfold nx1; simp [Z4, *])) idH
 clear hnx2
 intro o
 dsimp only
 refine sqt 11 rfl (pur 1 rfl (sp rfl (PE.fA Z0m rfl) rfl (spL rfl rfl (lh sc3 rfl rfl) rfl ?_)))
 refine clV rfl Z0Z rfl rfl (Z04 now an cn g.b (by omega) _ _) ?_
 refine pur 1 rfl ?_
 refine Zo 48 rfl ?_ ?_ <;> intro g48
 refine pur 1 rfl ?_
 refine spG rfl rfl rfl rfl (PE.fA Z00 rfl) rfl ?_
 refine Z0t rfl rfl rfl rfl rfl (lh sc3 rfl rfl) rfl ?_
 refine Z22 rfl rfl rfl rfl Z0Z rfl rfl (FnV.lendO o (fun v => [v, .int .i64 g.a]) (fun a5 c5 _ => by rw [irl]; exact Z04 (nx1 h.gaps cz now i g) a5 c5 g.a (by omega) _ _)) ?_
 refine pur 2 rfl ?_
 refine Z1 rfl ?_ ?_ <;> intro hc3
 refine sqr 6 rfl (pur 1 rfl (sp rfl (PE.fA Z00 rfl) rfl (spL rfl rfl (lh sc3 rfl rfl) rfl ?_)))
 refine bsl (out := [_]) rfl Z0D zl3 rfl rfl rfl rfl rfl rfl (fun b58 => ?_)
 refine apO (o) rfl Z21 rfl rfl (Z0A (row := [.int .i64 g.a]) rfl) rfl rfl ((by rw [irl]; simp only [List.length_singleton]; omega)) rfl (fun o59 => ?_)
 refine pur 1 rfl (sqr 3 rfl (pur 1 rfl (sp rfl (PE.add rfl rfl (by omega)) rfl (pur 1 rfl ?_))))
 first | exact Zb ⟨⟨i + 1, by omega⟩, o59.cast (by rw [hop]; simp [Z4, *])⟩ (by dsimp only; omega) (fun w h9 => ((h9.del b58).del b9)) | exact Zb ⟨⟨i + 1, by omega⟩, o.cast (by rw [hop]; simp [Z4, *])⟩ (by dsimp only; omega) (fun w h9 => h9.del b9)
 refine Z2 (sqr 3 rfl (pur 1 rfl (sp rfl (PE.add rfl rfl (by omega)) rfl (pur 1 rfl ?_))))
 first | exact Zb ⟨⟨i + 1, by omega⟩, o59.cast (by rw [hop]; simp [Z4, *])⟩ (by dsimp only; omega) (fun w h9 => ((h9.del b58).del b9)) | exact Zb ⟨⟨i + 1, by omega⟩, o.cast (by rw [hop]; simp [Z4, *])⟩ (by dsimp only; omega) (fun w h9 => h9.del b9)
 refine pur 6 rfl ?_
 refine Zz rfl ?_
 refine Z2 (sqr 3 rfl (pur 1 rfl (sp rfl (PE.add rfl rfl (by omega)) rfl (pur 1 rfl ?_))))
 first | exact Zb ⟨⟨i + 1, by omega⟩, o59.cast (by rw [hop]; simp [Z4, *])⟩ (by dsimp only; omega) (fun w h9 => ((h9.del b58).del b9)) | exact Zb ⟨⟨i + 1, by omega⟩, o.cast (by rw [hop]; simp [Z4, *])⟩ (by dsimp only; omega) (fun w h9 => h9.del b9)
 refine pur 6 rfl ?_
 refine Z0c (ι := OSl 3 1 (Z4 (nx1 h.gaps cz now i g))) (fun o => ⟨[(1, .slice an now.length cn), (2, .slice ac cz.length cc), (3, .pointer (some ⟨b3, 0, none⟩)), (7, o.fs), (8, .int .i64 (i : Int)), (9, .pointer (some ⟨b9, 0, none⟩))], o.G ++ ((b9, cel 110 (grow g)) :: (b3, cel 35 (htl h (h.sg (some ⟨ba, oa, none⟩) cg) (h.ss as_ cs))) :: H), R⟩) ?_ ?_
 refine Zz rfl ?_
 refine Z2 ?_
 first | exact Zq (o43.cast (by unfold nx1; simp [Z4, *])) (fun w h9 => h9.del b42) | exact Zq (o.cast (by unfold nx1; simp [Z4, *])) idH
 clear hnx2
 intro o
 dsimp only
 refine sqt 11 rfl (pur 1 rfl (sp rfl (PE.fA Z0m rfl) rfl (spL rfl rfl (lh sc3 rfl rfl) rfl ?_)))
 refine clV rfl Z0Z rfl rfl (Z04 now an cn g.b (by omega) _ _) ?_
 refine pur 1 rfl ?_
 refine Zo 48 rfl ?_ ?_ <;> intro g48
 refine pur 1 rfl ?_
 refine spG rfl rfl rfl rfl (PE.fA Z00 rfl) rfl ?_
 refine Z0t rfl rfl rfl rfl rfl (lh sc3 rfl rfl) rfl ?_
 refine Z22 rfl rfl rfl rfl Z0Z rfl rfl (FnV.lendO o (fun v => [v, .int .i64 g.a]) (fun a5 c5 _ => by rw [irl]; exact Z04 (nx1 h.gaps cz now i g) a5 c5 g.a (by omega) _ _)) ?_
 refine pur 2 rfl ?_
 refine Z1 rfl ?_ ?_ <;> intro hc3
 refine sqr 6 rfl (pur 1 rfl (sp rfl (PE.fA Z00 rfl) rfl (spL rfl rfl (lh sc3 rfl rfl) rfl ?_)))
 refine bsl (out := [_]) rfl Z0D zl3 rfl rfl rfl rfl rfl rfl (fun b58 => ?_)
 refine apO (o) rfl Z21 rfl rfl (Z0A (row := [.int .i64 g.a]) rfl) rfl rfl ((by rw [irl]; simp only [List.length_singleton]; omega)) rfl (fun o59 => ?_)
 refine pur 1 rfl (sqr 3 rfl (pur 1 rfl (sp rfl (PE.add rfl rfl (by omega)) rfl (pur 1 rfl ?_))))
 first | exact Zb ⟨⟨i + 1, by omega⟩, o59.cast (by rw [hop]; simp [Z4, *])⟩ (by dsimp only; omega) (fun w h9 => ((h9.del b58).del b9)) | exact Zb ⟨⟨i + 1, by omega⟩, o.cast (by rw [hop]; simp [Z4, *])⟩ (by dsimp only; omega) (fun w h9 => h9.del b9)
 refine Z2 (sqr 3 rfl (pur 1 rfl (sp rfl (PE.add rfl rfl (by omega)) rfl (pur 1 rfl ?_))))
 first | exact Zb ⟨⟨i + 1, by omega⟩, o59.cast (by rw [hop]; simp [Z4, *])⟩ (by dsimp only; omega) (fun w h9 => ((h9.del b58).del b9)) | exact Zb ⟨⟨i + 1, by omega⟩, o.cast (by rw [hop]; simp [Z4, *])⟩ (by dsimp only; omega) (fun w h9 => h9.del b9)
 refine pur 6 rfl ?_
 refine Zz rfl ?_
 refine Z2 (sqr 3 rfl (pur 1 rfl (sp rfl (PE.add rfl rfl (by omega)) rfl (pur 1 rfl ?_))))
 first | exact Zb ⟨⟨i + 1, by omega⟩, o59.cast (by rw [hop]; simp [Z4, *])⟩ (by dsimp only; omega) (fun w h9 => ((h9.del b58).del b9)) | exact Zb ⟨⟨i + 1, by omega⟩, o.cast (by rw [hop]; simp [Z4, *])⟩ (by dsimp only; omega) (fun w h9 => h9.del b9)
 obtain rfl : i = h.gaps.length := by omega
 refine Z7 (Z8 (Z8 (Zl (sqt 2 rfl (pur 2 rfl (Z5 ?_))))))
 exact rtA rfl rfl rfl ⟨o.cast (show _ = Z4 (Z0h h.gaps cz now) from rfl), rfl, rfl, rfl⟩ (fun w h9 => h9.del b3)
def Zf5 (h : Hse) (ag as_ : Option Addr) (cg cs : Nat) (hok : h.ok) (to_ : List Int) (at_ : Option Addr) (ct : Nat) (ht : ∀ x ∈ to_, 0 ≤ x ∧ x < 7) (htl9 : to_.length ≤ 1000000) (spd : Nat) (hsp : spd ≤ 1000000) (q : Nat) : Prop := ∀ (now cz : List Int) (an ac : Option Addr) (cn cc : Nat) (m : Nat) (wk9 : Int) (H : Z9) (R : Z6) [hG : MemRows ag 2 (Zd h.gaps) R] [hT : MemRows at_ 1 (Z4 to_) R] [hN : MemRows an 1 (Z4 now) R] [hC : MemRows ac 1 (Z4 cz) R], Lm now m → (∀ x ∈ cz, 0 ≤ x ∧ x < h.gaps.length) → cz.Nodup → 7 ≤ now.length + q → (0 ≤ wk9 ∧ wk9 ≤ 100 + now.length) → Fn Tryz.prog 18 [h.v (h.sg ag cg) (h.ss as_ cs), .slice an now.length cn, .slice at_ to_.length ct, .slice ac cz.length cc, .int .i64 (spd : Int), .int .i64 wk9] H R (fun v H' R' => (∃ x : Int, FwQ h.gaps (msk to_) spd m (msk cz) x ∧ v = .int .i64 x) ∧ H' = H ∧ R' = R)
set_option maxHeartbeats 1000000 in
theorem Z3j (h : Hse) (ag as_ : Option Addr) (cg cs : Nat) (hok : h.ok) (to_ : List Int) (at_ : Option Addr) (ct : Nat) (ht : ∀ x ∈ to_, 0 ≤ x ∧ x < 7) (htl9 : to_.length ≤ 1000000) (spd : Nat) (hsp : spd ≤ 1000000) (q : Nat) (ih : ∀ q9, q = q9 + 1 → Zf5 h ag as_ cg cs hok to_ at_ ct ht htl9 spd hsp q9) :
    Zf5 h ag as_ cg cs hok to_ at_ ct ht htl9 spd hsp q := by
 intro now cz an ac cn cc m wk9 H R hG hT hN hC hnl hcz hczn hq hwk
 refine Zi Tryz.func18 rfl Tryz.ntmps18 rfl ?_
 refine sqt 2 rfl ?_
 have hgl := hok.gl
 have hbn := hok.bins
 have hw7 : Wth h.gaps 7 := fun g hg => by have := hok.gaps g hg; omega
 have hg7 : ∀ g ∈ h.gaps, (0 ≤ g.a ∧ g.a < 7) ∧ 0 ≤ g.b ∧ g.b < 7 := fun g hg => by have := hok.gaps g hg; omega
 have hn7 := hnl.few
 have hczl : cz.length ≤ h.gaps.length := Z8w hcz hczn
 have hcz0 : ∀ x ∈ cz, 0 ≤ x := fun x hx => (hcz x hx).1
 have hp10 := Nat.pow_le_pow_right (show 0 < 2 by decide) hgl
 have h10 : (2 : Nat) ^ 10 = 1024 := rfl
 refine bx rfl rfl rfl (fun b6 => pur 1 rfl (sqt 1 rfl (pur 1 rfl (Z0 (sqt 1 rfl (pur 1 rfl (Z3 ?_)))))))
 refine Ze (ι := {y : Nat × Int // y.1 ≤ 2 ^ h.gaps.length ∧ FwI h.gaps (msk to_) spd m (msk cz) y.1 y.2}) (fun y => ⟨[(1, .slice an now.length cn), (2, .slice at_ to_.length ct), (3, .slice ac cz.length cc), (4, .int .i64 (spd : Int)), (5, .int .i64 wk9), (6, .pointer (some ⟨b6, 0, none⟩)), (13, .int .i64 y.1.2), (14, .int .i64 (y.1.1 : Int))], (b6, cel 35 (htl h (h.sg ag cg) (h.ss as_ cs))) :: H, R⟩) (fun y => 2 ^ h.gaps.length - y.1.1) ⟨(0, -1), Nat.zero_le _, FwI.start _ _ _ _ _⟩ ?_ (fun y => ?_)
 exact Zk idH
 obtain ⟨⟨s, x⟩, hs, hfw⟩ := y
 dsimp only at hs hfw ⊢
 refine Z0 (sqt 6 rfl (pur 1 rfl (sp rfl (PE.fA Z1h rfl) rfl (spL rfl rfl (lh Z7D rfl rfl) rfl (sp rfl (PE.lenSl Z5v rfl) rfl ?_)))))
 refine clV rfl ZeT rfl rfl (ZbC h.gaps.length (by omega) _ _) ?_
 refine pur 1 rfl ?_
 refine Z1 rfl ?_ ?_ <;> intro hc0 <;> try simp only [cS] at hc0
 have hsl : s < 2 ^ h.gaps.length := by omega
 have hs10 : s < 2 ^ 10 := by omega
 have hcnt : (ZF s).length = cnt h.gaps.length s := Z2M hsl hgl
 have hml := Z9d s
 refine Z2 (Z0 (Z3 (sqt 3 rfl (pur 1 rfl ?_))))
 refine cl rfl ZeS rfl rfl (Zbd s hs10 _ _) ?_
 rintro _ _ R1 ⟨o33, rfl, rfl, hR1⟩
 obtain rfl := hR1.symm
 clear hR1
 obtain ⟨al, cl9, he, hcl9, hzz⟩ := o33.freezeC
 rw [irl] at hcl9
 rw [he, irl]
 refine Sy.heap (H' := _) (fun w h9 => hzz h9) ?_
 clear he hzz
 refine pur 1 rfl (Z0 (sqt 4 rfl (pur 1 rfl (sp rfl (PE.lenSl Zx rfl) rfl (pur 2 rfl ?_)))))
 refine Z1 rfl ?_ ?_ <;> intro hc1 <;> try simp only [cS] at hc1
 refine Z7 (Z8 (Zl (sqr 3 rfl (pur 1 rfl (sp rfl (PE.add rfl rfl (by omega)) rfl (pur 1 rfl ?_))))))
 exact Za ⟨(s + 1, x), by dsimp only; omega, hfw.skip (fun n hn => by have := hn.2.1; omega)⟩ (fun w h9 => h9.ftail)
 have hcs : cnt h.gaps.length s ≤ spd := by omega
 refine Z2 (sqt 1 rfl (pur 1 rfl (Z0 (sqt 1 rfl (pur 1 rfl (Z3 ?_))))))
 refine Ze (ι := {i : Nat // i ≤ (ZF s).length}) (fun i => ⟨[(1, .slice an now.length cn), (2, .slice at_ to_.length ct), (3, .slice ac cz.length cc), (4, .int .i64 (spd : Int)), (5, .int .i64 wk9), (6, .pointer (some ⟨b6, 0, none⟩)), (13, .int .i64 x), (14, .int .i64 (s : Int)), (15, .slice al (ZF s).length cl9), (16, .bool (((ZF s).take i.1).any (ZD cz))), (17, .int .i64 (i.1 : Int))], (b6, cel 35 (htl h (h.sg ag cg) (h.ss as_ cs))) :: H, RowsA al 1 (Z4 (ZF s)) :: R⟩) (fun i => (ZF s).length - i.1) ⟨0, Nat.zero_le _⟩ ?_ (fun i => ?_)
 exact Zk idH
 obtain ⟨i, hi⟩ := i
 dsimp only at hi ⊢
 refine Z0 (sqt 4 rfl (pur 2 rfl (sp rfl (PE.lenSl Zx rfl) rfl (pur 1 rfl ?_))))
 refine Z1 rfl ?_ ?_ <;> intro hc2 <;> try simp only [cS] at hc2
 obtain ⟨u, hu⟩ : ∃ u, (ZF s)[i]? = some u := ⟨_, List.getElem?_eq_getElem (by omega)⟩
 have has1 : ((ZF s).take (i + 1)).any (ZD cz) = (((ZF s).take i).any (ZD cz) || ZD cz u) := Z26 hu
 refine Zg (a := al) (sz := 1) (rows := Z4 (ZF s)) (ne0 (by rw [irl]; omega)) (fun ba bo he => ?_)
 subst he
 refine Z2 (Z0 (Z3 (sqr 10 rfl (pur 2 rfl ?_))))
 refine Zo 45 rfl ?_ ?_ <;> intro g45
 refine pur 8 rfl (sqr 3 rfl (pur 1 rfl (sp rfl (PE.add rfl rfl (by omega)) rfl (pur 1 rfl ?_))))
 first
   | (have f1 : ((ZF s).take (i + 1)).any (ZD cz) = true := by rw [has1, g45]; rfl
      exact Zc ⟨i + 1, by omega⟩ (by dsimp only; omega) (by rw [f1]; exact (by repeat' first | exact Sub.nil | apply Sub.cons | rfl | (simp [lk]; omega))) idH)
   | (have f1 : ((ZF s).take (i + 1)).any (ZD cz) = ZD cz u := by rw [has1, g45]; rfl
      exact Zc ⟨i + 1, by omega⟩ (by dsimp only; omega) (by rw [f1]; exact (by repeat' first | exact Sub.nil | apply Sub.cons | rfl | (simp [lk]; omega))) idH)
 refine pur 3 rfl ?_
 refine spG rfl rfl rfl rfl (PE.indexAddr Z1L rfl rfl (by omega) (by omega)) rfl ?_
 refine Z0t rfl rfl rfl rfl rfl (lf0 sc3 (ZM hu) rfl) rfl ?_
 refine Z22 rfl rfl rfl rfl Z0Z rfl rfl (Z04 cz ac cc u (by omega) _ _) ?_
 refine pur 2 rfl (sqr 3 rfl (pur 1 rfl (sp rfl (PE.add rfl rfl (by omega)) rfl (pur 1 rfl ?_))))
 first
   | (have f1 : ((ZF s).take (i + 1)).any (ZD cz) = true := by rw [has1, g45]; rfl
      exact Zc ⟨i + 1, by omega⟩ (by dsimp only; omega) (by rw [f1]; exact (by repeat' first | exact Sub.nil | apply Sub.cons | rfl | (simp [lk]; omega))) idH)
   | (have f1 : ((ZF s).take (i + 1)).any (ZD cz) = ZD cz u := by rw [has1, g45]; rfl
      exact Zc ⟨i + 1, by omega⟩ (by dsimp only; omega) (by rw [f1]; exact (by repeat' first | exact Sub.nil | apply Sub.cons | rfl | (simp [lk]; omega))) idH)
 obtain rfl : i = (ZF s).length := by omega
 rw [List.take_length]
 refine Z7 (Z8 (Z8 (Zl (Z0 (sqt 1 rfl (pur 1 rfl ?_))))))
 refine Z1 rfl ?_ ?_ <;> intro hc3
 have hac := (ZfC hcz0 hs10).1 hc3
 refine Z7 (Z8 (Zl (sqr 3 rfl (pur 1 rfl (sp rfl (PE.add rfl rfl (by omega)) rfl (pur 1 rfl ?_))))))
 exact Za ⟨(s + 1, x), by dsimp only; omega, hfw.skip (fun n hn => hac hn.1)⟩ (fun w h9 => h9.ftail)
 have hac : s &&& msk cz = 0 := Classical.byContradiction fun e => by rw [(ZfC hcz0 hs10).2 e] at hc3; cases hc3
 have hmsk : msk (cz ++ ZF s) = (msk cz ||| s) := by rw [Z3T, Z3Z hs10]
 have hall0 : ∀ x ∈ (cz ++ ZF s), 0 ≤ x ∧ x < (h.gaps.length : Int) := fun x hx => (List.mem_append.1 hx).elim (hcz x) (fun h => by obtain ⟨j, _, h2, rfl⟩ := memL_bit.1 h; have := Z02 hsl h2; omega)
 have halln : (cz ++ ZF s).Nodup := List.nodup_append.2 ⟨hczn, Z8R s, fun a ha b hb e => by
   subst e
   obtain ⟨j, _, h2, rfl⟩ := memL_bit.1 hb
   have h3 := and_zero.1 hac j h2
   rw [← Z2u hcz0] at h3
   rw [hasI_iff.2 ha] at h3; cases h3⟩
 have hall9 := Z8w hall0 halln
 refine Z2 (sqt 6 rfl ?_)
 refine ZcF rfl Z0D rfl (fun o54 ho54 => ?_)
 refine pur 1 rfl ?_
 refine apO (news := Z4 cz) o54 rfl Z21 rfl rfl (Z3r) (irl _) (by simp [ZA, Z4, Value.oneCell']) (by rw [irl]; simp only [List.length_nil]; omega) rfl (fun o56 => ?_)
 refine pur 1 rfl ?_
 refine apO (news := Z4 (ZF s)) o56 rfl Z21 rfl rfl (Z3r) (irl _) (by simp [ZA, Z4, Value.oneCell']) (by rw [irl, List.length_append, irl]; simp only [List.length_nil]; omega) rfl (fun o58 => ?_)
 refine pur 1 rfl (sqt 5 rfl ?_)
 obtain ⟨aa, ca, he, hca, hzz⟩ := (o58.cast (show _ = Z4 (cz ++ ZF s) by simp [Z4])).freezeC
 rw [irl] at hca
 rw [show o58.fs = _ from he, irl]
 refine Sy.heap (H' := _) (fun w h9 => hzz h9) ?_
 clear he hzz
 refine spL rfl rfl (lhA (htl h (h.sg ag cg) (h.ss as_ cs)) Z5a rfl rfl rfl) rfl (pur 2 rfl ?_)
 refine cl rfl ZdQ rfl rfl (ZcA h ag as_ cg cs hgl now (cz ++ ZF s) an aa cn ca (by omega) (by omega) _ _) ?_
 rintro _ _ R1 ⟨a9, c9, rfl, hc9, rfl, hR1⟩
 obtain rfl := hR1.symm
 clear hR1
 have hth : Lm (Z0h h.gaps (cz ++ ZF s) now) (spr h.gaps (msk cz ||| s) m) := Z7f hg7 (fun i => by rw [Z2u (fun x hx => (hall0 x hx).1), hmsk]) hnl
 have hth7 := hth.few
 refine pur 1 rfl (sqt 1 rfl (pur 1 rfl (Z0 (sqt 1 rfl (pur 1 rfl (Z3 ?_))))))
 refine Ze (ι := {i : Nat // i ≤ to_.length}) (fun i => ⟨[(1, .slice an now.length cn), (2, .slice at_ to_.length ct), (3, .slice ac cz.length cc), (4, .int .i64 (spd : Int)), (5, .int .i64 wk9), (6, .pointer (some ⟨b6, 0, none⟩)), (13, .int .i64 x), (14, .int .i64 (s : Int)), (15, .slice al (ZF s).length cl9), (18, .slice aa (cz ++ ZF s).length ca), (19, .slice a9 (Z0h h.gaps (cz ++ ZF s) now).length c9), (20, .bool ((to_.take i.1).any (ZD (Z0h h.gaps (cz ++ ZF s) now)))), (21, .int .i64 (i.1 : Int))], (b6, cel 35 (htl h (h.sg ag cg) (h.ss as_ cs))) :: H, RowsA a9 1 (Z4 (Z0h h.gaps (cz ++ ZF s) now)) :: RowsA aa 1 (Z4 (cz ++ ZF s)) :: RowsA al 1 (Z4 (ZF s)) :: R⟩) (fun i => to_.length - i.1) ⟨0, Nat.zero_le _⟩ ?_ (fun i => ?_)
 exact Zk idH
 obtain ⟨i, hi⟩ := i
 dsimp only at hi ⊢
 refine Z0 (sqt 4 rfl (pur 2 rfl (sp rfl (PE.lenSl Zx rfl) rfl (pur 1 rfl ?_))))
 refine Z1 rfl ?_ ?_ <;> intro hc4 <;> try simp only [cS] at hc4
 obtain ⟨u, hu⟩ : ∃ u, to_[i]? = some u := ⟨_, List.getElem?_eq_getElem (by omega)⟩
 have has1 : (to_.take (i + 1)).any (ZD (Z0h h.gaps (cz ++ ZF s) now)) = ((to_.take i).any (ZD (Z0h h.gaps (cz ++ ZF s) now)) || ZD (Z0h h.gaps (cz ++ ZF s) now) u) := Z26 hu
 refine Zg (a := at_) (sz := 1) (rows := Z4 to_) (ne0 (by rw [irl]; omega)) (fun ba bo he => ?_)
 subst he
 refine Z2 (Z0 (Z3 (sqr 10 rfl (pur 2 rfl ?_))))
 refine Zo 70 rfl ?_ ?_ <;> intro g70
 refine pur 8 rfl (sqr 3 rfl (pur 1 rfl (sp rfl (PE.add rfl rfl (by omega)) rfl (pur 1 rfl ?_))))
 first
   | (have f1 : (to_.take (i + 1)).any (ZD (Z0h h.gaps (cz ++ ZF s) now)) = true := by rw [has1, g70]; rfl
      exact Zc ⟨i + 1, by omega⟩ (by dsimp only; omega) (by rw [f1]; exact (by repeat' first | exact Sub.nil | apply Sub.cons | rfl | (simp [lk]; omega))) idH)
   | (have f1 : (to_.take (i + 1)).any (ZD (Z0h h.gaps (cz ++ ZF s) now)) = ZD (Z0h h.gaps (cz ++ ZF s) now) u := by rw [has1, g70]; rfl
      exact Zc ⟨i + 1, by omega⟩ (by dsimp only; omega) (by rw [f1]; exact (by repeat' first | exact Sub.nil | apply Sub.cons | rfl | (simp [lk]; omega))) idH)
 refine pur 3 rfl ?_
 refine spG rfl rfl rfl rfl (PE.indexAddr Z1L rfl rfl (by omega) (by omega)) rfl ?_
 refine Z0t rfl rfl rfl rfl rfl (lf0 sc3 (ZM hu) rfl) rfl ?_
 refine Z22 rfl rfl rfl rfl Z0Z rfl rfl (Z04 (Z0h h.gaps (cz ++ ZF s) now) a9 c9 u (by omega) _ _) ?_
 refine pur 2 rfl (sqr 3 rfl (pur 1 rfl (sp rfl (PE.add rfl rfl (by omega)) rfl (pur 1 rfl ?_))))
 first
   | (have f1 : (to_.take (i + 1)).any (ZD (Z0h h.gaps (cz ++ ZF s) now)) = true := by rw [has1, g70]; rfl
      exact Zc ⟨i + 1, by omega⟩ (by dsimp only; omega) (by rw [f1]; exact (by repeat' first | exact Sub.nil | apply Sub.cons | rfl | (simp [lk]; omega))) idH)
   | (have f1 : (to_.take (i + 1)).any (ZD (Z0h h.gaps (cz ++ ZF s) now)) = ZD (Z0h h.gaps (cz ++ ZF s) now) u := by rw [has1, g70]; rfl
      exact Zc ⟨i + 1, by omega⟩ (by dsimp only; omega) (by rw [f1]; exact (by repeat' first | exact Sub.nil | apply Sub.cons | rfl | (simp [lk]; omega))) idH)
 obtain rfl : i = to_.length := by omega
 rw [List.take_length]
 refine Z7 (Z8 (Z8 (Zl (Z0 (sqt 1 rfl (pur 1 rfl ?_))))))
 refine Z1 rfl ?_ ?_ <;> intro hc5
 have hlost := (Zez hth (fun x hx => (ht x hx).1)).1 hc5
 refine Z7 (Z8 (Zl (sqr 3 rfl (pur 1 rfl (sp rfl (PE.add rfl rfl (by omega)) rfl (pur 1 rfl ?_))))))
 exact Za ⟨(s + 1, x), by dsimp only; omega, hfw.skip (fun n hn => hlost hn.2.2.1)⟩ (fun w h9 => h9.ftail.ftail.ftail)
 have hsafe : (spr h.gaps (msk cz ||| s) m) &&& msk to_ = 0 := Classical.byContradiction fun e => by rw [(Zez hth (fun x hx => (ht x hx).1)).2 e] at hc5; cases hc5
 have hgr := Lm.grow hnl hth
 refine Z2 (sqt 3 rfl (pur 1 rfl (sp rfl (PE.lenSl Zx rfl) rfl (pur 1 rfl (Z0 (sqt 5 rfl (pur 1 rfl (sp rfl (PE.lenSl Zx rfl) rfl (pur 1 rfl (sp rfl (PE.lenSl Zx rfl) rfl (pur 1 rfl ?_)))))))))))
 refine Z0c (ι := {n : Nat // Stp1 h.gaps (msk to_) spd m (msk cz) s n ∧ n ≤ 20}) (fun n => ⟨[(1, .slice an now.length cn), (2, .slice at_ to_.length ct), (3, .slice ac cz.length cc), (4, .int .i64 (spd : Int)), (5, .int .i64 wk9), (6, .pointer (some ⟨b6, 0, none⟩)), (13, .int .i64 x), (14, .int .i64 (s : Int)), (22, .int .i64 (n.1 : Int))], (b6, cel 35 (htl h (h.sg ag cg) (h.ss as_ cs))) :: H, RowsA a9 1 (Z4 (Z0h h.gaps (cz ++ ZF s) now)) :: RowsA aa 1 (Z4 (cz ++ ZF s)) :: RowsA al 1 (Z4 (ZF s)) :: R⟩) ?_ ?_
 refine Z1 rfl ?_ ?_ <;> intro hc6 <;> try simp only [cS] at hc6
 have hst : (spr h.gaps (msk cz ||| s) m) ≠ m := hgr.1 (by omega)
 obtain ⟨q9, rfl⟩ : ∃ q9, q = q9 + 1 := ⟨q - 1, by omega⟩
 refine sqt 9 rfl (spL rfl rfl (lhA (htl h (h.sg ag cg) (h.ss as_ cs)) Z5a rfl rfl rfl) rfl (pur 5 rfl (sp rfl (PE.add rfl rfl (by omega)) rfl ?_)))
 refine cl rfl Z9F rfl rfl (ih q9 rfl (Z0h h.gaps (cz ++ ZF s) now) (cz ++ ZF s) a9 aa c9 ca (spr h.gaps (msk cz ||| s) m) (wk9 + 1) _ _ hth hall0 halln (by omega) (by omega)) ?_
 rintro _ _ R1 ⟨⟨mo, hmo, rfl⟩, rfl, hR1⟩
 obtain rfl := hR1.symm
 clear hR1
 rw [hmsk] at hmo
 refine pur 1 rfl (Z0 (sqt 2 rfl (pur 2 rfl ?_)))
 refine Z1 rfl ?_ ?_ <;> intro hc7 <;> try simp only [cS] at hc7
 refine Z7 (Z8 ?_)
 refine ZcN ?_
 refine Z8 (Zl (sqr 3 rfl (pur 1 rfl (sp rfl (PE.add rfl rfl (by omega)) rfl (pur 1 rfl ?_)))))
 exact Zc ⟨(s + 1, x), by dsimp only; omega, hfw.skip (fun n hn => by
   rcases hn.2.2.2 with ⟨h1, _⟩ | ⟨_, k, _, h3⟩
   · exact hst h1
   · rcases hmo with ⟨n', h4, h5⟩ | ⟨h4, _⟩
     · omega
     · exact h4 k h3.1)⟩ (by dsimp only; omega) (by repeat' first | exact Sub.nil | apply Sub.cons | rfl | (simp [lk]; omega)) (fun w h9 => h9.ftail.ftail.ftail)
 obtain ⟨k, hk, rfl⟩ : ∃ k : Nat, Lst (Pl h.gaps (msk to_) spd (spr h.gaps (msk cz ||| s) m) (msk cz ||| s)) k ∧ mo = k := by
   rcases hmo with ⟨n', h4, h5⟩ | ⟨_, h4⟩
   · exact ⟨n', h4, h5⟩
   · omega
 have hkf := hk.few9
 have hcl := Z1p h.gaps.length s
 refine Z2 (sqr 4 rfl (pur 2 rfl (sp rfl (PE.add rfl rfl (by omega)) rfl ?_)))
 rw [show (((ZF s).length : Nat) : Int) + (k : Int) = ((cnt h.gaps.length s + k : Nat) : Int) by omega]
 refine pur 1 rfl ?_
 exact Zq ⟨cnt h.gaps.length s + k, ⟨hac, hcs, hsafe, .inr ⟨hst, k, rfl, hk⟩⟩, by omega⟩ idH
 have hst : (spr h.gaps (msk cz ||| s) m) = m := Classical.byContradiction fun e => by have := hgr.2 e; omega
 have hcl := Z1p h.gaps.length s
 refine Z2 ?_
 exact Z1n ⟨cnt h.gaps.length s, ⟨hac, hcs, hsafe, .inl ⟨hst, rfl⟩⟩, by omega⟩ (by dsimp only; rw [← hcnt]; exact (by repeat' first | exact Sub.nil | apply Sub.cons | rfl | (simp [lk]; omega))) idH
 rintro ⟨n, hn, hn20⟩
 dsimp only
 refine sqt 7 rfl (pur 3 rfl ?_)
 refine Zo 101 rfl ?_ ?_ <;> intro g101
 try simp only [cS] at g101
 refine pur 4 rfl ?_
 refine ZQ rfl ?_
 refine sqr 2 rfl (pur 2 rfl (sqr 3 rfl (pur 1 rfl (sp rfl (PE.add rfl rfl (by omega)) rfl (pur 1 rfl ?_)))))
 first
   | exact Zb ⟨(s + 1, (n : Int)), by dsimp only; omega, hfw.take hn (.inl (by omega))⟩ (by dsimp only; omega) (fun w h9 => h9.ftail.ftail.ftail)
   | exact Zb ⟨(s + 1, (n : Int)), by dsimp only; omega, hfw.take hn (.inr (by omega))⟩ (by dsimp only; omega) (fun w h9 => h9.ftail.ftail.ftail)
   | exact Zb ⟨(s + 1, x), by dsimp only; omega, hfw.worse hn (by omega)⟩ (by dsimp only; omega) (fun w h9 => h9.ftail.ftail.ftail)
 try simp only [cS] at g101
 refine pur 4 rfl ?_
 refine Z1 rfl ?_ ?_ <;> intro hc8 <;> try simp only [cS] at hc8
 refine sqr 2 rfl (pur 2 rfl (sqr 3 rfl (pur 1 rfl (sp rfl (PE.add rfl rfl (by omega)) rfl (pur 1 rfl ?_)))))
 first
   | exact Zb ⟨(s + 1, (n : Int)), by dsimp only; omega, hfw.take hn (.inl (by omega))⟩ (by dsimp only; omega) (fun w h9 => h9.ftail.ftail.ftail)
   | exact Zb ⟨(s + 1, (n : Int)), by dsimp only; omega, hfw.take hn (.inr (by omega))⟩ (by dsimp only; omega) (fun w h9 => h9.ftail.ftail.ftail)
   | exact Zb ⟨(s + 1, x), by dsimp only; omega, hfw.worse hn (by omega)⟩ (by dsimp only; omega) (fun w h9 => h9.ftail.ftail.ftail)
 refine Z2 (sqr 3 rfl (pur 1 rfl (sp rfl (PE.add rfl rfl (by omega)) rfl (pur 1 rfl ?_))))
 first
   | exact Zb ⟨(s + 1, (n : Int)), by dsimp only; omega, hfw.take hn (.inl (by omega))⟩ (by dsimp only; omega) (fun w h9 => h9.ftail.ftail.ftail)
   | exact Zb ⟨(s + 1, (n : Int)), by dsimp only; omega, hfw.take hn (.inr (by omega))⟩ (by dsimp only; omega) (fun w h9 => h9.ftail.ftail.ftail)
   | exact Zb ⟨(s + 1, x), by dsimp only; omega, hfw.worse hn (by omega)⟩ (by dsimp only; omega) (fun w h9 => h9.ftail.ftail.ftail)
 obtain rfl : s = 2 ^ h.gaps.length := by omega
 have hfq := hfw.done
 refine Z7 (Z8 (Z8 (Zl (sqt 2 rfl (pur 2 rfl (Z5 ?_))))))
 exact rtA rfl rfl rfl ⟨⟨x, hfq, rfl⟩, rfl, rfl⟩ (fun w h9 => h9.del b6)
theorem Z5Q (h : Hse) (ag as_ : Option Addr) (cg cs : Nat) (hok : h.ok) (to_ : List Int) (at_ : Option Addr) (ct : Nat) (ht : ∀ x ∈ to_, 0 ≤ x ∧ x < 7) (htl9 : to_.length ≤ 1000000) (spd : Nat) (hsp : spd ≤ 1000000) : ∀ q, Zf5 h ag as_ cg cs hok to_ at_ ct ht htl9 spd hsp q
  | 0 => Z3j h ag as_ cg cs hok to_ at_ ct ht htl9 spd hsp 0 (fun q9 h => by cases h)
  | q + 1 => Z3j h ag as_ cg cs hok to_ at_ ct ht htl9 spd hsp (q + 1) (fun q9 e9 => (Nat.succ.inj e9) ▸ Z5Q h ag as_ cg cs hok to_ at_ ct ht htl9 spd hsp q)
theorem Zb9 {gl : Nat} {l : List Int} (h : ∀ x ∈ l.take l.length, inB x 0 ((gl : Int) - 1) = true) : (!(l.all fun k => inB k 0 ((gl : Int) - 1))) = false := by
  rw [List.take_length] at h
  rw [Bool.not_eq_false', List.all_eq_true]; exact h
theorem Zae {gl : Nat} {l : List Int} {x : Int} (hx : x ∈ l) (h : inB x 0 ((gl : Int) - 1) = false) : (!(l.all fun k => inB k 0 ((gl : Int) - 1))) = true := by
  rw [Bool.not_eq_true']
  exact List.all_eq_false.2 ⟨x, hx, by rw [h]; decide⟩
theorem Z45 (pl : List PL) : Z1l pl pl.length = (lls pl).flatten := by unfold Z1l lls; rw [List.take_length]
set_option maxHeartbeats 600000 in
theorem Z2n (h : Hse) (ag as_ : Option Addr) (cg cs : Nat) (hgl9 : h.gaps.length ≤ 1000000) (spd : Int) (pl : List PL) (ap : Option Addr) (cp : Nat) (hpl : pl.length ≤ 1000000) (htot : (lls pl).flatten.length ≤ 1000000) (H : Z9) (R : Z6) [hG : MemRows ag 2 (Zd h.gaps) R] [hP : MemRows ap 1 (Zh pl) R] [hI : MemF (Inn pl) R] :
    FnV Tryz.prog 19 [h.v (h.sg ag cg) (h.ss as_ cs), .int .i64 spd, .slice ap pl.length cp] H R (.int .i64 (Z76 h.gaps.length spd (lls pl))) := by
 refine Zi Tryz.func19 rfl Tryz.ntmps19 rfl ?_
 refine sqt 2 rfl ?_
 have hll := ZR pl
 have hxl : ∀ x ∈ pl, x.l.length ≤ 1000000 := fun x hx => by
   have hm : x.l ∈ lls pl := List.mem_map.2 ⟨x, hx, rfl⟩
   have := List.Sublist.length_le (List.sublist_flatten_of_mem hm)
   omega
 refine bx rfl rfl rfl (fun b3 => pur 1 rfl (Z0 (sqt 3 rfl (pur 1 rfl (sp rfl (PE.lenSl Z0P rfl) rfl (pur 1 rfl ?_))))))
 refine Z1 rfl ?_ ?_ <;> intro hc0 <;> try simp only [cS] at hc0
 refine sqt 1 rfl (pur 1 rfl (Z5 ?_))
 exact rtA rfl rfl rfl ⟨congrArg (Value.int .i64) (Z57 (by omega)).symm, rfl, rfl⟩ (fun w h9 => h9.del b3)
 refine Z2 (sqt 1 rfl (pur 1 rfl (Z0 (sqt 1 rfl (pur 1 rfl (Z3 ?_))))))
 refine Ze (ι := (k : {k : Nat // k ≤ pl.length ∧ plE h.gaps.length spd ((lls pl).take k) = 0}) × OSl 3 1 (Z4 (Z1l pl k.1))) (fun y => ⟨[(1, .int .i64 spd), (2, .slice ap pl.length cp), (3, .pointer (some ⟨b3, 0, none⟩)), (7, y.2.fs), (8, .int .i64 (y.1.1 : Int))], y.2.G ++ ((b3, cel 35 (htl h (h.sg ag cg) (h.ss as_ cs))) :: H), R⟩) (fun y => pl.length - y.1.1) ⟨⟨0, Nat.zero_le _, rfl⟩, OSl.nil _ _⟩ ?_ (fun y => ?_)
 exact Zk idH
 obtain ⟨⟨k, hk, hpe⟩, o⟩ := y
 dsimp only at hk hpe o ⊢
 have hct := Z0p pl k
 have hct2 := Z0p pl (k + 1)
 refine Z0 (sqt 4 rfl (pur 2 rfl (sp rfl (PE.lenSl Z0P rfl) rfl (pur 1 rfl ?_))))
 refine Z1 rfl ?_ ?_ <;> intro hc1 <;> try simp only [cS] at hc1
 obtain ⟨x, hx⟩ : ∃ x, pl[k]? = some x := ⟨_, List.getElem?_eq_getElem (by omega)⟩
 have hx9 := hxl x (List.mem_of_getElem? hx)
 have hgx := Z0O hx
 have hst := Z0S hx
 have hsl := congrArg List.length hst
 rw [List.length_append] at hsl
 refine Sy.heap (fun w h9 => St.inn (x := x) h9 (List.mem_of_getElem? hx)) ?_
 refine Zg (a := ap) (sz := 1) (rows := Zh pl) (ne0 (by rw [Zv]; omega)) (fun ba oa he => ?_)
 subst he
 refine Z2 (Z0 (Z3 (sqt 5 rfl (pur 2 rfl (sp rfl (PE.indexAddr Z5p rfl rfl (by omega) (by omega)) rfl (spL rfl rfl (lf0 Z1Y (Z1e hx) rfl) rfl (pur 1 rfl (Z0 (sqt 1 rfl (pur 1 rfl (Z3 ?_)))))))))))
 refine Ze (ι := {i : Nat // i ≤ x.l.length ∧ ∀ y ∈ x.l.take i, inB y 0 ((h.gaps.length : Int) - 1) = true}) (fun i => ⟨[(1, .int .i64 spd), (2, .slice (some ⟨ba, oa, none⟩) pl.length cp), (3, .pointer (some ⟨b3, 0, none⟩)), (7, o.fs), (8, .int .i64 (k : Int)), (9, .slice x.a x.l.length x.c), (10, .int .i64 (i.1 : Int))], o.G ++ ((b3, cel 35 (htl h (h.sg ag cg) (h.ss as_ cs))) :: H), RowsA x.a 1 (Z4 x.l) :: R⟩) (fun i => x.l.length - i.1) ⟨0, Nat.zero_le _, by simp⟩ ?_ (fun i => ?_)
 exact Zk idH
 obtain ⟨i, hi, hia⟩ := i
 dsimp only at hi hia ⊢
 refine Z0 (sqt 4 rfl (pur 2 rfl (sp rfl (PE.lenSl Zx rfl) rfl (pur 1 rfl ?_))))
 refine Z1 rfl ?_ ?_ <;> intro hc2 <;> try simp only [cS] at hc2
 obtain ⟨u, hu⟩ : ∃ u, x.l[i]? = some u := ⟨_, List.getElem?_eq_getElem (by omega)⟩
 refine Zg (a := x.a) (sz := 1) (rows := Z4 x.l) (ne0 (by rw [irl]; omega)) (fun bx9 ox9 hxa => ?_)
 rw [hxa]
 refine Z2 (Z0 (Z3 (Z0 ?_)))
 refine Zn [0, 0, 3, 7, 0, 16, 48, 112, 255] (tks 0 3 (.ld 3 (.tk 4 (.ld 5 (.tk 6 (.tk 7 (.big 8 .done))))))) ZC (by kernel_rfl) ?_
 refine Zy 2 rfl (tk rfl (PE.indexAddr Z1L rfl rfl (by omega) (by omega)) rfl (ld rfl rfl (lf0 sc3 (ZM hu) rfl) rfl (tk rfl (PE.fA Z1h rfl) rfl (ld rfl rfl (lh Z7D rfl rfl) rfl (tk rfl (PE.lenSl Z5v rfl) rfl (tk rfl (PE.sub rfl rfl (by omega)) rfl ?_))))))
 refine clV rfl Z5E rfl rfl (Z3v _ _ _ _ _) ?_
 refine bgT ?_
 refine Z1 rfl ?_ ?_ <;> intro hc3
 have hc9 : inB u 0 ((h.gaps.length : Int) - 1) = false := by rw [← Bool.not_eq_true']; exact hc3
 have hle : lE h.gaps.length spd x.l = 1 := ZaU (Zae (List.mem_of_getElem? hu) hc9)
 have hpl9 := Z3K hpe hgx (by rw [hle]; decide)
 rw [hle] at hpl9
 have hse := Z4A (gl := h.gaps.length) (sp := spd) (pl := lls pl) (by omega) (by rw [hpl9]; decide)
 rw [hpl9] at hse
 refine sqt 1 rfl (pur 1 rfl (Z5 ?_))
 exact rtA rfl rfl rfl ⟨congrArg (Value.int .i64) (hse.symm), rfl, rfl⟩ (fun w h9 => St.sub ((St.drop (G := o.G) h9).del b3))
 have hc9 : inB u 0 ((h.gaps.length : Int) - 1) = true := by rw [← Bool.not_eq_false']; exact hc3
 refine Z2 (sqr 3 rfl (pur 1 rfl (sp rfl (PE.add rfl rfl (by omega)) rfl (pur 1 rfl ?_))))
 exact Zc ⟨i + 1, by omega, fun y hy => by
   rw [List.take_add_one, hu] at hy
   rcases List.mem_append.1 hy with h1 | h1
   · exact hia y h1
   · rw [List.mem_singleton.1 h1]; exact hc9⟩ (by dsimp only; omega) (by first | exact (by repeat' first | exact Sub.nil | apply Sub.cons | rfl | (simp [lk]; omega)) | (rw [← hxa]; exact (by repeat' first | exact Sub.nil | apply Sub.cons | rfl | (simp [lk]; omega)))) (by first | exact idH | (rw [← hxa]; exact idH))
 obtain rfl : i = x.l.length := by omega
 have hin9 := Zb9 (gl := h.gaps.length) hia
 refine Z7 (Z8 (Z8 (Zl (Z0 (sqt 1 rfl (pur 1 rfl (Z3 ?_)))))))
 refine Ze (ι := {i : Nat // (1 ≤ i ∧ i ≤ x.l.length + 1) ∧ ∀ j, j + 1 < i → j + 1 < x.l.length → na x.l j < na x.l (j + 1)}) (fun i => ⟨[(1, .int .i64 spd), (2, .slice (some ⟨ba, oa, none⟩) pl.length cp), (3, .pointer (some ⟨b3, 0, none⟩)), (7, o.fs), (8, .int .i64 (k : Int)), (9, .slice x.a x.l.length x.c), (11, .int .i64 (i.1 : Int))], o.G ++ ((b3, cel 35 (htl h (h.sg ag cg) (h.ss as_ cs))) :: H), RowsA x.a 1 (Z4 x.l) :: R⟩) (fun i => x.l.length + 1 - i.1) ⟨1, ⟨by omega, by omega⟩, fun j h1 => by omega⟩ ?_ (fun i => ?_)
 exact Zk idH
 obtain ⟨i, ⟨hi1, hi2⟩, hia⟩ := i
 dsimp only at hi1 hi2 hia ⊢
 refine Z0 (sqt 4 rfl (pur 2 rfl (sp rfl (PE.lenSl Zx rfl) rfl (pur 1 rfl ?_))))
 refine Z1 rfl ?_ ?_ <;> intro hc4 <;> try simp only [cS] at hc4
 obtain ⟨u, hu⟩ : ∃ u, x.l[i]? = some u := ⟨_, List.getElem?_eq_getElem (by omega)⟩
 obtain ⟨v, hv⟩ : ∃ v, x.l[i - 1]? = some v := ⟨_, List.getElem?_eq_getElem (by omega)⟩
 refine Zg (a := x.a) (sz := 1) (rows := Z4 x.l) (ne0 (by rw [irl]; omega)) (fun bx9 ox9 hxa => ?_)
 rw [hxa]
 refine Z2 (Z0 (Z3 (Z0 ?_)))
 refine Zn [0, 0, 3, 7, 0, 0, 32, 112, 240, 511] (tks 0 3 (.ld 3 (tks 4 4 (.ld 8 (.tk 9 .done))))) ZC (by kernel_rfl) ?_
 refine Zy 2 rfl (tk rfl (PE.indexAddr Z1L rfl rfl (by omega) (by omega)) rfl (ld rfl rfl (lf0 sc3 (ZM hu) rfl) rfl (Zy 2 rfl (tk rfl (PE.sub rfl rfl (by omega)) rfl ?_))))
 rw [show (i : Int) - 1 = ((i - 1 : Nat) : Int) from by omega]
 refine tk rfl (PE.indexAddr Z1L rfl rfl (by omega) (by omega)) rfl (ld rfl rfl (lf0 sc3 (ZM hv) rfl) rfl (Zy 1 rfl ?_))
 refine Z1 rfl ?_ ?_ <;> intro hc5 <;> try simp only [cS] at hc5
 have hle : lE h.gaps.length spd x.l = 4 := Zax hin9 (ZaG (i := i - 1) (by omega) (by rw [show i - 1 + 1 = i by omega, Z1E hu, Z1E hv]; exact hc5))
 have hpl9 := Z3K hpe hgx (by rw [hle]; decide)
 rw [hle] at hpl9
 have hse := Z4A (gl := h.gaps.length) (sp := spd) (pl := lls pl) (by omega) (by rw [hpl9]; decide)
 rw [hpl9] at hse
 refine sqt 1 rfl (pur 1 rfl (Z5 ?_))
 exact rtA rfl rfl rfl ⟨congrArg (Value.int .i64) (hse.symm), rfl, rfl⟩ (fun w h9 => St.sub ((St.drop (G := o.G) h9).del b3))
 refine Z2 (sqr 3 rfl (pur 1 rfl (sp rfl (PE.add rfl rfl (by omega)) rfl (pur 1 rfl ?_))))
 exact Zc ⟨i + 1, ⟨by omega, by omega⟩, fun j h1 h2 => by
   rcases Nat.lt_or_ge (j + 1) i with h3 | h3
   · exact hia j h3 h2
   · obtain rfl : i = j + 1 := by omega
     have h4 := Z1E hu
     have h5 := Z1E hv
     rw [Nat.add_sub_cancel] at h5
     omega⟩ (by dsimp only; omega) (by first | exact (by repeat' first | exact Sub.nil | apply Sub.cons | rfl | (simp [lk]; omega)) | (rw [← hxa]; exact (by repeat' first | exact Sub.nil | apply Sub.cons | rfl | (simp [lk]; omega)))) (by first | exact idH | (rw [← hxa]; exact idH))
 have hasc : Z78 x.l = true := Z5w fun j hj => hia j (by omega) hj
 have hle9 : lE h.gaps.length spd x.l = _ := Z5i hin9 hasc
 refine Z7 (Z8 (Z8 (Zl (Z0 (sqt 4 rfl (pur 1 rfl (sp rfl (PE.lenSl Zx rfl) rfl (pur 2 rfl ?_))))))))
 refine Z1 rfl ?_ ?_ <;> intro hc6 <;> try simp only [cS] at hc6
 rw [dT (show spd < (x.l.length : Int) by omega), cond_true] at hle9
 have hle : lE h.gaps.length spd x.l = 9 := hle9
 have hpl9 := Z3K hpe hgx (by rw [hle]; decide)
 rw [hle] at hpl9
 have hse := Z4A (gl := h.gaps.length) (sp := spd) (pl := lls pl) (by omega) (by rw [hpl9]; decide)
 rw [hpl9] at hse
 refine sqt 1 rfl (pur 1 rfl (Z5 ?_))
 exact rtA rfl rfl rfl ⟨congrArg (Value.int .i64) (hse.symm), rfl, rfl⟩ (fun w h9 => St.sub ((St.drop (G := o.G) h9).del b3))
 rw [dF (show ¬ spd < (x.l.length : Int) by omega), cond_false] at hle9
 refine Z2 (sqr 4 rfl (pur 2 rfl ?_))
 refine apO (news := Z4 x.l) o rfl Z21 rfl rfl (Z3r) (irl _) (by simp [ZA, Z4, Value.oneCell']) (by rw [irl, irl]; omega) rfl (fun o62 => ?_)
 refine pur 1 rfl (sqr 3 rfl (pur 1 rfl (sp rfl (PE.add rfl rfl (by omega)) rfl (pur 1 rfl ?_))))
 exact Za ⟨⟨k + 1, by omega, Zb3 hpe hgx hle9⟩, o62.cast (by rw [hst]; simp [Z4])⟩ (fun w h9 => h9.ftail)
 obtain rfl : k = pl.length := by omega
 rw [List.take_of_length_le (by omega)] at hpe
 have hse := Z5D (gl := h.gaps.length) (sp := spd) (pl := lls pl) (by omega) hpe
 obtain ⟨a9, c9, he, hc9, hzz⟩ := (o.cast (show _ = Z4 (lls pl).flatten by rw [Z45])).freezeC
 rw [irl] at hc9
 rw [show o.fs = _ from he, irl]
 refine Sy.heap (H' := _) (fun w h9 => hzz h9) ?_
 clear he hzz
 refine Z7 (Z8 (Z8 (Zl (sqt 6 rfl (pur 1 rfl (sp rfl (PE.fA Z1h rfl) rfl (spL rfl rfl (lh Z7D rfl rfl) rfl (sp rfl (PE.lenSl Z5v rfl) rfl ?_))))))))
 refine clV rfl Zcv rfl rfl (Z3a (lls pl).flatten a9 c9 (h.gaps.length : Int) (by omega) (by omega) hc9 _ _) ?_
 refine pur 1 rfl (Z5 ?_)
 exact rtA rfl rfl rfl ⟨congrArg (Value.int .i64) hse.symm, rfl, rfl⟩ (fun w h9 => St.sub (h9.del b3))
set_option maxHeartbeats 600000 in
theorem Z4t (h : Hse) (ag as_ : Option Addr) (cg cs : Nat) (hok : h.ok) (fr to_ : List Int) (af at_ : Option Addr) (cf ct : Nat) (hlf : fr.length ≤ 1000000) (hlt : to_.length ≤ 1000000) (hfc : fr.length ≤ cf) (htc : to_.length ≤ ct) (hbe : h.botE fr to_ = 0) (pl : List PL) (ap : Option Addr) (cp : Nat) (hpl : pl.length ≤ 9) (htot : (lls pl).flatten.length ≤ 1000000) (hpx : ∀ x ∈ (lls pl).flatten, 0 ≤ x) (H : Z9) (R : Z6) [hG : MemRows ag 2 (Zd h.gaps) R] [hF : MemRows af 1 (Z4 fr) R] [hT : MemRows at_ 1 (Z4 to_) R] [hP : MemRows ap 1 (Zh pl) R] [hI : MemF (Inn pl) R] :
    FnV Tryz.prog 20 [h.v (h.sg ag cg) (h.ss as_ cs), .slice af fr.length cf, .slice at_ to_.length ct, .slice ap pl.length cp] H R (.bool (h.svB fr to_ (lls pl))) := by
 refine Zi Tryz.func20 rfl Tryz.ntmps20 rfl ?_
 refine sqt 2 rfl ?_
 have hb := Z1N hbe
 obtain ⟨q1, q2, q3, q4, q5, q6⟩ := Z0i hb
 have hgl := hok.gl
 have hbn := hok.bins
 have hlm : Lm fr (msk fr) := Lm.of (n := h.bins) (by omega) hb.el
 have hg7 : ∀ g ∈ h.gaps, (0 ≤ g.a ∧ g.a < 7) ∧ 0 ≤ g.b ∧ g.b < 7 := fun g hg => by have := hok.gaps g hg; omega
 have hsv := (Z8I hok (to_ := to_) (fun x hx => (Z0b hb.el).1 x hx) (pl := pl) hpl).2
 have hnf := hlm.few
 refine bx rfl rfl rfl (fun b4 => pur 1 rfl (sqt 2 rfl (pur 2 rfl (sqt 1 rfl (pur 1 rfl (Z0 (sqt 1 rfl (pur 1 rfl (Z3 ?_)))))))))
 refine Sy.heap (fun w h9 => h9.also (f := RowsA af 1 (Z4 fr)) (fun w' hg => hg _ hF.mem)) ?_
 refine Ze (ι := (y : {y : Nat × List Int × Option Addr × Nat // y.1 ≤ 20 ∧ Lm y.2.1 (lvp h.gaps (clP pl) (msk fr) (y.1))}) × OSl 3 1 (Z4 (Z1l pl y.1.1))) (fun y => ⟨[(2, .slice at_ to_.length ct), (3, .slice ap pl.length cp), (4, .pointer (some ⟨b4, 0, none⟩)), (9, .slice y.1.1.2.2.1 y.1.1.2.1.length y.1.1.2.2.2), (10, y.2.fs), (11, .int .i64 (y.1.1.1 : Int))], y.2.G ++ ((b4, cel 35 (htl h (h.sg ag cg) (h.ss as_ cs))) :: H), RowsA y.1.1.2.2.1 1 (Z4 y.1.1.2.1) :: R⟩) (fun y => 20 - y.1.1.1) ⟨⟨(0, fr, af, cf), by dsimp only; omega, hlm⟩, OSl.nil _ _⟩ ?_ (fun y => ?_)
 exact Zk idH
 obtain ⟨⟨⟨w, now, an, cn⟩, hw, hnl⟩, oc⟩ := y
 dsimp only at hw hnl oc ⊢
 have hn7 := hnl.few
 have hct := Z0p pl w
 have hct2 := Z0p pl (w + 1)
 refine Z0 (sqt 2 rfl (pur 2 rfl ?_))
 refine Z1 rfl ?_ ?_ <;> intro hc0 <;> try simp only [cS] at hc0
 refine Z2 (Z0 (Z3 (Z0 (sqt 4 rfl (pur 2 rfl (sp rfl (PE.lenSl Z0P rfl) rfl (pur 1 rfl ?_)))))))
 refine Z0c (ι := OSl 3 1 (Z4 (Z1l pl (w + 1)))) (fun oc => ⟨[(2, .slice at_ to_.length ct), (3, .slice ap pl.length cp), (4, .pointer (some ⟨b4, 0, none⟩)), (9, .slice an now.length cn), (10, oc.fs), (11, .int .i64 (w : Int))], oc.G ++ ((b4, cel 35 (htl h (h.sg ag cg) (h.ss as_ cs))) :: H), RowsA an 1 (Z4 now) :: R⟩) ?_ ?_
 refine Z1 rfl ?_ ?_ <;> intro hc1 <;> try simp only [cS] at hc1
 obtain ⟨x, hx⟩ : ∃ x, pl[w]? = some x := ⟨_, List.getElem?_eq_getElem (by omega)⟩
 have hst := Z0S hx
 have hsl := congrArg List.length hst
 rw [List.length_append] at hsl
 refine Sy.heap (fun w h9 => St.inn (x := x) h9 (List.mem_of_getElem? hx)) ?_
 refine Zg (a := ap) (sz := 1) (rows := Zh pl) (ne0 (by rw [Zv]; omega)) (fun ba oa he => ?_)
 subst he
 refine sqr 7 rfl (pur 3 rfl (sp rfl (PE.indexAddr Z5p rfl rfl (by omega) (by omega)) rfl (spL rfl rfl (lf0 Z1Y (Z1e hx) rfl) rfl ?_)))
 refine apO (news := Z4 x.l) oc rfl Z21 rfl rfl (Z3r) (irl _) (by simp [ZA, Z4, Value.oneCell']) (by rw [irl, irl]; omega) rfl (fun o27 => ?_)
 refine pur 1 rfl ?_
 first | exact Zq (o27.cast (by rw [hst]; simp [Z4])) (fun w h9 => h9.ftail) | exact Zq (oc.cast (by rw [Z6F (by omega)])) idH
 refine Z2 ?_
 first | exact Zq (o27.cast (by rw [hst]; simp [Z4])) (fun w h9 => h9.ftail) | exact Zq (oc.cast (by rw [Z6F (by omega)])) idH
 intro oc
 dsimp only
 refine sqr 5 rfl (spL rfl rfl (lhA (htl h (h.sg ag cg) (h.ss as_ cs)) Z5a rfl rfl rfl) rfl (pur 2 rfl ?_))
 refine cl rfl ZdQ rfl rfl (Fn.lendOO (q := fun v T' => ∃ o' : OSl 3 1 (Z4 (Z0h h.gaps (Z1l pl (w + 1)) now)), v = o'.fs ∧ T' = o'.G ++ ((b4, cel 35 (htl h (h.sg ag cg) (h.ss as_ cs))) :: H)) oc (fun v => [h.v (h.sg ag cg) (h.ss as_ cs), .slice an now.length cn, v]) (fun a c B => by rw [irl]; exact Fn.mono (Z9l h ag as_ cg cs hgl now (Z1l pl (w + 1)) an a cn c (by omega) (by omega) _ _) (by rintro v H' R' ⟨o', rfl, rfl, rfl⟩; exact ⟨⟨o', rfl, rfl⟩, rfl⟩))) ?_
 rintro _ _ R1 ⟨T', ⟨o', rfl, rfl⟩, rfl, hR1⟩
 obtain rfl := hR1.symm
 clear hR1
 have hth : Lm (Z0h h.gaps (Z1l pl (w + 1)) now) (lvp h.gaps (clP pl) (msk fr) (w + 1)) := Z7f hg7 (fun i => by rw [Z2u (fun x hx => hpx x (Za9 hx))]; rfl) hnl
 obtain ⟨a9, c9, he, hc9, hzz⟩ := o'.freezeC
 rw [irl] at hc9
 rw [he, irl]
 refine Sy.heap (H' := oc.G ++ ((b4, cel 35 (htl h (h.sg ag cg) (h.ss as_ cs))) :: H)) (fun w h9 => hzz (h9.perm (List.perm_append_comm_assoc _ _ _))) ?_
 clear he hzz
 refine pur 1 rfl (sqr 3 rfl (pur 1 rfl (sp rfl (PE.add rfl rfl (by omega)) rfl (pur 1 rfl ?_))))
 exact Za ⟨⟨(w + 1, (Z0h h.gaps (Z1l pl (w + 1)) now), a9, c9), by dsimp only; omega, hth⟩, oc⟩ (fun w h9 => h9.facts (fun g hg => by simp only [List.mem_cons] at hg ⊢; rcases hg with h8 | h8 <;> simp [h8]))
 obtain rfl : w = 20 := by omega
 refine Sy.heap (fun w h9 => St.drop (G := oc.G) h9) ?_
 refine Z7 (Z8 (Z8 (Zl (Z0 (sqt 1 rfl (pur 1 rfl (Z3 ?_)))))))
 refine Ze (ι := {k : Nat // k ≤ to_.length ∧ ∀ x ∈ to_.take k, ZD now x = false}) (fun k => ⟨[(2, .slice at_ to_.length ct), (9, .slice an now.length cn), (12, .int .i64 (k.1 : Int))], (b4, cel 35 (htl h (h.sg ag cg) (h.ss as_ cs))) :: H, RowsA an 1 (Z4 now) :: R⟩) (fun k => to_.length - k.1) ⟨0, Nat.zero_le _, by simp⟩ ?_ (fun k => ?_)
 exact Zk idH
 obtain ⟨k, hk, hn⟩ := k
 dsimp only at hk hn ⊢
 refine Z0 (sqt 4 rfl (pur 2 rfl (sp rfl (PE.lenSl Zx rfl) rfl (pur 1 rfl ?_))))
 refine Z1 rfl ?_ ?_ <;> intro hc2 <;> try simp only [cS] at hc2
 obtain ⟨x, hx⟩ : ∃ x, to_[k]? = some x := ⟨_, List.getElem?_eq_getElem (by omega)⟩
 refine Zg (a := at_) (sz := 1) (rows := Z4 to_) (ne0 (by rw [irl]; omega)) (fun bt9 ot9 he => ?_)
 subst he
 refine Z2 (Z0 (Z3 (sqt 6 rfl (pur 3 rfl (sp rfl (PE.indexAddr Z1L rfl rfl (by omega) (by omega)) rfl (spL rfl rfl (lf0 sc3 (ZM hx) rfl) rfl ?_))))))
 refine clV rfl Z0Z rfl rfl (Z04 now an cn x (by omega) _ _) ?_
 refine Z1 rfl ?_ ?_ <;> intro hc3 <;> try simp only [cS] at hc3
 have hany : to_.any (ZD now) = true := List.any_eq_true.2 ⟨x, List.mem_of_getElem? hx, hc3⟩
 have hne := (Zez hnl (fun x hx => (q2 x hx).1)).1 hany
 have hsf : h.svB fr to_ (lls pl) = false := by
   cases hb9 : h.svB fr to_ (lls pl) with
   | false => rfl
   | true => exact absurd (hsv.1 hb9) hne
 refine sqt 1 rfl (pur 1 rfl (Z5 ?_))
 exact rtA rfl rfl rfl ⟨by simp only [ZG]; rw [hsf], rfl, rfl⟩ (fun w h9 => St.sub (h9.del b4))
 refine Z2 (sqr 3 rfl (pur 1 rfl (sp rfl (PE.add rfl rfl (by omega)) rfl (pur 1 rfl ?_))))
 exact Zc ⟨k + 1, by omega, fun y hy => by
   rw [List.take_add_one, hx] at hy
   rcases List.mem_append.1 hy with h1 | h1
   · exact hn y h1
   · rw [List.mem_singleton.1 h1]; exact hc3⟩ (by dsimp only; omega) (by repeat' first | exact Sub.nil | apply Sub.cons | rfl | (simp [lk]; omega)) idH
 obtain rfl : k = to_.length := by omega
 rw [List.take_length] at hn
 have hsf : h.svB fr to_ (lls pl) = true := hsv.2 (Classical.byContradiction fun e => by
   obtain ⟨x, h1, h2⟩ := List.any_eq_true.1 ((Zez hnl (fun x hx => (q2 x hx).1)).2 e)
   rw [hn x h1] at h2; cases h2)
 refine Z7 (Z8 (Z8 (Zl (sqt 1 rfl (pur 1 rfl (Z5 ?_))))))
 exact rtA rfl rfl rfl ⟨by simp only [ZG]; rw [hsf], rfl, rfl⟩ (fun w h9 => St.sub (h9.del b4))
theorem ZeK : cal Tryz.prog 15 = true := by kernel_rfl
theorem Zfb : cal Tryz.prog 17 = true := by kernel_rfl
theorem Zbb : cal Tryz.prog 19 = true := by kernel_rfl
theorem Zc9 : cal Tryz.prog 20 = true := by kernel_rfl
theorem Zeu : cal Tryz.prog 27 = true := by kernel_rfl
theorem ZfJ : cal Tryz.prog 9 = true := by kernel_rfl
theorem ZaR {P : Program} {H9 : Type} {enc : TypeId × Value → H9} {w : World} {base : Nat} {spare : Nat → Bool} {held : Bool} {fuel T e : Nat} {a : Option Addr} {len cap : Nat} {x : DataW H9 × List MemPlace} (hu : P.underlying T = some (.slice e)) (h : DataW.trod enc P w base spare held fuel T [.slice a len cap] = some x) : len ≤ cap := by
  rcases DataW.trod_slice hu h with ⟨h1, _⟩ | ⟨a', len', cap', elems, rest, n, _, h1, _, hb, hl, hm, hlen, hel, _, _⟩
  · cases h1; exact Nat.le_refl 0
  · cases h1; omega
theorem Ze9 (h : Hse) (ag as_ : Option Addr) (cg cs : Nat) (hlg : h.gaps.length ≤ 1000000) (hls : h.sights.length ≤ 1000000) (H : Z9) (R : Z6) [hG : MemRows ag 2 (Zd h.gaps) R] [hS : MemRows as_ 3 (Zf h.sights) R] : Fn Tryz.prog 12 [h.v (h.sg ag cg) (h.ss as_ cs)] H R (fun v H' R' => ∃ (ax ay : Option Addr) (cx cy : Nat), v = h.v (h.sg ax cx) (h.ss ay cy) ∧ H' = H ∧ R' = RowsA ay 3 (Zf h.sights) :: RowsA ax 2 (Zd h.gaps) :: R) := fun w hw => by
  refine CallsIn.mono (Zfp h ag as_ cg cs hlg hls H R w hw) ?_
  rintro e' w' ⟨u, H', R', ⟨og, os, rfl, rfl, rfl⟩, he, hs'⟩
  obtain ⟨ay, cy, he2, hcy, hz2⟩ := os.freezeC
  obtain ⟨ax, cx, he1, hcx, hz1⟩ := og.freezeC
  rw [Z2d] at he2
  rw [Z0w] at he1
  have h2 := hz2 hs'
  have h3 := hz1 h2
  refine ⟨_, H, _, ⟨ax, ay, cx, cy, by rw [he1, he2]; rfl, rfl, rfl⟩, he, h3.facts (fun g hg => by simp only [List.mem_cons] at hg ⊢; rcases hg with h8 | h8 | h8 <;> simp [h8])⟩
theorem Zau (l : List Int) (a : Option Addr) (c : Nat) (hl : l.length ≤ 1000000) (H : Z9) (R : Z6) [hR : MemRows a 1 (Z4 l) R] : Fn Tryz.prog 14 [.slice a l.length c] H R (fun v H' R' => ∃ (ax : Option Addr) (cx : Nat), l.length ≤ cx ∧ v = .slice ax l.length cx ∧ H' = H ∧ R' = RowsA ax 1 (Z4 l) :: R) := fun w hw => by
  refine CallsIn.mono (Z4V l a c hl H R w hw) ?_
  rintro e' w' ⟨u, H', R', ⟨o, rfl, _, rfl, rfl⟩, he, hs'⟩
  obtain ⟨ax, cx, he1, hcx, hz1⟩ := o.freezeC
  rw [irl] at he1 hcx
  exact ⟨_, H, _, ⟨ax, cx, hcx, by rw [he1], rfl, rfl⟩, he, hz1 hs'⟩
def wdB (h : Hse) : Bool := Zc7 h || (decide (6 < h.gaps.length) && decide (h.gaps.length ≤ 10))
theorem Zaq : ∀ {l : List (List Int)}, (∀ x ∈ l, x.length ≤ 14) → l.flatten.length ≤ 14 * l.length
  | [], _ => Nat.zero_le _
  | x :: l, h => by
    have h1 := Zaq (l := l) (fun y hy => h y (by simp [hy]))
    have h2 := h x (by simp)
    rw [List.flatten_cons, List.length_append, List.length_cons]; omega
theorem ZaX {l : List (List Int)} (h : Zbk l = false) : (∀ x ∈ l, x.length ≤ 14) ∧ l.length ≤ 14 := by
  unfold Zbk at h
  rw [Bool.or_eq_false_iff] at h
  refine ⟨fun x hx => ?_, by simpa using h.2⟩
  have := List.any_eq_false.1 h.1 x hx
  simpa using this
theorem Z92 {gs : List Gp} {K sp : Nat} : ∀ {ls : List Nat} {m c m' c' : Nat}, Seg gs K sp m c ls m' c' → m' = Z1K gs m c ls ∧ c' = Z0N c ls
  | [], _, _, _, _, ⟨h1, h2⟩ => ⟨h1, h2⟩
  | l :: ls, _, _, _, _, ⟨_, h2⟩ => Z92 (ls := ls) h2
theorem Zao {gs : List Gp} {K sp : Nat} (hg : gs.length ≤ 10) : ∀ {ls : List Nat} {m c m' c' : Nat}, Seg gs K sp m c ls m' c' → ((ls.map ZF).flatten).Nodup ∧ (∀ x ∈ (ls.map ZF).flatten, c.testBit x.toNat = false) ∧ ∀ l ∈ ls, l < 2 ^ gs.length ∧ cnt gs.length l ≤ sp
  | [], _, _, _, _, _ => ⟨List.nodup_nil, by simp, by simp⟩
  | l :: ls, m, c, m', c', ⟨⟨h1, h2, h3, _⟩, h4⟩ => by
    obtain ⟨i1, i2, i3⟩ := Zao hg (ls := ls) h4
    rw [List.map_cons, List.flatten_cons]
    have key : ∀ x ∈ ZF l, ∃ k : Nat, x = k ∧ l.testBit k = true := fun x hx => by
      obtain ⟨k, _, h6, rfl⟩ := memL_bit.1 hx; exact ⟨k, rfl, h6⟩
    refine ⟨List.nodup_append.2 ⟨Z8R l, i1, fun a ha b hb e => ?_⟩, fun x hx => ?_, fun x hx => ?_⟩
    · subst e
      obtain ⟨k, rfl, h6⟩ := key a ha
      have h7 := i2 _ hb
      rw [Int.toNat_natCast, Nat.testBit_or, h6, Bool.or_true] at h7; cases h7
    · rcases List.mem_append.1 hx with h5 | h5
      · obtain ⟨k, rfl, h6⟩ := key x h5
        rw [Int.toNat_natCast]
        exact and_zero.1 h2 k h6
      · have h7 := i2 x h5
        rw [Nat.testBit_or, Bool.or_eq_false_iff] at h7; exact h7.1
    · rcases List.mem_cons.1 hx with rfl | h5
      · exact ⟨h1, h3⟩
      · exact i3 x h5
theorem Za1 (s : Nat) : Z78 (ZF s) = true := by
  obtain ⟨y, h1, h2, _⟩ := Z43 s
  rw [h1]
  refine Z5w fun i hi => ?_
  rw [List.length_map] at hi
  have h3 := List.pairwise_iff_getElem.1 h2 i (i + 1) (by omega) hi (by omega)
  rw [Z1E (x := (y[i] : Int)) (by rw [List.getElem?_map, List.getElem?_eq_getElem (by omega)]; rfl), Z1E (x := (y[i + 1] : Int)) (by rw [List.getElem?_map, List.getElem?_eq_getElem hi]; rfl)]
  omega
structure SvP (h : Hse) (fr to_ : List Int) (sp ls : Int) (pl : List PL) : Prop where
  pln : Z76 h.gaps.length sp (lls pl) = 0
  sv : h.svB fr to_ (lls pl) = true
  len : ((lls pl).flatten.length : Int) = ls
  few : pl.length ≤ 8
  nn : ∀ x ∈ (lls pl).flatten, 0 ≤ x
  tot : (lls pl).flatten.length ≤ 1000
theorem ZcT {h : Hse} {fr to_ : List Int} {sp : Int} {ls : List Nat} {pl : List PL} (hre : h.rcE fr to_ sp = 0) (hll : lls pl = ls.map ZF) (hpl : pl.length ≤ 8) (hlt : ∀ l ∈ ls, l < 2 ^ h.gaps.length) (hr : RunP h.gaps (msk to_) sp.toNat (msk fr) 0 ls) : SvP h fr to_ sp (Z79 h.gaps ls) pl := by
  obtain ⟨hb, hs0, hs1⟩ := Zak hre
  have hk := hb.ok
  have hgl := hk.gl
  obtain ⟨m', c', hseg, hsh⟩ := hr
  obtain ⟨n1, n2, n3⟩ := Zao hgl hseg
  obtain ⟨r1, r2⟩ := Z92 hseg
  have hmm : (lls pl).map msk = ls := by
    rw [hll, List.map_map]
    exact (List.map_congr_left (g := id) fun t ht => Z3Z (Nat.lt_of_lt_of_le (hlt t ht) (Nat.pow_le_pow_right (by decide) hgl))).trans (List.map_id _)
  have hrg : ∀ l ∈ ls, ∀ x ∈ ZF l, 0 ≤ x ∧ x < (h.gaps.length : Int) := fun l hl x hx => by
    obtain ⟨k, _, h6, rfl⟩ := memL_bit.1 hx
    have := Z02 (hlt l hl) h6; omega
  have hfl : (lls pl).flatten.length = Z79 h.gaps ls := by rw [hll]; exact Z4x hgl hlt
  have hnn : ∀ x ∈ (lls pl).flatten, 0 ≤ x ∧ x < (h.gaps.length : Int) := fun x hx => by
    rw [hll] at hx
    obtain ⟨l, h1, h2⟩ := List.mem_flatten.1 hx
    obtain ⟨t, ht, rfl⟩ := List.mem_map.1 h1
    exact hrg t ht x h2
  have hpe : plE h.gaps.length sp (lls pl) = 0 := plE_zero.2 fun l hl => by
    rw [hll] at hl
    obtain ⟨t, ht, rfl⟩ := List.mem_map.1 hl
    have h1 : (!((ZF t).all fun k => inB k 0 ((h.gaps.length : Int) - 1))) = false := by
      rw [Bool.not_eq_false', List.all_eq_true]
      intro x hx
      have := hrg t ht x hx
      simp [inB]; omega
    rw [Z5i h1 (Za1 t), Z2M (hlt t ht) hgl, decide_eq_false (by have := (n3 t ht).2; omega)]; rfl
  refine ⟨?_, ?_, by rw [hfl], hpl, fun x hx => (hnn x hx).1, ?_⟩
  · rw [Z5D (by rw [ZR]; omega) hpe]
    exact Z6g hnn (by rw [hll]; exact n1)
  · refine (Z8I hk (to_ := to_) (fun x hx => (Z0b hb.el).1 x hx) (pl := pl) (by omega)).1.2 ?_
    rw [hmm, ← r1, ← r2]; exact hsh
  · have h1 := Z8w hnn (by rw [hll]; exact n1)
    omega
def SvU (h : Hse) (fr to_ : List Int) (sp u ls : Int) : Prop := (h.rcE fr to_ sp ≠ 0 ∧ u = h.rcE fr to_ sp ∧ ls = 0) ∨ (h.rcE fr to_ sp = 0 ∧ (∀ n, ¬ Pl h.gaps (msk to_) sp.toNat (msk fr) 0 n) ∧ u = 6 ∧ ls = 0) ∨ (h.rcE fr to_ sp = 0 ∧ u = 0 ∧ ∃ n : Nat, Lst (Pl h.gaps (msk to_) sp.toNat (msk fr) 0) n ∧ ls = n)
def SvS (h : Hse) (fr to_ : List Int) (sl : Int) : Prop := (h.botE fr to_ ≠ 0 ∧ sl = 0) ∨ (h.botE fr to_ = 0 ∧ ∃ s : Nat, sl = s ∧ (∃ n, Pl h.gaps (msk to_) s (msk fr) 0 n) ∧ ∀ s', s' < s → ∀ n, ¬ Pl h.gaps (msk to_) s' (msk fr) 0 n)
theorem Z7k {h : Hse} {fr to_ : List Int} {sp : Int} (hb : h.botE fr to_ ≠ 0) : h.rcE fr to_ sp = h.botE fr to_ := by unfold Hse.rcE; rw [decide_eq_true hb]; rfl
theorem ZaS {h : Hse} {fr to_ : List Int} {sp : Int} (hb : h.botE fr to_ = 0) (hs : ¬ (0 ≤ sp ∧ sp ≤ 10)) : h.rcE fr to_ sp = 3 := by
  have : inB sp 0 10 = false := by
    cases h1 : inB sp 0 10 with
    | false => rfl
    | true => exact absurd (by simpa [inB] using h1) hs
  unfold Hse.rcE; rw [hb, this]; rfl
theorem ZbO {h : Hse} {fr to_ : List Int} {sp : Int} {pl : List (List Int)} (h0 : h.rcE fr to_ sp ≠ 0) : h.svR fr to_ sp pl = (false, h.rcE fr to_ sp) := Z2x (Zb2 h0) h0
theorem Z8N {gl : Nat} {sp : Int} {pl : List (List Int)} (h : Z76 gl sp pl = 0) : pl.length ≤ 9 ∧ ∀ x ∈ pl.flatten, 0 ≤ x := by
  by_cases h1 : 9 < pl.length
  · rw [Z57 h1] at h; cases h
  · by_cases h2 : plE gl sp pl = 0
    · rw [Z5D h1 h2] at h
      exact ⟨by omega, fun x hx => ((Z0b h).1 x hx).1⟩
    · rw [Z4A h1 h2] at h; exact absurd h h2
theorem ZfX {h : Hse} {fr to_ : List Int} {spd : Nat} {x : Int} (h0 : h.rcE fr to_ (spd : Int) = 0) (hx : FwQ h.gaps (msk to_) spd (msk fr) 0 x) : (x < 0 → SvU h fr to_ (spd : Int) 6 0) ∧ (¬ x < 0 → SvU h fr to_ (spd : Int) 0 x) := by
  rcases hx with ⟨n, h1, rfl⟩ | ⟨h1, rfl⟩
  · exact ⟨fun h9 => by omega, fun _ => .inr (.inr ⟨h0, rfl, n, by rw [Int.toNat_natCast]; exact h1, rfl⟩)⟩
  · exact ⟨fun _ => .inr (.inl ⟨h0, by rw [Int.toNat_natCast]; exact h1, rfl, rfl⟩), fun h9 => absurd (by decide) h9⟩
theorem Zcx (h : Hse) (ag as_ : Option Addr) (cg cs : Nat) (hlg : h.gaps.length ≤ 1000000) (hls : h.sights.length ≤ 1000000) (fr to_ : List Int) (af at_ : Option Addr) (cf ct : Nat) (hlf : fr.length ≤ 1000000) (hlt : to_.length ≤ 1000000) (hfc : fr.length ≤ cf) (htc : to_.length ≤ ct) (sp u ls : Int) (hU : SvU h fr to_ sp u ls) (H : Z9) (R : Z6) [hG : MemRows ag 2 (Zd h.gaps) R] [hS : MemRows as_ 3 (Zf h.sights) R] [hF : MemRows af 1 (Z4 fr) R] [hT : MemRows at_ 1 (Z4 to_) R] : Fn Tryz.prog 21 [h.v (h.sg ag cg) (h.ss as_ cs), .slice af fr.length cf, .slice at_ to_.length ct, .int .i64 sp] H R (fun v H' R' => ∃ (pl : List PL) (a : Option Addr) (c : Nat), (u ≠ 0 → pl.length = 0) ∧ (u = 0 → SvP h fr to_ sp ls pl) ∧ pl.length ≤ 8 ∧ pl.length ≤ c ∧ v = .tuple #[.slice a pl.length c, .int .i64 u] ∧ H' = H ∧ R' = RowsA a 1 (Zh pl) :: Inn pl :: R) := fun w hw => by
  refine CallsIn.mono (Z94 h ag as_ cg cs (by omega) (by omega) fr to_ af at_ cf ct hlf hlt hfc htc sp H R w hw) ?_
  rintro e' w' ⟨v, H', R', ⟨rfl, hq⟩, he, hs'⟩
  rcases hq with ⟨h1, rfl, rfl⟩ | ⟨h1, h2, rfl, rfl⟩ | ⟨h1, ls9, pl, a, c, h2, h3, h4, h5, h6, h7, rfl, rfl⟩
  · rcases hU with ⟨_, rfl, rfl⟩ | ⟨g1, _⟩ | ⟨g1, _⟩
    · exact ⟨_, _, _, ⟨[], none, 0, fun _ => rfl, fun h9 => absurd h9 h1, Nat.zero_le _, Nat.le_refl _, rfl, rfl, rfl⟩, he, St.norows (sz := 1) (St.inn0 hs')⟩
    · exact absurd g1 h1
    · exact absurd g1 h1
  · rcases hU with ⟨g1, _⟩ | ⟨_, _, rfl, rfl⟩ | ⟨_, _, n, g2, _⟩
    · exact absurd h1 g1
    · exact ⟨_, _, _, ⟨[], none, 0, fun _ => rfl, fun h9 => absurd h9 (by decide), Nat.zero_le _, Nat.le_refl _, rfl, rfl, rfl⟩, he, St.norows (sz := 1) (St.inn0 hs')⟩
    · exact absurd g2.1 (h2 n)
  · rcases hU with ⟨g1, _⟩ | ⟨_, g1, _⟩ | ⟨_, rfl, n, g2, rfl⟩
    · exact absurd h1 g1
    · exact absurd h7.1 (g1 _)
    · obtain rfl := g2.unique h7
      exact ⟨_, _, _, ⟨pl, a, c, fun h9 => absurd rfl h9, fun _ => ZcT h1 h2 h3 h5 h6, h3, h4, rfl, rfl, rfl⟩, he, hs'⟩
theorem Z8n (h : Hse) (ag as_ : Option Addr) (cg cs : Nat) (hlg : h.gaps.length ≤ 1000000) (hls : h.sights.length ≤ 1000000) (fr to_ : List Int) (af at_ : Option Addr) (cf ct : Nat) (hlf : fr.length ≤ 1000000) (hlt : to_.length ≤ 1000000) (hfc : fr.length ≤ cf) (htc : to_.length ≤ ct) (sp u ls : Int) (hU : SvU h fr to_ sp u ls) (H : Z9) (R : Z6) [hG : MemRows ag 2 (Zd h.gaps) R] [hS : MemRows as_ 3 (Zf h.sights) R] [hF : MemRows af 1 (Z4 fr) R] [hT : MemRows at_ 1 (Z4 to_) R] : Fn Tryz.prog 22 [h.v (h.sg ag cg) (h.ss as_ cs), .slice af fr.length cf, .slice at_ to_.length ct, .int .i64 sp] H R (fun v H' R' => v = .tuple #[.int .i64 ls, .int .i64 u] ∧ H' = H ∧ R' = R) := fun w hw => by
  refine CallsIn.mono (Z5S h ag as_ cg cs (by omega) (by omega) fr to_ af at_ cf ct hlf hlt hfc htc sp H R w hw) ?_
  rintro e' w' ⟨v, H', R', ⟨rfl, hq⟩, he, hs'⟩
  obtain ⟨rfl, hq⟩ := hq
  rcases hq with ⟨h1, rfl⟩ | ⟨h1, h2, rfl⟩ | ⟨h1, n9, _, h7, rfl⟩
  · rcases hU with ⟨_, rfl, rfl⟩ | ⟨g1, _⟩ | ⟨g1, _⟩
    · exact ⟨_, _, _, ⟨rfl, rfl, rfl⟩, he, hs'⟩
    · exact absurd g1 h1
    · exact absurd g1 h1
  · rcases hU with ⟨g1, _⟩ | ⟨_, _, rfl, rfl⟩ | ⟨_, _, n, g2, _⟩
    · exact absurd h1 g1
    · exact ⟨_, _, _, ⟨rfl, rfl, rfl⟩, he, hs'⟩
    · exact absurd g2.1 (h2 n)
  · rcases hU with ⟨g1, _⟩ | ⟨_, g1, _⟩ | ⟨_, rfl, n, g2, rfl⟩
    · exact absurd h1 g1
    · exact absurd h7.1 (g1 _)
    · obtain rfl := g2.unique h7
      exact ⟨_, _, _, ⟨rfl, rfl, rfl⟩, he, hs'⟩
theorem Zaj (h : Hse) (ag as_ : Option Addr) (cg cs : Nat) (hlg : h.gaps.length ≤ 1000000) (hls : h.sights.length ≤ 1000000) (fr to_ : List Int) (af at_ : Option Addr) (cf ct : Nat) (hlf : fr.length ≤ 1000000) (hlt : to_.length ≤ 1000000) (hfc : fr.length ≤ cf) (htc : to_.length ≤ ct) (sl : Int) (hS9 : SvS h fr to_ sl) (H : Z9) (R : Z6) [hG : MemRows ag 2 (Zd h.gaps) R] [hS : MemRows as_ 3 (Zf h.sights) R] [hF : MemRows af 1 (Z4 fr) R] [hT : MemRows at_ 1 (Z4 to_) R] : Fn Tryz.prog 24 [h.v (h.sg ag cg) (h.ss as_ cs), .slice af fr.length cf, .slice at_ to_.length ct] H R (fun v H' R' => v = .tuple #[.int .i64 sl, .int .i64 (h.botE fr to_)] ∧ H' = H ∧ R' = R) := fun w hw => by
  refine CallsIn.mono (Z91 h ag as_ cg cs (by omega) (by omega) fr to_ af at_ cf ct hlf hlt hfc htc H R w hw) ?_
  rintro e' w' ⟨v, H', R', ⟨rfl, hq⟩, he, hs'⟩
  obtain ⟨rfl, hq⟩ := hq
  rcases hq with ⟨h1, rfl⟩ | ⟨h1, s, _, h3, h4, rfl⟩
  · rcases hS9 with ⟨_, rfl⟩ | ⟨g1, _⟩
    · exact ⟨_, _, _, ⟨rfl, rfl, rfl⟩, he, hs'⟩
    · exact absurd g1 h1
  · rcases hS9 with ⟨g1, _⟩ | ⟨_, s9, rfl, g2, g3⟩
    · exact absurd h1 g1
    · have e : s9 = s := by
        rcases Nat.lt_trichotomy s9 s with h5 | h5 | h5
        · obtain ⟨n, hn⟩ := g2; exact absurd hn (h4 s9 h5 n)
        · exact h5
        · obtain ⟨n, hn⟩ := h3; exact absurd hn (g3 s h5 n)
      subst e
      exact ⟨_, _, _, ⟨by rw [h1], rfl, rfl⟩, he, hs'⟩
theorem ZdX (h : Hse) (ag as_ : Option Addr) (cg cs : Nat) (hlg : h.gaps.length ≤ 9223372036854775807) (hls : h.sights.length ≤ 9223372036854775807) (H : Z9) (R : Z6) :
    FnV Tryz.prog 9 [h.v (h.sg ag cg) (h.ss as_ cs)] H R (.bool (wdB h)) := by
 refine Zi Tryz.func9 rfl Tryz.ntmps9 rfl ?_
 refine sqt 2 rfl (bx rfl rfl rfl (fun b1 => pur 1 rfl (sqt 15 rfl (spL rfl rfl (lhA (htl h (h.sg ag cg) (h.ss as_ cs)) Z0F rfl rfl rfl) rfl ?_))))
 refine clV rfl Zfi rfl rfl (ZbH h ag as_ cg cs (by omega) (by omega) _ _) ?_
 refine pur 1 rfl ?_
 refine Zo 5 rfl ?_ ?_ <;> intro g5
 refine pur 5 rfl ?_
 repeat refine spU rfl rfl rfl rfl rfl rfl rfl ?_
 refine pur 3 rfl (Z5 ?_)
 exact rtA rfl rfl rfl ⟨congrArg Value.bool (show true = wdB h by unfold wdB; rw [g5]; rfl), rfl, rfl⟩ (fun w h9 => h9.del b1)
 refine spG rfl rfl rfl rfl (PE.fA Z06 rfl) rfl ?_
 refine Z0t rfl rfl rfl rfl rfl (lh Z3J rfl rfl) rfl ?_
 refine spG rfl rfl rfl rfl (PE.lenSl Z1X rfl) rfl ?_
 refine pur 2 rfl ?_
 refine Zo 10 rfl ?_ ?_ <;> intro g10
 refine spG rfl rfl rfl rfl (PE.fA Z06 rfl) rfl ?_
 refine Z0t rfl rfl rfl rfl rfl (lh Z3J rfl rfl) rfl ?_
 refine spG rfl rfl rfl rfl (PE.lenSl Z1X rfl) rfl ?_
 refine pur 4 rfl (Z5 ?_)
 exact rtA rfl rfl rfl ⟨congrArg Value.bool (show _ = wdB h by have := of_decide_eq_true g10; unfold wdB; rw [g5, dT (show 6 < h.gaps.length by omega), Bool.false_or, Bool.true_and]; exact decide_eq_decide.2 (by omega)), rfl, rfl⟩ (fun w h9 => h9.del b1)
 refine pur 7 rfl (Z5 ?_)
 exact rtA rfl rfl rfl ⟨congrArg Value.bool (show false = wdB h by have := of_decide_eq_false g10; unfold wdB; rw [g5, dF (show ¬ 6 < h.gaps.length by omega)]; rfl), rfl, rfl⟩ (fun w h9 => h9.del b1)
set_option maxHeartbeats 1000000 in
theorem Z42 (h : Hse) (ag as_ : Option Addr) (cg cs : Nat) (hlg : h.gaps.length ≤ 9223372036854775807) (hls : h.sights.length ≤ 9223372036854775807) (fr to_ : List Int) (af at_ : Option Addr) (cf ct : Nat) (hlf : fr.length ≤ 9223372036854775807) (hlt : to_.length ≤ 9223372036854775807) (hfc : fr.length ≤ cf) (htc : to_.length ≤ ct) (sq : Int) (pl : List PL) (ap : Option Addr) (cp : Nat) (hpl : pl.length ≤ 9223372036854775807) (hpi : ∀ x ∈ pl, x.l.length ≤ 9223372036854775807) (H : Z9) (R : Z6) [hG : MemRows ag 2 (Zd h.gaps) R] [hS : MemRows as_ 3 (Zf h.sights) R] [hF : MemRows af 1 (Z4 fr) R] [hT : MemRows at_ 1 (Z4 to_) R] [hP : MemRows ap 1 (Zh pl) R] [hI : MemF (Inn pl) R] :
    Fn Tryz.prog 3 [h.v (h.sg ag cg) (h.ss as_ cs), .slice af fr.length cf, .slice at_ to_.length ct, .int .i64 sq, .slice ap pl.length cp] H R (fun v H' R' => v = .bool true ∧ H' = H ∧ R' = R) := by
 refine Zi Tryz.func3 rfl Tryz.ntmps3 rfl ?_
 refine sqt 2 rfl (bx rfl rfl rfl (fun b5 => pur 1 rfl (Z0 (sqt 12 rfl (spL rfl rfl (lhA (htl h (h.sg ag cg) (h.ss as_ cs)) Z0F rfl rfl rfl) rfl ?_)))))
 refine clV rfl ZfJ rfl rfl (ZdX h ag as_ cg cs hlg hls _ _) ?_
 refine pur 1 rfl ?_
 refine Zo 34 rfl ?_ ?_ <;> intro g34
 refine pur 9 rfl ?_
 refine ZQ rfl ?_
 refine sqt 2 rfl ?_
 refine clV rfl Z7j rfl rfl (Z3c _ _) ?_
 refine pur 1 rfl (Z5 ?_)
 exact rtA rfl rfl rfl ⟨rfl, rfl, rfl⟩ (fun w h9 => St.sub (h9.del b5))
 refine pur 2 rfl ?_
 refine ZcO (out := [_, _]) rfl rfl rfl rfl Zdb Z9H rfl rfl rfl rfl rfl rfl (fun b37 => ?_)
 refine Sy.heap (fun w h9 => St.rows (sz := 1) (rows := Zh [⟨af, cf, fr⟩, ⟨at_, ct, to_⟩]) (rest := []) (h9.pull b37) (by simp [Zh, Z51])) ?_
 refine Z22 rfl rfl rfl rfl Zd8 rfl rfl (ZaC [⟨af, cf, fr⟩, ⟨at_, ct, to_⟩] (some ⟨b37, 0, none⟩) 2 (by simp) (by simp; omega) _ _) ?_
 refine pur 2 rfl ?_
 refine Zo 40 rfl ?_ ?_ <;> intro g40
 refine pur 3 rfl ?_
 refine ZQ rfl ?_
 refine sqt 2 rfl ?_
 refine clV rfl Z7j rfl rfl (Z3c _ _) ?_
 refine pur 1 rfl (Z5 ?_)
 exact rtA rfl rfl rfl ⟨rfl, rfl, rfl⟩ (fun w h9 => St.sub (h9.del b5))
 refine Sy.heap (fun w h9 => h9.ftail) ?_
 refine pur 1 rfl ?_
 refine Z22 rfl rfl rfl rfl Zd8 rfl rfl (ZaC pl ap cp hpl hpi _ _) ?_
 refine pur 1 rfl ?_
 refine Z1 rfl ?_ ?_ <;> intro hc0
 refine sqt 2 rfl ?_
 refine clV rfl Z7j rfl rfl (Z3c _ _) ?_
 refine pur 1 rfl (Z5 ?_)
 exact rtA rfl rfl rfl ⟨rfl, rfl, rfl⟩ (fun w h9 => St.sub (h9.del b5))
 have hsm : h.gaps.length ≤ 14 ∧ h.sights.length ≤ 12 := by
   unfold wdB Zc7 at g34
   rw [Bool.or_eq_false_iff, Bool.or_eq_false_iff] at g34
   have := of_decide_eq_false g34.1.1; have := of_decide_eq_false g34.1.2; omega
 obtain ⟨hsg14, hss12⟩ := hsm
 obtain ⟨hx2, _⟩ := ZaX g40
 have hfs : fr.length ≤ 14 := hx2 fr (by simp [lls])
 have hts : to_.length ≤ 14 := hx2 to_ (by simp [lls])
 obtain ⟨hpx, hpm⟩ := ZaX hc0
 have hll := ZR pl
 have hpf := Zaq hpx
 have hpi9 : ∀ x ∈ pl, x.l.length ≤ 14 := fun x hx => hpx x.l (List.mem_map.2 ⟨x, hx, rfl⟩)
 refine Z2 (Z0 ?_)
 refine Zc1 [0, 1, 0, 7, 0, 0, 63, 127] [0, 1, 2, 3, 4, 5, 6, 7] ZC (by kernel_rfl) rfl (fun s L H1 R1 => ∃ (oa : Option Addr) (ob : Option Addr) (oc : Nat) (od : Nat) (xa : Option Addr) (xb : Option Addr) (xc : Nat) (xd : Nat) (b11 : Nat) (x11 : List Value) (b12 : Nat) (x12 : List Value), Sub [(1, .slice af fr.length cf), (2, .slice at_ to_.length ct), (3, .int .i64 sq), (4, .slice ap pl.length cp), (5, .pointer (some ⟨b5, 0, none⟩))] L ∧ (∀ f ∈ (R : Z6), f ∈ R1) ∧ (s 0 = true → lk L 45 = some (h.v (h.sg ag cg) (h.ss as_ cs))) ∧ (s 1 = true → lk L 46 = some (h.v (h.sg oa oc) (h.ss ob od)) ∧ (RowsA ob 3 (Zf h.sights)) ∈ R1 ∧ (RowsA oa 2 (Zd h.gaps)) ∈ R1) ∧ (s 2 = true → lk L 47 = some (h.v (h.sg ag cg) (h.ss as_ cs))) ∧ (s 3 = true → lk L 48 = some (h.v (h.sg xa xc) (h.ss xb xd)) ∧ (RowsA xb 3 (Zf h.sights)) ∈ R1 ∧ (RowsA xa 2 (Zd h.gaps)) ∈ R1) ∧ (s 4 = true → lk L 11 = some (.pointer (some ⟨b11, 0, none⟩)) ∧ (s 6 = false → x11 = [.int .i64 0, .slice none 0 0, .slice none 0 0])) ∧ (s 5 = true → lk L 12 = some (.pointer (some ⟨b12, 0, none⟩)) ∧ (s 7 = false → x12 = [.int .i64 0, .slice none 0 0, .slice none 0 0])) ∧ (s 6 = true → x11 = htl h (h.sg oa oc) (h.ss ob od)) ∧ (s 7 = true → x12 = htl h (h.sg xa xc) (h.ss xb xd)) ∧ ∀ w, St H1 R1 w → St ((bif s 5 then [(b12, cel 35 x12)] else []) ++ ((bif s 4 then [(b11, cel 25 x11)] else []) ++ ((b5, cel 25 (htl h (h.sg ag cg) (h.ss as_ cs))) :: H))) R1 w) ?_ ?_ ?_
 exact ⟨none, none, 0, 0, none, none, 0, 0, 0, [], 0, [], (by repeat' first | exact Sub.nil | apply Sub.cons | rfl | (simp [lk]; omega)), fun _ hf => hf, ff, ff, ff, ff, ff, ff, ff, ff, fun w y9 => y9⟩
 refine ⟨?_, ?_, ?_, ?_, ?_, ?_, ?_, ?_, trivial⟩
 intro s Lz Hz Rz hdn hs hpre hI K hK
 obtain ⟨oa, ob, oc, od, xa, xb, xc, xd, b11, x11, b12, x12, hL0, hR0, q0, q1, q2, q3, q4, q5, q6, q7, hH⟩ := hI
 refine Sy.heap hH ?_
 refine spL rfl (Sub.lk hL0 _ _ rfl) ((lhA (htl h (h.sg ag cg) (h.ss as_ cs)) Z0F rfl rfl rfl)) rfl ?_
 exact hK _ _ _ ⟨oa, ob, oc, od, xa, xb, xc, xd, b11, x11, b12, x12, Z18 rfl hL0, hR0, fun _ => Z2i, lm2 q1, lm1 q2, lm2 q3, lm2 q4, lm2 q5, q6, q7, fun w y9 => y9⟩
 intro s Lz Hz Rz hdn hs hpre hI K hK
 obtain ⟨oa, ob, oc, od, xa, xb, xc, xd, b11, x11, b12, x12, hL0, hR0, q0, q1, q2, q3, q4, q5, q6, q7, hH⟩ := hI
 have h0 : s 0 = true := hpre 0 rfl
 refine Sy.heap hH ?_
 haveI m0 : MemRows ag 2 (Zd h.gaps) Rz := ⟨hR0 _ (inferInstance : MemRows ag 2 (Zd h.gaps) (R)).mem⟩
 haveI m1 : MemRows as_ 3 (Zf h.sights) Rz := ⟨hR0 _ (inferInstance : MemRows as_ 3 (Zf h.sights) (R)).mem⟩
 refine cl rfl ZeZ rfl (by simp only [evs, show ev Lz (.tmp 45) = _ from (q0 h0)]) (Ze9 h ag as_ cg cs (by omega) (by omega) _ _) ?_
 rintro _ _ R1 ⟨oa, ob, oc, od, rfl, rfl, hR1⟩
 obtain rfl := hR1.symm
 clear hR1
 exact hK _ _ _ ⟨oa, ob, oc, od, xa, xb, xc, xd, b11, x11, b12, x12, Z18 rfl hL0, Z2V (Z2V (hR0)), fun h => Z0d rfl (q0 h), fun _ => ⟨Z2i, (by simp), (by simp)⟩, fun h => Z0d rfl (q2 h), fun h => ⟨Z0d rfl (q3 h).1, List.mem_cons_of_mem _ (List.mem_cons_of_mem _ ((q3 h).2.1)), List.mem_cons_of_mem _ (List.mem_cons_of_mem _ ((q3 h).2.2))⟩, fun h => ⟨Z0d rfl (q4 h).1, (q4 h).2⟩, fun h => ⟨Z0d rfl (q5 h).1, (q5 h).2⟩, nof hdn hs 6, q7, fun w y9 => y9⟩
 intro s Lz Hz Rz hdn hs hpre hI K hK
 obtain ⟨oa, ob, oc, od, xa, xb, xc, xd, b11, x11, b12, x12, hL0, hR0, q0, q1, q2, q3, q4, q5, q6, q7, hH⟩ := hI
 refine Sy.heap hH ?_
 refine spL rfl (Sub.lk hL0 _ _ rfl) ((lhA (htl h (h.sg ag cg) (h.ss as_ cs)) Z0F rfl rfl rfl)) rfl ?_
 exact hK _ _ _ ⟨oa, ob, oc, od, xa, xb, xc, xd, b11, x11, b12, x12, Z18 rfl hL0, hR0, lm1 q0, lm2 q1, fun _ => Z2i, lm2 q3, lm2 q4, lm2 q5, q6, q7, fun w y9 => y9⟩
 intro s Lz Hz Rz hdn hs hpre hI K hK
 obtain ⟨oa, ob, oc, od, xa, xb, xc, xd, b11, x11, b12, x12, hL0, hR0, q0, q1, q2, q3, q4, q5, q6, q7, hH⟩ := hI
 obtain ⟨h0, h1, h2⟩ : s 0 = true ∧ s 1 = true ∧ s 2 = true := ⟨hpre 0 rfl, hpre 1 rfl, hpre 2 rfl⟩
 refine Sy.heap hH ?_
 haveI m0 : MemRows ag 2 (Zd h.gaps) Rz := ⟨hR0 _ (inferInstance : MemRows ag 2 (Zd h.gaps) (R)).mem⟩
 haveI m1 : MemRows as_ 3 (Zf h.sights) Rz := ⟨hR0 _ (inferInstance : MemRows as_ 3 (Zf h.sights) (R)).mem⟩
 refine cl rfl ZeU rfl (by simp only [evs, show ev Lz (.tmp 47) = _ from (q2 h2)]) (Z9b h ag as_ cg cs (by omega) (by omega) _ _) ?_
 rintro _ _ R1 ⟨xa, xb, xc, xd, rfl, rfl, hR1⟩
 obtain rfl := hR1.symm
 clear hR1
 exact hK _ _ _ ⟨oa, ob, oc, od, xa, xb, xc, xd, b11, x11, b12, x12, Z18 rfl hL0, Z2V (Z2V (hR0)), fun h => Z0d rfl (q0 h), fun h => ⟨Z0d rfl (q1 h).1, List.mem_cons_of_mem _ (List.mem_cons_of_mem _ ((q1 h).2.1)), List.mem_cons_of_mem _ (List.mem_cons_of_mem _ ((q1 h).2.2))⟩, fun h => Z0d rfl (q2 h), fun _ => ⟨Z2i, (by simp), (by simp)⟩, fun h => ⟨Z0d rfl (q4 h).1, (q4 h).2⟩, fun h => ⟨Z0d rfl (q5 h).1, (q5 h).2⟩, q6, nof hdn hs 7, fun w y9 => y9⟩
 intro s Lz Hz Rz hdn hs hpre hI K hK
 obtain ⟨oa, ob, oc, od, xa, xb, xc, xd, b11, x11, b12, x12, hL0, hR0, q0, q1, q2, q3, q4, q5, q6, q7, hH⟩ := hI
 refine Sy.heap hH ?_
 refine alc rfl Zda rfl (fun b11 => ?_)
 exact hK _ _ _ ⟨oa, ob, oc, od, xa, xb, xc, xd, b11, [.int .i64 0, .slice none 0 0, .slice none 0 0], b12, x12, Z18 rfl hL0, hR0, lm1 q0, lm2 q1, lm1 q2, lm2 q3, fun _ => ⟨Z2i, fun _ => rfl⟩, lm2 q5, nof hdn hs 6, q7, fun w y9 => by rw [hs] at y9; exact y9.perm (List.perm_middle.symm.trans (List.Perm.append_left _ (.refl _)))⟩
 intro s Lz Hz Rz hdn hs hpre hI K hK
 obtain ⟨oa, ob, oc, od, xa, xb, xc, xd, b11, x11, b12, x12, hL0, hR0, q0, q1, q2, q3, q4, q5, q6, q7, hH⟩ := hI
 refine Sy.heap hH ?_
 refine alc rfl ZeA rfl (fun b12 => ?_)
 exact hK _ _ _ ⟨oa, ob, oc, od, xa, xb, xc, xd, b11, x11, b12, [.int .i64 0, .slice none 0 0, .slice none 0 0], Z18 rfl hL0, hR0, lm1 q0, lm2 q1, lm1 q2, lm2 q3, lm2 q4, fun _ => ⟨Z2i, fun _ => rfl⟩, q6, nof hdn hs 7, fun w y9 => by rw [hs] at y9; exact y9.perm (.refl _)⟩
 intro s Lz Hz Rz hdn hs hpre hI K hK
 obtain ⟨oa, ob, oc, od, xa, xb, xc, xd, b11, x11, b12, x12, hL0, hR0, q0, q1, q2, q3, q4, q5, q6, q7, hH⟩ := hI
 obtain ⟨h0, h1, h2, h3, h4, h5⟩ : s 0 = true ∧ s 1 = true ∧ s 2 = true ∧ s 3 = true ∧ s 4 = true ∧ s 5 = true := ⟨hpre 0 rfl, hpre 1 rfl, hpre 2 rfl, hpre 3 rfl, hpre 4 rfl, hpre 5 rfl⟩
 refine Sy.heap hH ?_
 obtain rfl := (q4 h4).2 hs
 refine Sy.heap (H' := (bif s 5 then [(b12, cel 35 x12)] else []) ++ ((b11, cel 25 [.int .i64 0, .slice none 0 0, .slice none 0 0]) :: ((b5, cel 25 (htl h (h.sg ag cg) (h.ss as_ cs))) :: H))) (fun w y9 => by rw [h4] at y9; exact y9) ?_
 refine ZS (l' := htl h (h.sg oa oc) (h.ss ob od)) rfl (q4 h4).1 (q1 h1).1 Zfq rfl rfl rfl rfl (Nat.le_refl _) ?_
 exact hK _ _ _ ⟨oa, ob, oc, od, xa, xb, xc, xd, b11, htl h (h.sg oa oc) (h.ss ob od), b12, x12, hL0, hR0, q0, q1, q2, q3, fun h => ⟨(q4 h).1, fun h => by cases (show true = false from h)⟩, q5, fun _ => rfl, q7, fun w y9 => by show St ((bif s 5 then [(b12, cel 35 x12)] else []) ++ ((bif s 4 then [(b11, cel 25 (htl h (h.sg oa oc) (h.ss ob od)))] else []) ++ ((b5, cel 25 (htl h (h.sg ag cg) (h.ss as_ cs))) :: H))) Rz w; rw [h4]; exact y9⟩
 intro s Lz Hz Rz hdn hs hpre hI K hK
 obtain ⟨oa, ob, oc, od, xa, xb, xc, xd, b11, x11, b12, x12, hL0, hR0, q0, q1, q2, q3, q4, q5, q6, q7, hH⟩ := hI
 obtain ⟨h0, h1, h2, h3, h4, h5, h6⟩ : s 0 = true ∧ s 1 = true ∧ s 2 = true ∧ s 3 = true ∧ s 4 = true ∧ s 5 = true ∧ s 6 = true := ⟨hpre 0 rfl, hpre 1 rfl, hpre 2 rfl, hpre 3 rfl, hpre 4 rfl, hpre 5 rfl, hpre 6 rfl⟩
 refine Sy.heap hH ?_
 obtain rfl := (q5 h5).2 hs
 refine Sy.heap (H' := (b12, cel 35 [.int .i64 0, .slice none 0 0, .slice none 0 0]) :: ((bif s 4 then [(b11, cel 25 x11)] else []) ++ ((b5, cel 25 (htl h (h.sg ag cg) (h.ss as_ cs))) :: H))) (fun w y9 => by rw [h5] at y9; exact y9) ?_
 refine ZS (l' := htl h (h.sg xa xc) (h.ss xb xd)) rfl (q5 h5).1 (q3 h3).1 Zfh rfl rfl rfl rfl (Nat.le_refl _) ?_
 exact hK _ _ _ ⟨oa, ob, oc, od, xa, xb, xc, xd, b11, x11, b12, htl h (h.sg xa xc) (h.ss xb xd), hL0, hR0, q0, q1, q2, q3, q4, fun h => ⟨(q5 h).1, fun h => by cases (show true = false from h)⟩, q6, fun _ => rfl, fun w y9 => by show St ((bif s 5 then [(b12, cel 35 (htl h (h.sg xa xc) (h.ss xb xd)))] else []) ++ ((bif s 4 then [(b11, cel 25 x11)] else []) ++ ((b5, cel 25 (htl h (h.sg ag cg) (h.ss as_ cs))) :: H))) Rz w; rw [h5]; exact y9⟩
 intro Lz Hz Rz hI
 obtain ⟨oa, ob, oc, od, xa, xb, xc, xd, b11, x11, b12, x12, hL0, hR0, q0, q1, q2, q3, q4, q5, q6, q7, hH⟩ := hI
 obtain rfl := q7 rfl
 obtain rfl := q6 rfl
 refine Sy.weak (L' := [(12, .pointer (some ⟨b12, 0, none⟩)), (11, .pointer (some ⟨b11, 0, none⟩)), (1, .slice af fr.length cf), (2, .slice at_ to_.length ct), (3, .int .i64 sq), (4, .slice ap pl.length cp), (5, .pointer (some ⟨b5, 0, none⟩))]) (H' := (b12, cel 35 (htl h (h.sg xa xc) (h.ss xb xd))) :: (b11, cel 25 (htl h (h.sg oa oc) (h.ss ob od))) :: (b5, cel 25 (htl h (h.sg ag cg) (h.ss as_ cs))) :: H) (R' := RowsA xb 3 (Zf h.sights) :: RowsA xa 2 (Zd h.gaps) :: RowsA ob 3 (Zf h.sights) :: RowsA oa 2 (Zd h.gaps) :: R) ?_ (Sub.cons (q5 rfl).1 (Sub.cons (q4 rfl).1 hL0)).lk (fun w h => St.facts (hH w h) (Z2Q (q3 rfl).2.1 (Z2Q (q3 rfl).2.2 (Z2Q (q1 rfl).2.1 (Z2Q (q1 rfl).2.2 hR0)))))
 refine sqt 9 rfl (pur 1 rfl ?_)
 refine cl rfl Zcq rfl rfl (Zau fr af cf (by omega) _ _) ?_
 rintro _ _ R1 ⟨la, lc, hlc, rfl, rfl, hR1⟩
 obtain rfl := hR1.symm
 clear hR1
 refine pur 1 rfl ?_
 refine cl rfl Zcq rfl rfl (Zau to_ at_ ct (by omega) _ _) ?_
 rintro _ _ R1 ⟨ka, kc, hkc, rfl, rfl, hR1⟩
 obtain rfl := hR1.symm
 clear hR1
 refine pur 1 rfl ?_
 refine cl rfl ZeK rfl rfl (Z7o pl ap cp (by omega) (fun x hx => by have := hpi9 x hx; omega) _ _) ?_
 rintro _ _ R1 ⟨ql, qa, qc, hqe, rfl, rfl, hR1⟩
 obtain rfl := hR1.symm
 clear hR1
 have hqi : ∀ x ∈ ql, x.l.length ≤ 1000000 := fun x hx => by
   have h1 : x.l ∈ lls pl := hqe ▸ List.mem_map.2 ⟨x, hx, rfl⟩
   have := hpx x.l h1; omega
 have hql : ql.length = pl.length := by have := congrArg List.length hqe; rwa [ZR, ZR] at this
 refine pur 3 rfl (sqt 3 rfl (spL rfl rfl (lhA (htl h (h.sg xa xc) (h.ss xb xd)) Z5a rfl rfl rfl) rfl ?_))
 refine clV rfl Zf4 rfl rfl (Z9G h xa xb xc xd (by omega) (by omega) _ _) ?_
 refine pur 1 rfl (Z0 (sqt 2 rfl (pur 2 rfl ?_)))
 refine Z0c (ι := Unit) (fun _ => ⟨[(1, .slice af fr.length cf), (2, .slice at_ to_.length ct), (3, .int .i64 sq), (4, .slice ap pl.length cp), (5, .pointer (some ⟨b5, 0, none⟩)), (11, .pointer (some ⟨b11, 0, none⟩)), (12, .pointer (some ⟨b12, 0, none⟩)), (13, .slice la fr.length lc), (14, .slice ka to_.length kc), (15, .slice qa ql.length qc), (16, .int .i64 (h.botE fr to_))], (b12, cel 35 (htl h (h.sg xa xc) (h.ss xb xd))) :: (b11, cel 25 (htl h (h.sg oa oc) (h.ss ob od))) :: (b5, cel 25 (htl h (h.sg ag cg) (h.ss as_ cs))) :: H, RowsA qa 1 (Zh ql) :: Inn ql :: RowsA ka 1 (Z4 to_) :: RowsA la 1 (Z4 fr) :: RowsA xb 3 (Zf h.sights) :: RowsA xa 2 (Zd h.gaps) :: RowsA ob 3 (Zf h.sights) :: RowsA oa 2 (Zd h.gaps) :: R⟩) ?_ ?_
 refine Z1 rfl ?_ ?_ <;> intro hc1 <;> try simp only [cS] at hc1
 have hok := hse_ok.1 hc1
 refine sqr 5 rfl (spL rfl rfl (lhA (htl h (h.sg xa xc) (h.ss xb xd)) Z5a rfl rfl rfl) rfl (pur 2 rfl ?_))
 refine clV rfl Zfb rfl rfl (Zce h xa xb xc xd hok fr to_ af at_ cf ct (by omega) (by omega) hfc htc _ _) ?_
 refine pur 1 rfl ?_
 exact Zq () idH
 have hbe : h.botE fr to_ = h.check := by unfold Hse.botE; rw [dT hc1]; rfl
 refine Z2 ?_
 exact Z1n () (by rw [hbe]; exact (by repeat' first | exact Sub.nil | apply Sub.cons | rfl | (simp [lk]; omega))) idH
 rintro ⟨⟩
 dsimp only
 refine sqt 7 rfl (pur 7 rfl (Z0 (sqt 2 rfl (pur 2 rfl ?_))))
 refine Z0c (ι := {y : Int × Int × Int // SvU h fr to_ sq y.1 y.2.1 ∧ SvS h fr to_ y.2.2}) (fun y => ⟨[(1, .slice af fr.length cf), (2, .slice at_ to_.length ct), (3, .int .i64 sq), (4, .slice ap pl.length cp), (5, .pointer (some ⟨b5, 0, none⟩)), (11, .pointer (some ⟨b11, 0, none⟩)), (12, .pointer (some ⟨b12, 0, none⟩)), (13, .slice la fr.length lc), (14, .slice ka to_.length kc), (15, .slice qa ql.length qc), (16, .int .i64 (h.botE fr to_)), (17, .int .i64 (y.1.1)), (18, .int .i64 (h.svR fr to_ sq (lls pl)).2), (19, .bool (h.svR fr to_ sq (lls pl)).1), (20, .int .i64 (y.1.2.1)), (21, .int .i64 (y.1.2.2))], (b12, cel 35 (htl h (h.sg xa xc) (h.ss xb xd))) :: (b11, cel 25 (htl h (h.sg oa oc) (h.ss ob od))) :: (b5, cel 25 (htl h (h.sg ag cg) (h.ss as_ cs))) :: H, RowsA qa 1 (Zh ql) :: Inn ql :: RowsA ka 1 (Z4 to_) :: RowsA la 1 (Z4 fr) :: RowsA xb 3 (Zf h.sights) :: RowsA xa 2 (Zd h.gaps) :: RowsA ob 3 (Zf h.sights) :: RowsA oa 2 (Zd h.gaps) :: R⟩) ?_ ?_
 refine Z1 rfl ?_ ?_ <;> intro hc2 <;> try simp only [cS] at hc2
 have hb := Z1N hc2
 have hok := hb.ok
 obtain ⟨q1, q2, q3, q4, q5, q6⟩ := Z0i hb
 have hgl := hok.gl
 have hbn := hok.bins
 have hlm : Lm fr (msk fr) := Lm.of (n := h.bins) (by omega) hb.el
 have hm0 : msk [] = 0 := rfl
 refine Sy.heap (fun w h9 => St.norows (sz := 1) h9) ?_
 refine Z0 (sqt 2 rfl (pur 2 rfl (sqt 6 rfl (pur 3 rfl ?_))))
 refine Zo 69 rfl ?_ ?_ <;> intro g69
 try simp only [cS] at g69
 refine pur 3 rfl ?_
 refine Z0c (ι := {y : Int × Int // SvU h fr to_ sq y.1 y.2}) (fun y => ⟨[(1, .slice af fr.length cf), (2, .slice at_ to_.length ct), (3, .int .i64 sq), (4, .slice ap pl.length cp), (5, .pointer (some ⟨b5, 0, none⟩)), (11, .pointer (some ⟨b11, 0, none⟩)), (12, .pointer (some ⟨b12, 0, none⟩)), (13, .slice la fr.length lc), (14, .slice ka to_.length kc), (15, .slice qa ql.length qc), (16, .int .i64 (h.botE fr to_)), (17, .int .i64 (y.1.1)), (18, .int .i64 (h.svR fr to_ sq (lls pl)).2), (19, .bool (h.svR fr to_ sq (lls pl)).1), (20, .int .i64 (y.1.2)), (21, .int .i64 (0))], (b12, cel 35 (htl h (h.sg xa xc) (h.ss xb xd))) :: (b11, cel 25 (htl h (h.sg oa oc) (h.ss ob od))) :: (b5, cel 25 (htl h (h.sg ag cg) (h.ss as_ cs))) :: H, RowsA none 1 (Z4 []) :: RowsA qa 1 (Zh ql) :: Inn ql :: RowsA ka 1 (Z4 to_) :: RowsA la 1 (Z4 fr) :: RowsA xb 3 (Zf h.sights) :: RowsA xa 2 (Zd h.gaps) :: RowsA ob 3 (Zf h.sights) :: RowsA oa 2 (Zd h.gaps) :: R⟩) ?_ ?_
 refine Z1 rfl ?_ ?_ <;> intro hc3 <;> try simp only [cS] at hc3
 obtain ⟨spd, rfl⟩ : ∃ n : Nat, sq = n := ⟨sq.toNat, by omega⟩
 have hrc := Z7N hc2 (show spd ≤ 10 by omega)
 have hsp := Zcd (pl := lls pl) hrc
 refine sqt 1 rfl (pur 1 rfl (Z0 (sqt 6 rfl (spL rfl rfl (lhA (htl h (h.sg xa xc) (h.ss xb xd)) Z5a rfl rfl rfl) rfl (pur 3 rfl ?_)))))
 refine cl rfl Z9F rfl rfl (Z5Q h xa xb xc xd hok to_ at_ ct q2 (by omega) spd (by omega) 7 fr [] af none cf 0 (msk fr) 0 _ _ hlm (fun x hx => by cases hx) List.nodup_nil (by omega) (by omega)) ?_
 rintro _ _ R1 ⟨⟨x, hx, rfl⟩, rfl, hR1⟩
 obtain rfl := hR1.symm
 clear hR1
 rw [hm0] at hx
 obtain ⟨hu1, hu2⟩ := ZfX hrc hx
 refine pur 1 rfl (sqt 2 rfl (pur 2 rfl ?_))
 refine Z0c (ι := {y : Int × Int // SvU h fr to_ (spd : Int) y.1 y.2}) (fun y => ⟨[(1, .slice af fr.length cf), (2, .slice at_ to_.length ct), (3, .int .i64 (spd : Int)), (4, .slice ap pl.length cp), (5, .pointer (some ⟨b5, 0, none⟩)), (11, .pointer (some ⟨b11, 0, none⟩)), (12, .pointer (some ⟨b12, 0, none⟩)), (13, .slice la fr.length lc), (14, .slice ka to_.length kc), (15, .slice qa ql.length qc), (16, .int .i64 (h.botE fr to_)), (17, .int .i64 y.1.1), (19, .bool false), (20, .int .i64 y.1.2), (21, .int .i64 0)], (b12, cel 35 (htl h (h.sg xa xc) (h.ss xb xd))) :: (b11, cel 25 (htl h (h.sg oa oc) (h.ss ob od))) :: (b5, cel 25 (htl h (h.sg ag cg) (h.ss as_ cs))) :: H, RowsA none 1 (Z4 []) :: RowsA qa 1 (Zh ql) :: Inn ql :: RowsA ka 1 (Z4 to_) :: RowsA la 1 (Z4 fr) :: RowsA xb 3 (Zf h.sights) :: RowsA xa 2 (Zd h.gaps) :: RowsA ob 3 (Zf h.sights) :: RowsA oa 2 (Zd h.gaps) :: R⟩) ?_ ?_
 refine Z1 rfl ?_ ?_ <;> intro hc4 <;> try simp only [cS] at hc4
 refine sqr 2 rfl (pur 2 rfl ?_)
 exact Zq ⟨(6, 0), hu1 hc4⟩ idH
 refine Z2 ?_
 exact Zq ⟨(0, x), hu2 (by omega)⟩ idH
 rintro ⟨⟨u, lst⟩, hU⟩
 dsimp only at hU ⊢
 refine sqt 5 rfl (spL rfl rfl (lhA (htl h (h.sg xa xc) (h.ss xb xd)) Z5a rfl rfl rfl) rfl (pur 2 rfl ?_))
 refine clV rfl Zbb rfl rfl (Z2n h xa xb xc xd (by omega) (spd : Int) pl ap cp (by omega) (by omega) _ _) ?_
 refine pur 1 rfl (sqt 2 rfl (pur 2 rfl ?_))
 refine Z1 rfl ?_ ?_ <;> intro hc5 <;> try simp only [cS] at hc5
 have hpz := Z8N hc5
 have hsv : h.svR fr to_ (spd : Int) (lls pl) = (h.svB fr to_ (lls pl), 0) := ZaF (hsp.trans hc5)
 refine sqr 6 rfl (spL rfl rfl (lhA (htl h (h.sg xa xc) (h.ss xb xd)) Z5a rfl rfl rfl) rfl (pur 3 rfl ?_))
 refine clV rfl Zc9 rfl rfl (Z4t h xa xb xc xd hok fr to_ af at_ cf ct (by omega) (by omega) hfc htc hc2 pl ap cp (by have := hpz.1; omega) (by omega) hpz.2 _ _) ?_
 refine pur 1 rfl ?_
 exact Z1n ⟨(u, lst), hU⟩ (by dsimp only; rw [hsv, hc5]; exact (by repeat' first | exact Sub.nil | apply Sub.cons | rfl | (simp [lk]; omega))) idH
 have hsv : h.svR fr to_ (spd : Int) (lls pl) = (false, Z76 h.gaps.length (spd : Int) (lls pl)) := Z2x hsp hc5
 refine Z2 ?_
 exact Z1n ⟨(u, lst), hU⟩ (by dsimp only; rw [hsv]; exact (by repeat' first | exact Sub.nil | apply Sub.cons | rfl | (simp [lk]; omega))) idH
 have hrc := ZaS (sp := sq) hc2 (by omega)
 have hsr := ZbO (pl := lls pl) (show h.rcE fr to_ sq ≠ 0 by rw [hrc]; decide)
 refine Z2 ?_
 exact Z1n ⟨(3, 0), .inl ⟨by rw [hrc]; decide, hrc.symm, rfl⟩⟩ (by dsimp only; rw [hsr, hrc]; exact (by repeat' first | exact Sub.nil | apply Sub.cons | rfl | (simp [lk]; omega))) idH
 rintro ⟨⟨u, lst⟩, hU⟩
 dsimp only at hU ⊢
 refine Z3 ?_
 obtain ⟨np, hnp⟩ := Z4l hb
 refine Ze (ι := {s : Nat // s ≤ 10 ∧ ∀ s', s' < s → ∀ n, ¬ Pl h.gaps (msk to_) s' (msk fr) 0 n}) (fun s => ⟨[(1, .slice af fr.length cf), (2, .slice at_ to_.length ct), (3, .int .i64 sq), (4, .slice ap pl.length cp), (5, .pointer (some ⟨b5, 0, none⟩)), (11, .pointer (some ⟨b11, 0, none⟩)), (12, .pointer (some ⟨b12, 0, none⟩)), (13, .slice la fr.length lc), (14, .slice ka to_.length kc), (15, .slice qa ql.length qc), (16, .int .i64 (h.botE fr to_)), (17, .int .i64 (u)), (18, .int .i64 (h.svR fr to_ sq (lls pl)).2), (19, .bool (h.svR fr to_ sq (lls pl)).1), (20, .int .i64 (lst)), (21, .int .i64 ((s.1 : Int)))], (b12, cel 35 (htl h (h.sg xa xc) (h.ss xb xd))) :: (b11, cel 25 (htl h (h.sg oa oc) (h.ss ob od))) :: (b5, cel 25 (htl h (h.sg ag cg) (h.ss as_ cs))) :: H, RowsA none 1 (Z4 []) :: RowsA qa 1 (Zh ql) :: Inn ql :: RowsA ka 1 (Z4 to_) :: RowsA la 1 (Z4 fr) :: RowsA xb 3 (Zf h.sights) :: RowsA xa 2 (Zd h.gaps) :: RowsA ob 3 (Zf h.sights) :: RowsA oa 2 (Zd h.gaps) :: R⟩) (fun s => 11 - s.1) ⟨0, Nat.zero_le _, fun s' h9 => absurd h9 (Nat.not_lt_zero _)⟩ ?_ (fun s => ?_)
 exact Zk idH
 obtain ⟨s, hs, hno⟩ := s
 dsimp only at hs hno ⊢
 refine Z0 (sqt 6 rfl (spL rfl rfl (lhA (htl h (h.sg xa xc) (h.ss xb xd)) Z5a rfl rfl rfl) rfl (pur 3 rfl ?_)))
 refine cl rfl Z9F rfl rfl (Z5Q h xa xb xc xd hok to_ at_ ct q2 (by omega) s (by omega) 7 fr [] af none cf 0 (msk fr) 0 _ _ hlm (fun x hx => by cases hx) List.nodup_nil (by omega) (by omega)) ?_
 rintro _ _ R1 ⟨⟨x, hx, rfl⟩, rfl, hR1⟩
 obtain rfl := hR1.symm
 clear hR1
 rw [hm0] at hx
 refine pur 1 rfl ?_
 refine Z1 rfl ?_ ?_ <;> intro hc6 <;> try simp only [cS] at hc6
 have hno2 : ∀ n, ¬ Pl h.gaps (msk to_) s (msk fr) 0 n := by
   rcases hx with ⟨n', h4, h5⟩ | ⟨h4, _⟩
   · omega
   · exact h4
 have hs10 : s ≠ 10 := fun e => hno2 np (by rw [e]; exact hnp)
 refine Z2 (Z3 (sqr 3 rfl (pur 1 rfl (sp rfl (PE.add rfl rfl (by omega)) rfl (pur 1 rfl ?_)))))
 exact Za ⟨s + 1, by omega, fun s' h9 => (Nat.lt_succ_iff_lt_or_eq.1 h9).elim (hno s') (fun e => by subst e; exact hno2)⟩ idH
 have hex : ∃ n, Pl h.gaps (msk to_) s (msk fr) 0 n := by
   rcases hx with ⟨n', h4, _⟩ | ⟨_, h4⟩
   · exact ⟨n', h4.1⟩
   · omega
 refine Z7 (Z8 (Z8 (Zl ?_)))
 exact Zq ⟨(u, lst, (s : Int)), hU, .inr ⟨hc2, s, rfl, hex, hno⟩⟩ (fun w h9 => h9.ftail)
 try simp only [cS] at g69
 have hrc := ZaS (sp := sq) hc2 (by omega)
 have hsr := ZbO (pl := lls pl) (show h.rcE fr to_ sq ≠ 0 by rw [hrc]; decide)
 refine pur 3 rfl ?_
 refine Z0c (ι := {y : Int × Int // SvU h fr to_ sq y.1 y.2}) (fun y => ⟨[(1, .slice af fr.length cf), (2, .slice at_ to_.length ct), (3, .int .i64 sq), (4, .slice ap pl.length cp), (5, .pointer (some ⟨b5, 0, none⟩)), (11, .pointer (some ⟨b11, 0, none⟩)), (12, .pointer (some ⟨b12, 0, none⟩)), (13, .slice la fr.length lc), (14, .slice ka to_.length kc), (15, .slice qa ql.length qc), (16, .int .i64 (h.botE fr to_)), (17, .int .i64 (y.1.1)), (18, .int .i64 (h.svR fr to_ sq (lls pl)).2), (19, .bool (h.svR fr to_ sq (lls pl)).1), (20, .int .i64 (y.1.2)), (21, .int .i64 (0))], (b12, cel 35 (htl h (h.sg xa xc) (h.ss xb xd))) :: (b11, cel 25 (htl h (h.sg oa oc) (h.ss ob od))) :: (b5, cel 25 (htl h (h.sg ag cg) (h.ss as_ cs))) :: H, RowsA none 1 (Z4 []) :: RowsA qa 1 (Zh ql) :: Inn ql :: RowsA ka 1 (Z4 to_) :: RowsA la 1 (Z4 fr) :: RowsA xb 3 (Zf h.sights) :: RowsA xa 2 (Zd h.gaps) :: RowsA ob 3 (Zf h.sights) :: RowsA oa 2 (Zd h.gaps) :: R⟩) ?_ ?_
 refine Zz rfl ?_
 refine Z2 ?_
 exact Z1n ⟨(3, 0), .inl ⟨by rw [hrc]; decide, hrc.symm, rfl⟩⟩ (by dsimp only; rw [hsr, hrc]; exact (by repeat' first | exact Sub.nil | apply Sub.cons | rfl | (simp [lk]; omega))) idH
 rintro ⟨⟨u, lst⟩, hU⟩
 dsimp only at hU ⊢
 refine Z3 ?_
 obtain ⟨np, hnp⟩ := Z4l hb
 refine Ze (ι := {s : Nat // s ≤ 10 ∧ ∀ s', s' < s → ∀ n, ¬ Pl h.gaps (msk to_) s' (msk fr) 0 n}) (fun s => ⟨[(1, .slice af fr.length cf), (2, .slice at_ to_.length ct), (3, .int .i64 sq), (4, .slice ap pl.length cp), (5, .pointer (some ⟨b5, 0, none⟩)), (11, .pointer (some ⟨b11, 0, none⟩)), (12, .pointer (some ⟨b12, 0, none⟩)), (13, .slice la fr.length lc), (14, .slice ka to_.length kc), (15, .slice qa ql.length qc), (16, .int .i64 (h.botE fr to_)), (17, .int .i64 (u)), (18, .int .i64 (h.svR fr to_ sq (lls pl)).2), (19, .bool (h.svR fr to_ sq (lls pl)).1), (20, .int .i64 (lst)), (21, .int .i64 ((s.1 : Int)))], (b12, cel 35 (htl h (h.sg xa xc) (h.ss xb xd))) :: (b11, cel 25 (htl h (h.sg oa oc) (h.ss ob od))) :: (b5, cel 25 (htl h (h.sg ag cg) (h.ss as_ cs))) :: H, RowsA none 1 (Z4 []) :: RowsA qa 1 (Zh ql) :: Inn ql :: RowsA ka 1 (Z4 to_) :: RowsA la 1 (Z4 fr) :: RowsA xb 3 (Zf h.sights) :: RowsA xa 2 (Zd h.gaps) :: RowsA ob 3 (Zf h.sights) :: RowsA oa 2 (Zd h.gaps) :: R⟩) (fun s => 11 - s.1) ⟨0, Nat.zero_le _, fun s' h9 => absurd h9 (Nat.not_lt_zero _)⟩ ?_ (fun s => ?_)
 exact Zk idH
 obtain ⟨s, hs, hno⟩ := s
 dsimp only at hs hno ⊢
 refine Z0 (sqt 6 rfl (spL rfl rfl (lhA (htl h (h.sg xa xc) (h.ss xb xd)) Z5a rfl rfl rfl) rfl (pur 3 rfl ?_)))
 refine cl rfl Z9F rfl rfl (Z5Q h xa xb xc xd hok to_ at_ ct q2 (by omega) s (by omega) 7 fr [] af none cf 0 (msk fr) 0 _ _ hlm (fun x hx => by cases hx) List.nodup_nil (by omega) (by omega)) ?_
 rintro _ _ R1 ⟨⟨x, hx, rfl⟩, rfl, hR1⟩
 obtain rfl := hR1.symm
 clear hR1
 rw [hm0] at hx
 refine pur 1 rfl ?_
 refine Z1 rfl ?_ ?_ <;> intro hc6 <;> try simp only [cS] at hc6
 have hno2 : ∀ n, ¬ Pl h.gaps (msk to_) s (msk fr) 0 n := by
   rcases hx with ⟨n', h4, h5⟩ | ⟨h4, _⟩
   · omega
   · exact h4
 have hs10 : s ≠ 10 := fun e => hno2 np (by rw [e]; exact hnp)
 refine Z2 (Z3 (sqr 3 rfl (pur 1 rfl (sp rfl (PE.add rfl rfl (by omega)) rfl (pur 1 rfl ?_)))))
 exact Za ⟨s + 1, by omega, fun s' h9 => (Nat.lt_succ_iff_lt_or_eq.1 h9).elim (hno s') (fun e => by subst e; exact hno2)⟩ idH
 have hex : ∃ n, Pl h.gaps (msk to_) s (msk fr) 0 n := by
   rcases hx with ⟨n', h4, _⟩ | ⟨_, h4⟩
   · exact ⟨n', h4.1⟩
   · omega
 refine Z7 (Z8 (Z8 (Zl ?_)))
 exact Zq ⟨(u, lst, (s : Int)), hU, .inr ⟨hc2, s, rfl, hex, hno⟩⟩ (fun w h9 => h9.ftail)
 have hrc := Z7k (sp := sq) hc2
 have hsr := ZbO (pl := lls pl) (show h.rcE fr to_ sq ≠ 0 by rw [hrc]; exact hc2)
 refine Z2 ?_
 exact Z1n ⟨((h.botE fr to_), 0, 0), .inl ⟨by rw [hrc]; exact hc2, hrc.symm, rfl⟩, .inl ⟨hc2, rfl⟩⟩ (by dsimp only; rw [hsr, hrc]; exact (by repeat' first | exact Sub.nil | apply Sub.cons | rfl | (simp [lk]; omega))) idH
 rintro ⟨⟨u, lst, sl⟩, hU, hSl⟩
 dsimp only at hU hSl ⊢
 refine sqt 10 rfl (spL rfl rfl (lhA (htl h (h.sg oa oc) (h.ss ob od)) Z0F rfl rfl rfl) rfl (pur 3 rfl ?_))
 refine cl rfl Zcs rfl rfl (Zcx h oa ob oc od (by omega) (by omega) fr to_ la ka lc kc (by omega) (by omega) hlc hkc sq u lst hU _ _) ?_
 rintro _ _ R1 ⟨pv, va, vc, hpv0, hpv1, hpv8, hpvc, rfl, rfl, hR1⟩
 obtain rfl := hR1.symm
 clear hR1
 refine pur 5 rfl (sqt 10 rfl (spL rfl rfl (lhA (htl h (h.sg oa oc) (h.ss ob od)) Z0F rfl rfl rfl) rfl (pur 3 rfl ?_)))
 refine clV rfl Zd9 rfl rfl (Z8n h oa ob oc od (by omega) (by omega) fr to_ la ka lc kc (by omega) (by omega) hlc hkc sq u lst hU _ _) ?_
 refine pur 5 rfl (sqt 11 rfl (spL rfl rfl (lhA (htl h (h.sg oa oc) (h.ss ob od)) Z0F rfl rfl rfl) rfl (pur 4 rfl ?_)))
 refine cl rfl ZeO rfl rfl (ZbG h oa ob oc od (by omega) (by omega) fr to_ la ka lc kc (by omega) (by omega) hlc hkc sq ql qa qc (by omega) (by rw [hqe]; omega) _ _) ?_
 rintro _ _ R1 ⟨rfl, rfl, hR1⟩
 obtain rfl := hR1.symm
 clear hR1
 rw [hqe]
 refine pur 5 rfl (sqt 9 rfl (spL rfl rfl (lhA (htl h (h.sg oa oc) (h.ss ob od)) Z0F rfl rfl rfl) rfl (pur 2 rfl ?_)))
 refine clV rfl Zer rfl rfl (Zaj h oa ob oc od (by omega) (by omega) fr to_ la ka lc kc (by omega) (by omega) hlc hkc sl hSl _ _) ?_
 refine pur 5 rfl (Z0 (sqt 42 rfl (pur 4 rfl ?_)))
 refine Zo 134 rfl ?_ ?_ <;> intro g134
 exact absurd g134 (by simp)
 refine pur 5 rfl ?_
 refine Zo 139 rfl ?_ ?_ <;> intro g139
 exact absurd g139 (by simp)
 refine pur 5 rfl ?_
 refine Zo 144 rfl ?_ ?_ <;> intro g144
 exact absurd g144 (by simp)
 refine pur 5 rfl ?_
 refine Zo 149 rfl ?_ ?_ <;> intro g149
 exact absurd g149 (by simp)
 refine pur 5 rfl ?_
 refine Zo 154 rfl ?_ ?_ <;> intro g154
 exact absurd g154 (by simp)
 refine pur 2 rfl ?_
 refine spG rfl rfl rfl rfl (PE.neqBool ub4 rfl rfl) rfl ?_
 refine pur 2 rfl ?_
 refine Zo 159 rfl ?_ ?_ <;> intro g159
 exact absurd g159 (by simp)
 refine pur 5 rfl ?_
 refine Zo 164 rfl ?_ ?_ <;> intro g164
 exact absurd g164 (by simp)
 refine pur 3 rfl ?_
 refine Zo 167 rfl ?_ ?_ <;> intro g167
 have hp0 := hpv0 (of_decide_eq_true g167)
 refine pur 1 rfl ?_
 refine spG rfl rfl rfl rfl (PE.lenSl Z0P rfl) rfl ?_
 refine pur 3 rfl ?_
 refine Z1 rfl ?_ ?_ <;> intro hc7
 first | (focus (rw [hp0] at hc7; exact absurd hc7 (by decide))) | exact absurd hc7 (by simp)
 refine Z2 (Z0 (sqt 2 rfl (pur 2 rfl ?_)))
 refine Z0c (ι := Unit) (fun _ => ⟨[(1, .slice af fr.length cf), (2, .slice at_ to_.length ct), (3, .int .i64 sq), (4, .slice ap pl.length cp), (5, .pointer (some ⟨b5, 0, none⟩)), (11, .pointer (some ⟨b11, 0, none⟩)), (12, .pointer (some ⟨b12, 0, none⟩)), (13, .slice la fr.length lc), (14, .slice ka to_.length kc), (15, .slice qa ql.length qc)], (b12, cel 35 (htl h (h.sg xa xc) (h.ss xb xd))) :: (b11, cel 25 (htl h (h.sg oa oc) (h.ss ob od))) :: (b5, cel 25 (htl h (h.sg ag cg) (h.ss as_ cs))) :: H, RowsA qa 1 (Zh ql) :: Inn ql :: RowsA ka 1 (Z4 to_) :: RowsA la 1 (Z4 fr) :: RowsA xb 3 (Zf h.sights) :: RowsA xa 2 (Zd h.gaps) :: RowsA ob 3 (Zf h.sights) :: RowsA oa 2 (Zd h.gaps) :: R⟩) ?_ ?_
 refine Z1 rfl ?_ ?_ <;> intro hc8 <;> try simp only [cS] at hc8
 have hvp := hpv1 hc8
 have hbz : h.botE fr to_ = 0 := by
   rcases hU with ⟨g1, g2, _⟩ | ⟨_, _, g2, _⟩ | ⟨g1, _⟩
   · exact absurd (g2.symm.trans hc8) g1
   · rw [g2] at hc8; cases hc8
   · exact Classical.byContradiction fun e => e ((Z7k (sp := sq) e).symm.trans g1)
 have hok := (Z1N hbz).ok
 have hgl := hok.gl
 have hvt := hvp.tot
 have hvl := hvp.len
 refine Z0 (sqt 13 rfl (spL rfl rfl (lhA (htl h (h.sg xa xc) (h.ss xb xd)) Z5a rfl rfl rfl) rfl (pur 2 rfl ?_)))
 refine cl rfl Zbb rfl rfl (Z2n h xa xb xc xd (by omega) sq pv va vc (by omega) (by omega) _ _) ?_
 rintro _ _ R1 ⟨rfl, rfl, hR1⟩
 obtain rfl := hR1.symm
 clear hR1
 rw [hvp.pln]
 refine pur 2 rfl ?_
 refine Zo 180 rfl ?_ ?_ <;> intro g180
 exact absurd g180 (by simp)
 refine Z0t rfl rfl rfl rfl rfl (lhA (htl h (h.sg xa xc) (h.ss xb xd)) Z5a rfl rfl rfl) rfl (pur 3 rfl ?_)
 refine clG rfl rfl rfl rfl Zc9 rfl rfl (Z4t h xa xb xc xd hok fr to_ af at_ cf ct (by omega) (by omega) hfc htc hbz pv va vc (by omega) (by omega) hvp.nn _ _) ?_
 rintro _ _ R1 ⟨rfl, rfl, hR1⟩
 obtain rfl := hR1.symm
 clear hR1
 rw [hvp.sv]
 refine pur 2 rfl ?_
 refine Z1 rfl ?_ ?_ <;> intro hc9
 exact absurd hc9 (by simp)
 refine Z2 (Z0 (sqt 3 rfl (pur 1 rfl (sp rfl (PE.lenSl Z0P rfl) rfl (pur 1 rfl (Z3 ?_))))))
 refine Ze (ι := {k : Nat // k ≤ pv.length}) (fun k => ⟨[(1, .slice af fr.length cf), (2, .slice at_ to_.length ct), (3, .int .i64 sq), (4, .slice ap pl.length cp), (5, .pointer (some ⟨b5, 0, none⟩)), (11, .pointer (some ⟨b11, 0, none⟩)), (12, .pointer (some ⟨b12, 0, none⟩)), (13, .slice la fr.length lc), (14, .slice ka to_.length kc), (15, .slice qa ql.length qc), (24, .int .i64 (lst - ((Z1l pv k.1).length : Nat))), (188, .slice va pv.length vc), (189, .int .i64 pv.length), (190, .int .i64 (k.1 : Int))], (b12, cel 35 (htl h (h.sg xa xc) (h.ss xb xd))) :: (b11, cel 25 (htl h (h.sg oa oc) (h.ss ob od))) :: (b5, cel 25 (htl h (h.sg ag cg) (h.ss as_ cs))) :: H, RowsA va 1 (Zh pv) :: Inn pv :: RowsA qa 1 (Zh ql) :: Inn ql :: RowsA ka 1 (Z4 to_) :: RowsA la 1 (Z4 fr) :: RowsA xb 3 (Zf h.sights) :: RowsA xa 2 (Zd h.gaps) :: RowsA ob 3 (Zf h.sights) :: RowsA oa 2 (Zd h.gaps) :: R⟩) (fun k => pv.length - k.1) ⟨0, Nat.zero_le _⟩ ?_ (fun k => ?_)
 exact Z9U (by rw [show Z1l pv 0 = [] from rfl, List.length_nil, show lst - ((0 : Nat) : Int) = lst by omega]; exact (by repeat' first | exact Sub.nil | apply Sub.cons | rfl | (simp [lk]; omega))) idH
 obtain ⟨k, hk⟩ := k
 dsimp only at hk ⊢
 have hct := Z0p pv k
 have hct2 := Z0p pv (k + 1)
 refine sqt 1 rfl (pur 1 rfl (Z0 ?_))
 refine Z1 rfl ?_ ?_ <;> intro hc10 <;> try simp only [cS] at hc10
 obtain ⟨x, hx⟩ : ∃ x, pv[k]? = some x := ⟨_, List.getElem?_eq_getElem (by omega)⟩
 have hst := Z0S hx
 have hsl := congrArg List.length hst
 rw [List.length_append] at hsl
 refine Zg (a := va) (sz := 1) (rows := Zh pv) (ne0 (by rw [Zv]; omega)) (fun ba oa9 he => ?_)
 subst he
 refine Z2 (Z0 (Z3 (sqt 3 rfl (sp rfl (PE.indexAddr Z5p rfl rfl (by omega) (by omega)) rfl (spL rfl rfl (lf0 Z1Y (Z1e hx) rfl) rfl (pur 1 rfl (sqr 5 rfl (pur 2 rfl (sp rfl (PE.lenSl Zx rfl) rfl (sp rfl (PE.sub rfl rfl (by omega)) rfl (pur 1 rfl (sqr 2 rfl (sp rfl (PE.add rfl rfl (by omega)) rfl (pur 1 rfl ?_))))))))))))))
 rw [show lst - ((Z1l pv k).length : Int) - (x.l.length : Int) = lst - ((Z1l pv (k + 1)).length : Nat) by omega]
 exact Za ⟨k + 1, by omega⟩ idH
 obtain rfl : k = pv.length := by omega
 have hca := congrArg List.length (Z45 pv)
 refine Z7 (Z8 (Z8 (Zl (sqt 2 rfl (pur 2 rfl ?_)))))
 refine Z1 rfl ?_ ?_ <;> intro hc11
 simp only [decide_eq_true_eq] at hc11
 omega
 refine Z2 ?_
 exact Zq () (fun w h9 => h9.ftail.ftail)
 refine Z2 ?_
 exact Zq () (fun w h9 => h9.ftail.ftail)
 rintro ⟨⟩
 dsimp only
 refine sqt 22 rfl (spL rfl rfl (lhA (htl h (h.sg oa oc) (h.ss ob od)) Z0F rfl rfl rfl) rfl (spL rfl rfl (lhA (htl h (h.sg ag cg) (h.ss as_ cs)) Z0F rfl rfl rfl) rfl ?_))
 refine clV rfl ZcV rfl rfl (ZaW h h oa ob ag as_ oc od cg cs (by omega) (by omega) (by omega) (by omega) _ _) ?_
 refine pur 1 rfl ?_
 refine Zo 204 rfl ?_ ?_ <;> intro g204
 refine pur 2 rfl ?_
 refine Z22 rfl rfl rfl rfl Z4F rfl rfl (Z0G fr fr la af lc cf (by omega) (by omega) _ _) ?_
 refine pur 2 rfl ?_
 refine Zo 209 rfl ?_ ?_ <;> intro g209
 refine pur 2 rfl ?_
 refine Z22 rfl rfl rfl rfl Z4F rfl rfl (Z0G to_ to_ ka at_ kc ct (by omega) (by omega) _ _) ?_
 refine pur 2 rfl ?_
 refine Zo 214 rfl ?_ ?_ <;> intro g214
 refine pur 2 rfl ?_
 refine Z22 rfl rfl rfl rfl Zeu rfl rfl (Z6E ql qa qc (by omega) (fun x hx => by have := hqi x hx; omega) pl ap cp (by omega) (fun x hx => by have := hpi9 x hx; omega) _ _) ?_
 refine pur 2 rfl ?_
 refine Zo 219 rfl ?_ ?_ <;> intro g219
 refine Z22 rfl rfl rfl rfl Z7j rfl rfl (Z3c _ _) ?_
 refine pur 2 rfl (Z5 ?_)
 exact rtA rfl rfl rfl ⟨rfl, rfl, rfl⟩ (fun w h9 => St.sub (((h9.del b12).del b11).del b5))
 exact absurd g219 (by rw [hqe]; simp)
 exact absurd g214 (by simp)
 exact absurd g209 (by simp)
 rw [sameH_iff.2 rfl] at g204; exact absurd g204 (by decide)
 refine pur 5 rfl ?_
 refine Zz rfl ?_
 refine Z2 (Z0 (sqt 2 rfl (pur 2 rfl ?_)))
 refine Z0c (ι := Unit) (fun _ => ⟨[(1, .slice af fr.length cf), (2, .slice at_ to_.length ct), (3, .int .i64 sq), (4, .slice ap pl.length cp), (5, .pointer (some ⟨b5, 0, none⟩)), (11, .pointer (some ⟨b11, 0, none⟩)), (12, .pointer (some ⟨b12, 0, none⟩)), (13, .slice la fr.length lc), (14, .slice ka to_.length kc), (15, .slice qa ql.length qc)], (b12, cel 35 (htl h (h.sg xa xc) (h.ss xb xd))) :: (b11, cel 25 (htl h (h.sg oa oc) (h.ss ob od))) :: (b5, cel 25 (htl h (h.sg ag cg) (h.ss as_ cs))) :: H, RowsA qa 1 (Zh ql) :: Inn ql :: RowsA ka 1 (Z4 to_) :: RowsA la 1 (Z4 fr) :: RowsA xb 3 (Zf h.sights) :: RowsA xa 2 (Zd h.gaps) :: RowsA ob 3 (Zf h.sights) :: RowsA oa 2 (Zd h.gaps) :: R⟩) ?_ ?_
 refine Z1 rfl ?_ ?_ <;> intro hc8 <;> try simp only [cS] at hc8
 have hvp := hpv1 hc8
 have hbz : h.botE fr to_ = 0 := by
   rcases hU with ⟨g1, g2, _⟩ | ⟨_, _, g2, _⟩ | ⟨g1, _⟩
   · exact absurd (g2.symm.trans hc8) g1
   · rw [g2] at hc8; cases hc8
   · exact Classical.byContradiction fun e => e ((Z7k (sp := sq) e).symm.trans g1)
 have hok := (Z1N hbz).ok
 have hgl := hok.gl
 have hvt := hvp.tot
 have hvl := hvp.len
 refine Z0 (sqt 13 rfl (spL rfl rfl (lhA (htl h (h.sg xa xc) (h.ss xb xd)) Z5a rfl rfl rfl) rfl (pur 2 rfl ?_)))
 refine cl rfl Zbb rfl rfl (Z2n h xa xb xc xd (by omega) sq pv va vc (by omega) (by omega) _ _) ?_
 rintro _ _ R1 ⟨rfl, rfl, hR1⟩
 obtain rfl := hR1.symm
 clear hR1
 rw [hvp.pln]
 refine pur 2 rfl ?_
 refine Zo 180 rfl ?_ ?_ <;> intro g180
 exact absurd g180 (by simp)
 refine Z0t rfl rfl rfl rfl rfl (lhA (htl h (h.sg xa xc) (h.ss xb xd)) Z5a rfl rfl rfl) rfl (pur 3 rfl ?_)
 refine clG rfl rfl rfl rfl Zc9 rfl rfl (Z4t h xa xb xc xd hok fr to_ af at_ cf ct (by omega) (by omega) hfc htc hbz pv va vc (by omega) (by omega) hvp.nn _ _) ?_
 rintro _ _ R1 ⟨rfl, rfl, hR1⟩
 obtain rfl := hR1.symm
 clear hR1
 rw [hvp.sv]
 refine pur 2 rfl ?_
 refine Z1 rfl ?_ ?_ <;> intro hc9
 exact absurd hc9 (by simp)
 refine Z2 (Z0 (sqt 3 rfl (pur 1 rfl (sp rfl (PE.lenSl Z0P rfl) rfl (pur 1 rfl (Z3 ?_))))))
 refine Ze (ι := {k : Nat // k ≤ pv.length}) (fun k => ⟨[(1, .slice af fr.length cf), (2, .slice at_ to_.length ct), (3, .int .i64 sq), (4, .slice ap pl.length cp), (5, .pointer (some ⟨b5, 0, none⟩)), (11, .pointer (some ⟨b11, 0, none⟩)), (12, .pointer (some ⟨b12, 0, none⟩)), (13, .slice la fr.length lc), (14, .slice ka to_.length kc), (15, .slice qa ql.length qc), (24, .int .i64 (lst - ((Z1l pv k.1).length : Nat))), (188, .slice va pv.length vc), (189, .int .i64 pv.length), (190, .int .i64 (k.1 : Int))], (b12, cel 35 (htl h (h.sg xa xc) (h.ss xb xd))) :: (b11, cel 25 (htl h (h.sg oa oc) (h.ss ob od))) :: (b5, cel 25 (htl h (h.sg ag cg) (h.ss as_ cs))) :: H, RowsA va 1 (Zh pv) :: Inn pv :: RowsA qa 1 (Zh ql) :: Inn ql :: RowsA ka 1 (Z4 to_) :: RowsA la 1 (Z4 fr) :: RowsA xb 3 (Zf h.sights) :: RowsA xa 2 (Zd h.gaps) :: RowsA ob 3 (Zf h.sights) :: RowsA oa 2 (Zd h.gaps) :: R⟩) (fun k => pv.length - k.1) ⟨0, Nat.zero_le _⟩ ?_ (fun k => ?_)
 exact Z9U (by rw [show Z1l pv 0 = [] from rfl, List.length_nil, show lst - ((0 : Nat) : Int) = lst by omega]; exact (by repeat' first | exact Sub.nil | apply Sub.cons | rfl | (simp [lk]; omega))) idH
 obtain ⟨k, hk⟩ := k
 dsimp only at hk ⊢
 have hct := Z0p pv k
 have hct2 := Z0p pv (k + 1)
 refine sqt 1 rfl (pur 1 rfl (Z0 ?_))
 refine Z1 rfl ?_ ?_ <;> intro hc10 <;> try simp only [cS] at hc10
 obtain ⟨x, hx⟩ : ∃ x, pv[k]? = some x := ⟨_, List.getElem?_eq_getElem (by omega)⟩
 have hst := Z0S hx
 have hsl := congrArg List.length hst
 rw [List.length_append] at hsl
 refine Zg (a := va) (sz := 1) (rows := Zh pv) (ne0 (by rw [Zv]; omega)) (fun ba oa9 he => ?_)
 subst he
 refine Z2 (Z0 (Z3 (sqt 3 rfl (sp rfl (PE.indexAddr Z5p rfl rfl (by omega) (by omega)) rfl (spL rfl rfl (lf0 Z1Y (Z1e hx) rfl) rfl (pur 1 rfl (sqr 5 rfl (pur 2 rfl (sp rfl (PE.lenSl Zx rfl) rfl (sp rfl (PE.sub rfl rfl (by omega)) rfl (pur 1 rfl (sqr 2 rfl (sp rfl (PE.add rfl rfl (by omega)) rfl (pur 1 rfl ?_))))))))))))))
 rw [show lst - ((Z1l pv k).length : Int) - (x.l.length : Int) = lst - ((Z1l pv (k + 1)).length : Nat) by omega]
 exact Za ⟨k + 1, by omega⟩ idH
 obtain rfl : k = pv.length := by omega
 have hca := congrArg List.length (Z45 pv)
 refine Z7 (Z8 (Z8 (Zl (sqt 2 rfl (pur 2 rfl ?_)))))
 refine Z1 rfl ?_ ?_ <;> intro hc11
 simp only [decide_eq_true_eq] at hc11
 omega
 refine Z2 ?_
 exact Zq () (fun w h9 => h9.ftail.ftail)
 refine Z2 ?_
 exact Zq () (fun w h9 => h9.ftail.ftail)
 rintro ⟨⟩
 dsimp only
 refine sqt 22 rfl (spL rfl rfl (lhA (htl h (h.sg oa oc) (h.ss ob od)) Z0F rfl rfl rfl) rfl (spL rfl rfl (lhA (htl h (h.sg ag cg) (h.ss as_ cs)) Z0F rfl rfl rfl) rfl ?_))
 refine clV rfl ZcV rfl rfl (ZaW h h oa ob ag as_ oc od cg cs (by omega) (by omega) (by omega) (by omega) _ _) ?_
 refine pur 1 rfl ?_
 refine Zo 204 rfl ?_ ?_ <;> intro g204
 refine pur 2 rfl ?_
 refine Z22 rfl rfl rfl rfl Z4F rfl rfl (Z0G fr fr la af lc cf (by omega) (by omega) _ _) ?_
 refine pur 2 rfl ?_
 refine Zo 209 rfl ?_ ?_ <;> intro g209
 refine pur 2 rfl ?_
 refine Z22 rfl rfl rfl rfl Z4F rfl rfl (Z0G to_ to_ ka at_ kc ct (by omega) (by omega) _ _) ?_
 refine pur 2 rfl ?_
 refine Zo 214 rfl ?_ ?_ <;> intro g214
 refine pur 2 rfl ?_
 refine Z22 rfl rfl rfl rfl Zeu rfl rfl (Z6E ql qa qc (by omega) (fun x hx => by have := hqi x hx; omega) pl ap cp (by omega) (fun x hx => by have := hpi9 x hx; omega) _ _) ?_
 refine pur 2 rfl ?_
 refine Zo 219 rfl ?_ ?_ <;> intro g219
 refine Z22 rfl rfl rfl rfl Z7j rfl rfl (Z3c _ _) ?_
 refine pur 2 rfl (Z5 ?_)
 exact rtA rfl rfl rfl ⟨rfl, rfl, rfl⟩ (fun w h9 => St.sub (((h9.del b12).del b11).del b5))
 exact absurd g219 (by rw [hqe]; simp)
 exact absurd g214 (by simp)
 exact absurd g209 (by simp)
 rw [sameH_iff.2 rfl] at g204; exact absurd g204 (by decide)
end Go.Proofs.YthbjpnmclokinaaGreat
