/- Walks of the functions of the program, and the laws that join them: what the last theorem of this claim needs, in order. -/
import Derived.Test.YthbjpnmclokinaaGreatxb5
namespace Go.Proofs.YthbjpnmclokinaaGreat
set_option linter.unusedSimpArgs false
set_option linter.unusedVariables false
open Go
theorem ZcM : Z4C Tryz.prog 111 = some 3 := by kernel_rfl
theorem ZfA : apT Tryz.prog 32 = some (110, 2, 16) := by kernel_rfl
theorem ZfX : apT Tryz.prog 33 = some (111, 3, 24) := by kernel_rfl
theorem Zd7 : cal Tryz.prog 106 = true := by kernel_rfl
theorem Zdi : cal Tryz.prog 140 = true := by kernel_rfl
theorem Zdq : cal Tryz.prog 141 = true := by kernel_rfl
theorem Zbi : cal Tryz.prog 38 = true := by kernel_rfl
theorem ZeW : cal Tryz.prog 74 = true := by kernel_rfl
theorem Zfv : cal Tryz.prog 87 = true := by kernel_rfl
theorem Zff : cal Tryz.prog 88 = true := by kernel_rfl
theorem Zdn : Z0n Tryz.prog 111 = some 3 := by kernel_rfl
theorem ZfZ : Z0n Tryz.prog 32 = some 1 := by kernel_rfl
theorem ZfO : Z0n Tryz.prog 33 = some 1 := by kernel_rfl
theorem Zfc : Z0n Tryz.prog 35 = some 3 := by kernel_rfl
theorem Zfn : Tryz.prog.eqGuardType Tryz.prog.depth 67 = false := by kernel_rfl
theorem Z7V : Z23 Tryz.prog 111 2 = some 2 := by kernel_rfl
theorem ZfB : Z1B Tryz.prog 35 = some [(0, 1), (1, 1), (2, 1)] := by kernel_rfl
theorem ZfS : slE Tryz.prog 32 = some (110, 2) := by kernel_rfl
theorem ZfF : slE Tryz.prog 33 = some (111, 3) := by kernel_rfl
theorem Zbz : ZQ Tryz.prog 111 = some ([.int .i64 0, .int .i64 0, .bool false]) := by kernel_rfl
theorem Zet : ZQ Tryz.prog 35 = some ([.int .i64 0, .slice none 0 0, .slice none 0 0]) := by kernel_rfl
theorem Z9l (xs ys : List Gp) (a a2 : Option Addr) (c c2 : Nat) (hl : xs.length ≤ 9223372036854775807) (hl2 : ys.length ≤ 9223372036854775807) (H : Z8) (R : Z5) [hR : MemRows a 2 (Z9 xs) R] [hR2 : MemRows a2 2 (Z9 ys) R] :
    FnV Tryz.prog 140 [.slice a xs.length c, .slice a2 ys.length c2] H R (.bool (decide (xs = ys))) := by
 refine Zh Tryz.func140 rfl Tryz.ntmps140 rfl ?_
 refine sqt 1 rfl (pur 1 rfl (Z0 (sqt 5 rfl (pur 1 rfl (sp rfl (PE.lenSl Z1q rfl) rfl (pur 1 rfl (sp rfl (PE.lenSl Z1q rfl) rfl (pur 1 rfl ?_))))))))
 refine Z1 rfl ?_ ?_ <;> intro hc0
 have hne : xs ≠ ys := fun e => by subst e; simp at hc0
 refine sqt 1 rfl (pur 1 rfl (Z3 ?_))
 exact rtA rfl rfl rfl ⟨by first | (simp only [ZM]; rw [dT heq]; done) | (simp only [ZM]; rw [dF hne]), rfl, rfl⟩ idH
 have hle : xs.length = ys.length := by simp only [cS] at hc0; omega
 refine Z2 (Z0 (sqt 3 rfl (pur 1 rfl (sp rfl (PE.lenSl Z1q rfl) rfl (pur 1 rfl (Z4 ?_))))))
 refine Zg (ι := {k : Nat // k ≤ xs.length ∧ xs.take k = ys.take k}) (fun k => ⟨[(0, .slice a xs.length c), (1, .slice a2 ys.length c2), (12, .int .i64 xs.length), (13, .int .i64 k.1)], H, R⟩) (fun k => xs.length - k.1) ⟨0, by simp⟩ ?_ (fun k => ?_)
 exact Zm idH
 obtain ⟨k, hk, hn⟩ := k
 dsimp only
 refine sqt 1 rfl (pur 1 rfl (Z0 ?_))
 refine Z1 rfl ?_ ?_ <;> intro hc1
 simp only [cS] at hc1
 obtain ⟨x, hx⟩ : ∃ x, xs[k]? = some x := ⟨_, List.getElem?_eq_getElem (by omega)⟩
 obtain ⟨z, hz⟩ : ∃ z, ys[k]? = some z := ⟨_, List.getElem?_eq_getElem (by omega)⟩
 refine Zl (a := a) (sz := 2) (rows := Z9 xs) (by intro h0; simp [Z9] at h0; simp [h0] at hx) (fun b off he => ?_)
 subst he
 refine Zl (a := a2) (sz := 2) (rows := Z9 ys) (by intro h0; simp [Z9] at h0; simp [h0] at hz) (fun b2 off2 he => ?_)
 subst he
 refine Z2 (Z0 (Z4 (sqt 2 rfl (pur 2 rfl (Z0 ?_)))))
 refine Zi [0, 0, 3, 7, 0, 0, 48, 112, 255] (tks 0 3 (.ld 3 (tks 4 3 (.ld 7 (.tk 8 .done))))) Zz (by kernel_rfl) ?_
 refine Zp 2 rfl (tk rfl (PE.indexAddr Z76 rfl rfl (by omega) (by omega)) rfl (ld rfl rfl (lfA Z6Y (row := Z0E x) (by simp [Z9, hx]) rfl) rfl (Zp 2 rfl (tk rfl (PE.indexAddr Z76 rfl rfl (by omega) (by omega)) rfl (ld rfl rfl (lfA Z6Y (row := Z0E z) (by simp [Z9, hz]) rfl) rfl (tk rfl (PE.neqAgg [x.a, x.b] [z.a, z.b] (Z2c 10000 97 true 2 Zel) ZcY rfl rfl rfl rfl) rfl ?_))))))
 refine Z1 rfl ?_ ?_ <;> intro hc2
 have hne : xs ≠ ys := fun e => by subst e; rw [hx] at hz; cases hz; simp at hc2
 refine sqt 1 rfl (pur 1 rfl (Z3 ?_))
 exact rtA rfl rfl rfl ⟨by first | (simp only [ZM]; rw [dT heq]; done) | (simp only [ZM]; rw [dF hne]), rfl, rfl⟩ idH
 have hxz : x = z := by cases x; cases z; simpa using hc2
 refine Z2 (sqr 2 rfl (sp rfl (PE.add rfl rfl (by omega)) rfl (pur 1 rfl ?_)))
 exact Ze ⟨k + 1, by omega, by rw [List.take_add_one, List.take_add_one, hn, hx, hz, hxz]⟩ idH
 simp only [cS] at hc1
 obtain rfl : k = xs.length := by omega
 have heq : xs = ys := by
   rw [List.take_length] at hn
   exact hn.trans (by rw [hle]; exact List.take_length)
 refine Za (Zc (Zc (Zn (sqt 1 rfl (pur 1 rfl (Z3 ?_))))))
 exact rtA rfl rfl rfl ⟨by first | (simp only [ZM]; rw [dT heq]; done) | (simp only [ZM]; rw [dF hne]), rfl, rfl⟩ idH
def chS (P : Program) : Nat → List Field → List Bool → Bool
  | _, [], [] => true
  | o, f :: fs, b :: bs => !(f.name == "_") && Nat.beq f.offset o && (match P.underlying f.type with | some (.int _) => !b | some .bool => b | _ => false) && chS P (o + 1) fs bs
  | _, _, _ => false
def chT (P : Program) (T : Nat) (bs : List Bool) : Bool := match P.underlying T with
  | some (.struct fs) => chS P 0 fs.toList bs && !(P.stoodInHeld T)
  | _ => false
def scV (b : Bool) : Value → Bool
  | .int .i64 _ => !b
  | .bool _ => b
  | _ => false
def kOK : List Bool → List Value → Bool
  | [], [] => true
  | b :: bs, v :: vs => scV b v && kOK bs vs
  | _, _ => false
def scE : Value → Value → Bool
  | .int _ x, .int _ y => x == y
  | .bool x, .bool y => x == y
  | _, _ => false
def Z9b : List Value → List Value → Bool
  | v :: vs, w :: ws => scE v w && Z9b vs ws
  | _, _ => true
theorem Z9H {P : Program} {d e : Nat} {b : Bool} {v u : Value} (h : (match P.underlying e with | some (.int _) => !b | some .bool => b | _ => false) = true) (hv : scV b v = true) (hu : scV b u = true) (w : World) : (Op.equalIn (d + 1) e v u).run P w = .ok (scE v u) w := by
  cases b with
  | false =>
    match v, hv with
    | .int .i64 x, _ =>
      match u, hu with
      | .int .i64 y, _ =>
        cases ht : P.underlying e with
        | none => rw [ht] at h; cases h
        | some t =>
          rw [ht] at h
          cases t with
          | int k => exact run_equalIn_int w d e _ _ x y ht
          | _ => cases h
  | true =>
    match v, hv with
    | .bool x, _ =>
      match u, hu with
      | .bool y, _ =>
        cases ht : P.underlying e with
        | none => rw [ht] at h; cases h
        | some t =>
          rw [ht] at h
          cases t with
          | bool => exact run_equalIn_bool w d e x y ht
          | _ => cases h
theorem Z56 {P : Program} {e : Nat} {b : Bool} (h : (match P.underlying e with | some (.int _) => !b | some .bool => b | _ => false) = true) (pre vs : List Value) (v : Value) (w : World) : (part e (pre ++ v :: vs).toArray pre.length).run P w = .ok v w := by
  have hs : Z2F P e = true := by
    cases ht : P.underlying e with
    | none => rw [ht] at h; cases h
    | some t =>
      rw [ht] at h
      cases t with
      | int k => simp [Z2F, ht]
      | bool => simp [Z2F, ht]
      | _ => cases h
  unfold part
  simp only [Sem.run_bind, Z0h hs, Result.andThen]
  simp [Sem.run_pure]
theorem Z5Q {P : Program} {d : Nat} : ∀ (fs : List Field) (bs : List Bool) (vs ws pre pre2 : List Value), chS P pre.length fs bs = true → kOK bs vs = true → kOK bs ws = true → pre.length = pre2.length → ∀ w,
    (Op.eqFields (d + 1) (pre ++ vs).toArray (pre2 ++ ws).toArray fs).run P w = .ok (Z9b vs ws) w
  | [], bs, vs, ws, pre, pre2, h, hv, hw, hp, w => by
    match bs, h with
    | [], _ =>
      match vs, hv with
      | [], _ => simp [Op.eqFields, Sem.run_pure, Z9b]
  | f :: fs, bs, vs, ws, pre, pre2, h, hv, hw, hp, w => by
    match bs, h with
    | b :: bs, h =>
      match vs, hv with
      | v :: vs, hv =>
        match ws, hw with
        | u :: ws, hw =>
          simp only [chS, Bool.and_eq_true, Bool.not_eq_true'] at h
          obtain ⟨⟨⟨h1, h2⟩, h3⟩, h4⟩ := h
          simp only [kOK, Bool.and_eq_true] at hv hw
          have h2 := Nat.eq_of_beq_eq_true h2
          have hn' : f.name ≠ "_" := by simpa using h1
          have p1 := Z56 h3 pre vs v w
          have p2 := Z56 h3 pre2 ws u w
          have p3 := Z9H (d := d) h3 hv.1 hw.1 w
          have ih := Z5Q (d := d) fs bs vs ws (pre ++ [v]) (pre2 ++ [u]) (by rw [List.length_append]; exact h4) hv.2 hw.2 (by rw [List.length_append, List.length_append, hp]; rfl) w
          rw [List.append_assoc, List.append_assoc] at ih
          simp only [List.singleton_append] at ih
          rw [← hp] at p2
          rw [← h2] at p1 p2
          simp only [Op.eqFields, hn', ne_eq, not_false_eq_true, if_true, Sem.run_bind, p1, p2, p3, Result.andThen]
          cases hc : scE v u with
          | true => simp [Z9b, hc, ih]
          | false => simp [Z9b, hc, Sem.run_pure]
section pe
variable {P : Program} {L : Zk} {d : Option Tmp} {ty : TypeId} {pos : String} {af : Array Edge} {g : Option (Nat × Bool)}
theorem PE.neqS {T U : Nat} {x y : Operand} (vs ws : List Value) (bs : List Bool) (hT : chT P T bs = true) (hg : P.eqGuardType P.depth T = false) (hx : ev L x = some (.agg vs.toArray)) (hy : ev L y = some (.agg ws.toArray)) (kv : kOK bs vs = true) (kw : kOK bs ws = true) :
    PE P L ⟨d, .binOp .neq T x y U, ty, pos, af, g⟩ (.bool (!(Z9b vs ws))) := fun ρ hρ w => by
  have hb : binOp .neq T (.agg vs.toArray) (.agg ws.toArray) = (do pure (.bool (!(← Op.equal T (.agg vs.toArray) (.agg ws.toArray))))) := rfl
  unfold chT at hT
  split at hT
  · rename_i fs hu
    simp only [Bool.and_eq_true, Bool.not_eq_true'] at hT
    have hf : P.fieldsOf T = fs := by simp [Program.fieldsOf, hu]
    have he : (Op.equal T (.agg vs.toArray) (.agg ws.toArray)).run P w = .ok (Z9b vs ws) w := by
      show (Op.equalIn (9999 + 1) T (.agg vs.toArray) (.agg ws.toArray)).run P w = _
      rw [run_equalIn_struct w 9999 T _ _ (by rw [hu, hf]) hT.2, hf]
      exact Z5Q (d := 9998) fs.toList bs vs ws [] [] hT.1 kv kw rfl w
    simp only [execOp, hρ _ _ hx, hρ _ _ hy, Sem.run_bind, Z0w hg, hb, he, Result.andThen, Sem.run_pure]
  · cases hT
end pe
theorem ZcD {h : Hse} (hk : h.ok) : h.clrR = (Z2K (fun k => !ZV (h.clr h.sights (-1) 0) k) h.bins.toNat, 0) := by
  unfold Hse.clrR
  rw [hse_ok.2 hk]; rfl
def Z6T (a b : Hse) : Bool := decide (a.bins = b.bins) && decide (a.gaps = b.gaps) && decide (a.sights = b.sights)
theorem sameH_iff {a b : Hse} : Z6T a b = true ↔ a = b := by
  unfold Z6T
  simp only [Bool.and_eq_true, decide_eq_true_eq]
  constructor
  · rintro ⟨⟨h1, h2⟩, h3⟩
    cases a; cases b; simp_all
  · rintro rfl; exact ⟨⟨rfl, rfl⟩, rfl⟩
theorem Zdg (a b : List Gp) : Z9 (a ++ b) = Z9 a ++ Z9 b := List.map_append
def Zcp (h : Hse) : Bool := decide (14 < h.gaps.length) || decide (12 < h.sights.length)
def ZaT (l : List (List Int)) : Bool := l.any (fun x => decide (14 < x.length)) || decide (14 < l.length)
theorem ZcH {l : List (List Int)} (h : ∀ x ∈ l.take l.length, ¬ 14 < x.length) : l.any (fun x => decide (14 < x.length)) = false := List.any_eq_false.2 fun x hx => by
  rw [List.take_length] at h
  simpa using h x hx
theorem Zbr {l : List (List Int)} {x : List Int} (hx : x ∈ l) (h : 14 < x.length) : l.any (fun x => decide (14 < x.length)) = true := List.any_eq_true.2 ⟨x, hx, decide_eq_true h⟩
theorem Z4a (m k : Nat) : ((m >>> k : Nat) : Int) / 2 = ((m >>> (k + 1) : Nat) : Int) := by rw [Nat.shiftRight_succ]; omega
theorem Zbt (m k : Nat) : decide (((m >>> k : Nat) : Int) % 2 = 1) = decide (m / 2 ^ k % 2 = 1) := by rw [Nat.shiftRight_eq_div_pow]; exact decide_eq_decide.2 (by omega)
theorem Z87 (m k : Nat) : decide (((m >>> k : Nat) : Int) % 2 = 1) = m.testBit k := by
  rw [Zbt]
  rw [Nat.testBit_eq_decide_div_mod_eq]
theorem Zap {gs : List Gp} {m k : Nat} {w : Int} (hw : w ≤ 9) : (decide (0 ≤ wkC gs 0 m k) && decide (wkC gs 0 m k ≤ w)) = decide (wk gs 0 m k ≤ w) := by
  unfold wkC
  have hn := Z6I gs 0 m k
  by_cases h : far ≤ wk gs 0 m k
  · rw [decide_eq_true h, cond_true, decide_eq_false (by decide), Bool.false_and, decide_eq_false (by unfold far at h; omega)]
  · rw [decide_eq_false h, cond_false, decide_eq_true hn.1, Bool.true_and]
def ZcS (h : Hse) (m set : Nat) : Bool := (List.range h.sights.length).all fun i => match h.sights[i]? with
  | some s => !(set.testBit i) || exS h.gaps m s
  | none => true
theorem Zbf {h : Hse} {m set k : Nat} (hk : h.sights.length ≤ k) (hi : ∀ i, i < k → ∀ s, h.sights[i]? = some s → (!(set.testBit i) || exS h.gaps m s) = true) : ZcS h m set = true := List.all_eq_true.2 fun i hm => by
  have h1 := List.mem_range.1 hm
  rw [List.getElem?_eq_getElem h1]
  exact hi i (by omega) _ (List.getElem?_eq_getElem h1)
theorem ZaQ {h : Hse} {m set k : Nat} {s : Sgt} (hs : h.sights[k]? = some s) (hb : set.testBit k = true) (he : exS h.gaps m s = false) : ZcS h m set = false := List.all_eq_false.2 ⟨k, List.mem_range.2 (List.getElem?_eq_some_iff.1 hs).1, by rw [hs]; dsimp only; rw [hb, he]; decide⟩
theorem Zc4 {h : Hse} {m : Nat} : ZcS h m (2 ^ h.sights.length - 1) = Z1U h.gaps m h.sights := by
  rw [Bool.eq_iff_iff]
  unfold ZcS Z1U
  rw [List.all_eq_true, List.all_eq_true]
  constructor
  · intro h1 s hs
    obtain ⟨i, hi⟩ := List.getElem?_of_mem hs
    have hil := (List.getElem?_eq_some_iff.1 hi).1
    have h2 := h1 i (List.mem_range.2 hil)
    rw [hi] at h2
    dsimp only at h2
    rw [Nat.testBit_two_pow_sub_one, decide_eq_true hil] at h2
    exact h2
  · intro h1 i hi
    have hil := List.mem_range.1 hi
    rw [List.getElem?_eq_getElem hil]
    dsimp only
    rw [h1 _ (List.getElem_mem hil), Bool.or_true]
def Z2n (h : Hse) (k i : Nat) : Bool := (h.sights.take i).any fun s => !s.seen && decide (wk h.gaps 0 (2 ^ k) s.bin.toNat ≤ s.week)
theorem Z9m {h : Hse} (k : Nat) : Z2n h k h.sights.length = !(Z4y h.gaps h.sights k) := by
  unfold Z2n Z4y
  rw [List.take_length, List.not_all_eq_any_not]
  congr 1; funext s
  rw [Bool.not_or]
  congr 1
  rw [← decide_not]
  exact decide_eq_decide.2 (by omega)
theorem Zcd {h : Hse} (hk : h.ok) : h.clrR.1 = Z2K (fun k => Z2n h k h.sights.length) h.bins.toNat := by
  rw [ZcD hk]
  refine Z6Q fun k hk7 => ?_
  rw [Z9m]
  congr 1
  have h1 : Z49 h.gaps h.sights (-1) 0 k = Z4y h.gaps h.sights k := rfl
  rw [Bool.eq_iff_iff, hasI_iff, clr_mem, ← h1]
  constructor
  · rintro ⟨j, _, h3, h4⟩
    obtain rfl : k = j := by omega
    exact h3
  · intro h3; exact ⟨k, hk7, h3, rfl⟩
theorem Z9j (xs ys : List Sgt) (a a2 : Option Addr) (c c2 : Nat) (hl : xs.length ≤ 9223372036854775807) (hl2 : ys.length ≤ 9223372036854775807) (H : Z8) (R : Z5) [hR : MemRows a 3 (Z7 xs) R] [hR2 : MemRows a2 3 (Z7 ys) R] :
    FnV Tryz.prog 141 [.slice a xs.length c, .slice a2 ys.length c2] H R (.bool (decide (xs = ys))) := by
 refine Zh Tryz.func141 rfl Tryz.ntmps141 rfl ?_
 refine sqt 1 rfl (pur 1 rfl (Z0 (sqt 5 rfl (pur 1 rfl (sp rfl (PE.lenSl Z1W rfl) rfl (pur 1 rfl (sp rfl (PE.lenSl Z1W rfl) rfl (pur 1 rfl ?_))))))))
 refine Z1 rfl ?_ ?_ <;> intro hc0
 have hne : xs ≠ ys := fun e => by subst e; simp at hc0
 refine sqt 1 rfl (pur 1 rfl (Z3 ?_))
 exact rtA rfl rfl rfl ⟨by first | (simp only [ZM]; rw [dT heq]; done) | (simp only [ZM]; rw [dF hne]), rfl, rfl⟩ idH
 have hle : xs.length = ys.length := by simp only [cS] at hc0; omega
 refine Z2 (Z0 (sqt 3 rfl (pur 1 rfl (sp rfl (PE.lenSl Z1W rfl) rfl (pur 1 rfl (Z4 ?_))))))
 refine Zg (ι := {k : Nat // k ≤ xs.length ∧ xs.take k = ys.take k}) (fun k => ⟨[(0, .slice a xs.length c), (1, .slice a2 ys.length c2), (12, .int .i64 xs.length), (13, .int .i64 k.1)], H, R⟩) (fun k => xs.length - k.1) ⟨0, by simp⟩ ?_ (fun k => ?_)
 exact Zm idH
 obtain ⟨k, hk, hn⟩ := k
 dsimp only
 refine sqt 1 rfl (pur 1 rfl (Z0 ?_))
 refine Z1 rfl ?_ ?_ <;> intro hc1
 simp only [cS] at hc1
 obtain ⟨x, hx⟩ : ∃ x, xs[k]? = some x := ⟨_, List.getElem?_eq_getElem (by omega)⟩
 obtain ⟨z, hz⟩ : ∃ z, ys[k]? = some z := ⟨_, List.getElem?_eq_getElem (by omega)⟩
 refine Zl (a := a) (sz := 3) (rows := Z7 xs) (by intro h0; simp [Z7] at h0; simp [h0] at hx) (fun b off he => ?_)
 subst he
 refine Zl (a := a2) (sz := 3) (rows := Z7 ys) (by intro h0; simp [Z7] at h0; simp [h0] at hz) (fun b2 off2 he => ?_)
 subst he
 refine Z2 (Z0 (Z4 (sqt 2 rfl (pur 2 rfl (Z0 ?_)))))
 refine Zi [0, 0, 3, 7, 0, 0, 48, 112, 255] (tks 0 3 (.ld 3 (tks 4 3 (.ld 7 (.tk 8 .done))))) Zz (by kernel_rfl) ?_
 refine Zp 2 rfl (tk rfl (PE.indexAddr Zdf rfl rfl (by omega) (by omega)) rfl (ld rfl rfl (lfA Z6d (row := ZF x) (by simp [Z7, hx]) rfl) rfl (Zp 2 rfl (tk rfl (PE.indexAddr Zdf rfl rfl (by omega) (by omega)) rfl (ld rfl rfl (lfA Z6d (row := ZF z) (by simp [Z7, hz]) rfl) rfl (tk rfl (PE.neqS (ZF x) (ZF z) [false, false, true] (by kernel_rfl) Zfn rfl rfl rfl rfl) rfl ?_))))))
 refine Z1 rfl ?_ ?_ <;> intro hc2
 have hne : xs ≠ ys := fun e => by subst e; rw [hx] at hz; cases hz; simp [Z9b, scE, ZF] at hc2
 refine sqt 1 rfl (pur 1 rfl (Z3 ?_))
 exact rtA rfl rfl rfl ⟨by first | (simp only [ZM]; rw [dT heq]; done) | (simp only [ZM]; rw [dF hne]), rfl, rfl⟩ idH
 have hxz : x = z := by cases x; cases z; simpa [Z9b, scE, ZF, and_assoc] using hc2
 refine Z2 (sqr 2 rfl (sp rfl (PE.add rfl rfl (by omega)) rfl (pur 1 rfl ?_)))
 exact Ze ⟨k + 1, by omega, by rw [List.take_add_one, List.take_add_one, hn, hx, hz, hxz]⟩ idH
 simp only [cS] at hc1
 obtain rfl : k = xs.length := by omega
 have heq : xs = ys := by
   rw [List.take_length] at hn
   exact hn.trans (by rw [hle]; exact List.take_length)
 refine Za (Zc (Zc (Zn (sqt 1 rfl (pur 1 rfl (Z3 ?_))))))
 exact rtA rfl rfl rfl ⟨by first | (simp only [ZM]; rw [dT heq]; done) | (simp only [ZM]; rw [dF hne]), rfl, rfl⟩ idH
theorem Zae (xs ys : List Gp) (a a2 : Option Addr) (c c2 : Nat) (hl : xs.length ≤ 9223372036854775807) (hl2 : ys.length ≤ 9223372036854775807) (H : Z8) (R : Z5) [hR : MemRows a 2 (Z9 xs) R] [hR2 : MemRows a2 2 (Z9 ys) R] :
    FnV Tryz.prog 87 [.slice a xs.length c, .slice a2 ys.length c2] H R (.bool (decide (xs = ys))) := by
 refine Zh Tryz.func87 rfl Tryz.ntmps87 rfl ?_
 refine sqt 1 rfl (pur 1 rfl (sqt 4 rfl (pur 2 rfl ?_)))
 refine clV rfl Zdi rfl rfl (Z9l xs ys a a2 c c2 hl hl2 _ _) ?_
 refine pur 1 rfl (Z3 ?_)
 exact rtA rfl rfl rfl ⟨rfl, rfl, rfl⟩ drp
theorem Z9s (xs ys : List Sgt) (a a2 : Option Addr) (c c2 : Nat) (hl : xs.length ≤ 9223372036854775807) (hl2 : ys.length ≤ 9223372036854775807) (H : Z8) (R : Z5) [hR : MemRows a 3 (Z7 xs) R] [hR2 : MemRows a2 3 (Z7 ys) R] :
    FnV Tryz.prog 88 [.slice a xs.length c, .slice a2 ys.length c2] H R (.bool (decide (xs = ys))) := by
 refine Zh Tryz.func88 rfl Tryz.ntmps88 rfl ?_
 refine sqt 1 rfl (pur 1 rfl (sqt 4 rfl (pur 2 rfl ?_)))
 refine clV rfl Zdq rfl rfl (Z9j xs ys a a2 c c2 hl hl2 _ _) ?_
 refine pur 1 rfl (Z3 ?_)
 exact rtA rfl rfl rfl ⟨rfl, rfl, rfl⟩ drp
theorem ZbI (h : Hse) (ag as_ : Option Addr) (cg cs : Nat) (hlg : h.gaps.length ≤ 9223372036854775807) (hls : h.sights.length ≤ 9223372036854775807) (H : Z8) (R : Z5) :
    FnV Tryz.prog 28 [h.v (h.sg ag cg) (h.ss as_ cs)] H R (.bool (Zcp h)) := by
 refine Zh Tryz.func28 rfl Tryz.ntmps28 rfl ?_
 refine sqt 2 rfl (bx rfl rfl rfl (fun b1 => pur 1 rfl (sqt 11 rfl (sp rfl (PE.fA ZS rfl) rfl (spL rfl rfl (lh Z2o rfl rfl) rfl (sp rfl (PE.lenSl Z1q rfl) rfl (pur 2 rfl ?_)))))))
 refine Zq 7 rfl ?_ ?_ <;> intro g7
 refine pur 6 rfl (Z3 ?_)
 exact rtA rfl rfl rfl ⟨congrArg Value.bool (show true = Zcp h by unfold Zcp; rw [dT (by have := of_decide_eq_true g7; omega)]; rfl), rfl, rfl⟩ (fun w h9 => h9.del b1)
 refine spG rfl rfl rfl rfl (PE.fA ZJ rfl) rfl ?_
 refine Z0D rfl rfl rfl rfl rfl (lh Z27 rfl rfl) rfl ?_
 refine spG rfl rfl rfl rfl (PE.lenSl Z1W rfl) rfl ?_
 refine pur 3 rfl (Z3 ?_)
 exact rtA rfl rfl rfl ⟨congrArg Value.bool (show _ = Zcp h by unfold Zcp; rw [dF (show ¬ 14 < h.gaps.length by have := of_decide_eq_false g7; omega), Bool.false_or]; exact decide_eq_decide.2 (by omega)), rfl, rfl⟩ (fun w h9 => h9.del b1)
theorem Zd2 (pl : List PL) (ap : Option Addr) (cp : Nat) (hpl : pl.length ≤ 9223372036854775807) (hpx : ∀ x ∈ pl, x.l.length ≤ 9223372036854775807) (H : Z8) (R : Z5) [hP : MemRows ap 1 (ZI pl) R] :
    FnV Tryz.prog 10 [.slice ap pl.length cp] H R (.bool (ZaT (lls pl))) := by
 refine Zh Tryz.func10 rfl Tryz.ntmps10 rfl ?_
 refine sqt 1 rfl (pur 1 rfl (Z0 (sqt 3 rfl (pur 1 rfl (sp rfl (PE.lenSl Z5x rfl) rfl (pur 1 rfl (Z4 ?_)))))))
 refine Zg (ι := {k : Nat // k ≤ pl.length ∧ ∀ x ∈ (lls pl).take k, ¬ 14 < x.length}) (fun k => ⟨[(0, .slice ap pl.length cp), (5, .slice ap pl.length cp), (6, .int .i64 pl.length), (7, .int .i64 k.1)], H, R⟩) (fun k => pl.length - k.1) ⟨0, Nat.zero_le _, by simp⟩ ?_ (fun k => ?_)
 exact Zm idH
 obtain ⟨k, hk, hn⟩ := k
 dsimp only at hk hn ⊢
 refine sqt 1 rfl (pur 1 rfl (Z0 ?_))
 refine Z1 rfl ?_ ?_ <;> intro hc0 <;> try simp only [cS] at hc0
 obtain ⟨x, hx⟩ : ∃ x, pl[k]? = some x := ⟨_, List.getElem?_eq_getElem (by omega)⟩
 have hgx := ZbQ hx
 have hxl := hpx x (List.mem_of_getElem? hx)
 refine Zl (a := ap) (sz := 1) (rows := ZI pl) (ne0 (by rw [Z0s]; omega)) (fun ba oa he => ?_)
 subst he
 refine Z2 (Z0 (Z4 (sqt 3 rfl (sp rfl (PE.indexAddr Zec rfl rfl (by omega) (by omega)) rfl (spL rfl rfl (lf0 Z3I (Z7L hx) rfl) rfl (pur 1 rfl (sqt 3 rfl (pur 1 rfl (sp rfl (PE.lenSl ZK rfl) rfl (pur 1 rfl ?_))))))))))
 refine Z1 rfl ?_ ?_ <;> intro hc1 <;> try simp only [cS] at hc1
 have ha := Zbr (List.mem_of_getElem? hgx) (show 14 < x.l.length by omega)
 refine sqt 1 rfl (pur 1 rfl (Z3 ?_))
 exact rtA rfl rfl rfl ⟨congrArg Value.bool (show true = ZaT (lls pl) by unfold ZaT; rw [ha]; rfl), rfl, rfl⟩ drp
 refine Z2 (sqr 2 rfl (sp rfl (PE.add rfl rfl (by omega)) rfl (pur 1 rfl ?_)))
 exact Zb ⟨k + 1, by omega, fun y hy => by
   rw [List.take_add_one, hgx] at hy
   rcases List.mem_append.1 hy with h1 | h1
   · exact hn y h1
   · rw [List.mem_singleton.1 h1]; omega⟩ (by dsimp only; omega) (by repeat' first | exact Sub.nil | apply Sub.cons | rfl | (simp [lk]; omega)) idH
 obtain rfl : k = pl.length := by omega
 have hll := Z4v pl
 have ha := ZcH (l := lls pl) (by rw [hll]; exact hn)
 refine Za (Zc (Zc (Zn (sqt 4 rfl (pur 1 rfl (sp rfl (PE.lenSl Z5x rfl) rfl (pur 2 rfl (Z3 ?_))))))))
 exact rtA rfl rfl rfl ⟨congrArg Value.bool (show _ = ZaT (lls pl) by unfold ZaT; rw [ha, Bool.false_or]; exact decide_eq_decide.2 (by omega)), rfl, rfl⟩ drp
set_option maxHeartbeats 400000 in
theorem Z6x (h : Hse) (ag as_ : Option Addr) (cg cs : Nat) (hlg : h.gaps.length ≤ 1000000) (hls : h.sights.length ≤ 1000000) (H : Z8) (R : Z5) [hG : MemRows ag 2 (Z9 h.gaps) R] [hS : MemRows as_ 3 (Z7 h.sights) R] :
    Fn Tryz.prog 13 [h.v (h.sg ag cg) (h.ss as_ cs)] H R (fun v H' R' => ∃ (ax ay : Option Addr) (cx cy : Nat), v = h.v (h.sg ax cx) (h.ss ay cy) ∧ H' = H ∧ R' = RowsA ay 3 (Z7 h.sights) :: RowsA ax 2 (Z9 h.gaps) :: R) := by
 refine Zh Tryz.func13 rfl Tryz.ntmps13 rfl ?_
 refine sqt 2 rfl (bx rfl rfl rfl (fun b1 => alc rfl Zet rfl (fun b2 => sqt 5 rfl (sp rfl (PE.fA Z0z rfl) rfl (spL rfl rfl (lh (v := .int .i64 h.bins) sc3 rfl rfl) rfl (sp rfl (PE.build (out := htl h (.slice none 0 0) (.slice none 0 0)) ZfB Zet rfl rfl) rfl (alc rfl Zet rfl (fun b3 => ?_))))))))
 refine Zy (l' := htl h (.slice none 0 0) (.slice none 0 0)) rfl rfl rfl Zfc rfl rfl rfl rfl (nl rfl) ?_
 refine Z0 (sqt 4 rfl (sp rfl (PE.fA ZS rfl) rfl (spL rfl rfl (lh Z2o rfl rfl) rfl (sp rfl (PE.lenSl Z1q rfl) rfl (pur 1 rfl (Z4 ?_))))))
 refine Zg (ι := (k : {k : Nat // k ≤ h.gaps.length}) × OSl 110 2 (Z9 (h.gaps.take k.1))) (fun x => ⟨[(1, .pointer (some ⟨b1, 0, none⟩)), (2, .pointer (some ⟨b2, 0, none⟩)), (3, .pointer (some ⟨b3, 0, none⟩)), (12, h.sg ag cg), (13, .int .i64 h.gaps.length), (14, .int .i64 x.1.1)], x.2.G ++ ((b3, cel 35 (htl h x.2.fs (.slice none 0 0))) :: (b2, cel 35 (htl ⟨0, [], []⟩ (.slice none 0 0) (.slice none 0 0))) :: (b1, cel 25 (htl h (h.sg ag cg) (h.ss as_ cs))) :: H), R⟩) (fun x => h.gaps.length - x.1.1) ⟨⟨0, by omega⟩, OSl.nil _ _⟩ ?_ (fun x => ?_)
 exact Zm idH
 obtain ⟨⟨k, hk⟩, o⟩ := x
 dsimp only at hk o ⊢
 refine sqt 1 rfl (pur 1 rfl (Z0 ?_))
 refine Z1 rfl ?_ ?_ <;> intro hc0 <;> try simp only [cS] at hc0
 obtain ⟨x, hx⟩ : ∃ x, h.gaps[k]? = some x := ⟨_, List.getElem?_eq_getElem (by omega)⟩
 refine Zl (a := ag) (sz := 2) (rows := Z9 h.gaps) (ne0 (by rw [Zv]; omega)) (fun ba oa he => ?_)
 subst he
 refine Z2 (Z0 (Z4 (sqt 4 rfl (sp rfl (PE.indexAddr Z76 rfl rfl (by omega) (by omega)) rfl (spL rfl rfl (lfA Z6Y (row := Z0E x) (Z1o hx) rfl) rfl (alc rfl Z4D rfl (fun b5 => ?_)))))))
 refine Zy (l' := Z0E x) rfl rfl rfl Zcs rfl rfl rfl rfl (nl rfl) ?_
 refine sqr 7 rfl (sp rfl (PE.fA Z3p rfl) rfl (spL rfl rfl (lh Zcn rfl rfl) rfl (spL rfl rfl (lhA (Z0E x) Z6Y rfl rfl rfl) rfl ?_)))
 refine bsl (out := [_, _]) rfl ZfS Zcb rfl rfl rfl rfl rfl rfl (fun b21 => ?_)
 refine apO (o) rfl ZfA rfl rfl (Z07 (row := Z0E x) rfl) rfl rfl ((by rw [Zv, List.length_take]; simp only [List.length_singleton]; omega)) rfl (fun o22 => ?_)
 refine sp rfl (PE.fA Z3p rfl) rfl ?_
 refine Zy (l' := htl h o22.fs (.slice none 0 0)) rfl rfl rfl ZfZ rfl (by rw [o22.cells.1]; first | done | rfl) (by rw [o22.cells.1]; simp [o22.cells.2]) (by rw [o22.cells.1]; first | done | rfl) (by rw [o22.cells.1]; first | done | exact Nat.le_of_ble_eq_true rfl) ?_
 refine sqr 2 rfl (sp rfl (PE.add rfl rfl (by omega)) rfl (pur 1 rfl ?_))
 exact Ze ⟨⟨k + 1, by omega⟩, o22.cast (by rw [Z5s hx, Zdg]; rfl)⟩ (fun w h9 => (h9.del b21).del b5)
 obtain rfl : k = h.gaps.length := by omega
 obtain ⟨ax, cx, he, hcx, hf⟩ := (o.cast (show _ = Z9 h.gaps by rw [List.take_length])).freezeC
 rw [Zv] at hcx
 rw [show o.fs = _ from he, Zv]
 refine Sy.heap (fun w h9 => hf h9) ?_
 clear he hf
 refine Za (Zc (Zc (Zn (Z0 (sqt 4 rfl (sp rfl (PE.fA ZJ rfl) rfl (spL rfl rfl (lh Z27 rfl rfl) rfl (sp rfl (PE.lenSl Z1W rfl) rfl (pur 1 rfl (Z4 ?_))))))))))
 refine Zg (ι := (k : {k : Nat // k ≤ h.sights.length}) × OSl 111 3 (Z7 (h.sights.take k.1))) (fun x => ⟨[(1, .pointer (some ⟨b1, 0, none⟩)), (2, .pointer (some ⟨b2, 0, none⟩)), (3, .pointer (some ⟨b3, 0, none⟩)), (26, h.ss as_ cs), (27, .int .i64 h.sights.length), (28, .int .i64 x.1.1)], x.2.G ++ ((b3, cel 35 (htl h (.slice ax h.gaps.length cx) x.2.fs)) :: (b2, cel 35 (htl ⟨0, [], []⟩ (.slice none 0 0) (.slice none 0 0))) :: (b1, cel 25 (htl h (h.sg ag cg) (h.ss as_ cs))) :: H), RowsA ax 2 (Z9 h.gaps) :: R⟩) (fun x => h.sights.length - x.1.1) ⟨⟨0, by omega⟩, OSl.nil _ _⟩ ?_ (fun x => ?_)
 exact Zm idH
 obtain ⟨⟨k, hk⟩, o⟩ := x
 dsimp only at hk o ⊢
 refine sqt 1 rfl (pur 1 rfl (Z0 ?_))
 refine Z1 rfl ?_ ?_ <;> intro hc1 <;> try simp only [cS] at hc1
 obtain ⟨x, hx⟩ : ∃ x, h.sights[k]? = some x := ⟨_, List.getElem?_eq_getElem (by omega)⟩
 refine Zl (a := as_) (sz := 3) (rows := Z7 h.sights) (ne0 (by rw [Zt]; omega)) (fun bs os he => ?_)
 subst he
 refine Z2 (Z0 (Z4 (sqt 4 rfl (sp rfl (PE.indexAddr Zdf rfl rfl (by omega) (by omega)) rfl (spL rfl rfl (lfA Z6d (row := ZF x) (Z3U hx) rfl) rfl (alc rfl Z5F rfl (fun b7 => ?_)))))))
 refine Zy (l' := ZF x) rfl rfl rfl ZfL rfl rfl rfl rfl (nl rfl) ?_
 refine sqr 7 rfl (sp rfl (PE.fA Z1s rfl) rfl (spL rfl rfl (lh Z94 rfl rfl) rfl (spL rfl rfl (lhA (ZF x) Z6d rfl rfl rfl) rfl ?_)))
 refine bsl (out := [_, _, _]) rfl ZfF Zbz rfl rfl rfl rfl rfl rfl (fun b35 => ?_)
 refine apO (o) rfl ZfX rfl rfl (Z07 (row := ZF x) rfl) rfl rfl ((by rw [Zt, List.length_take]; simp only [List.length_singleton]; omega)) rfl (fun o36 => ?_)
 refine sp rfl (PE.fA Z1s rfl) rfl ?_
 refine Zy (l' := htl h (.slice ax h.gaps.length cx) o36.fs) rfl rfl rfl ZfO rfl (by rw [o36.cells.1]; first | done | rfl) (by rw [o36.cells.1]; simp [o36.cells.2]) (by rw [o36.cells.1]; first | done | rfl) (by rw [o36.cells.1]; first | done | exact Nat.le_of_ble_eq_true rfl) ?_
 refine sqr 2 rfl (sp rfl (PE.add rfl rfl (by omega)) rfl (pur 1 rfl ?_))
 exact Ze ⟨⟨k + 1, by omega⟩, o36.cast (by rw [Z5s hx, Z1R]; rfl)⟩ (fun w h9 => (h9.del b35).del b7)
 obtain rfl : k = h.sights.length := by omega
 obtain ⟨ay, cy, he, hcy, hf⟩ := (o.cast (show _ = Z7 h.sights by rw [List.take_length])).freezeC
 rw [Zt] at hcy
 rw [show o.fs = _ from he, Zt]
 refine Sy.heap (fun w h9 => hf h9) ?_
 clear he hf
 refine Za (Zc (Zc (Zn (sqt 2 rfl (spL rfl rfl (lhA (htl h (.slice ax h.gaps.length cx) (.slice ay h.sights.length cy)) Z79 rfl rfl rfl) rfl ?_)))))
 refine Zy (l' := htl h (.slice ax h.gaps.length cx) (.slice ay h.sights.length cy)) rfl rfl rfl Zfc rfl rfl rfl rfl (nl rfl) ?_
 refine Z3 ?_
 exact Zd (vs := [_]) rfl (.cons (RV.cell rfl (lhA (htl h (.slice ax h.gaps.length cx) (.slice ay h.sights.length cy)) Z79 rfl rfl rfl)) .nil) rfl ⟨ax, ay, cx, cy, rfl, rfl, rfl⟩ (fun w h9 => ((h9.del b3).del b2).del b1)
theorem Z8G (h q : Hse) (ag as_ ax ay : Option Addr) (cg cs cx cy : Nat) (hlg : h.gaps.length ≤ 9223372036854775807) (hls : h.sights.length ≤ 9223372036854775807) (hqg : q.gaps.length ≤ 9223372036854775807) (hqs : q.sights.length ≤ 9223372036854775807) (H : Z8) (R : Z5) [hG : MemRows ag 2 (Z9 h.gaps) R] [hS : MemRows as_ 3 (Z7 h.sights) R] [hX : MemRows ax 2 (Z9 q.gaps) R] [hY : MemRows ay 3 (Z7 q.sights) R] :
    FnV Tryz.prog 25 [h.v (h.sg ag cg) (h.ss as_ cs), q.v (q.sg ax cx) (q.ss ay cy)] H R (.bool (Z6T h q)) := by
 refine Zh Tryz.func25 rfl Tryz.ntmps25 rfl ?_
 refine sqt 3 rfl (bx rfl rfl rfl (fun b2 => bx rfl rfl rfl (fun b3 => pur 1 rfl (sqt 20 rfl (sp rfl (PE.fA Z0z rfl) rfl (spL rfl rfl (lh (v := .int .i64 h.bins) sc3 rfl rfl) rfl (sp rfl (PE.fA Z0z rfl) rfl (spL rfl rfl (lh (v := .int .i64 q.bins) sc3 rfl rfl) rfl (pur 2 rfl ?_)))))))))
 refine Zq 10 rfl ?_ ?_ <;> intro g10
 refine spG rfl rfl rfl rfl (PE.fA ZS rfl) rfl ?_
 refine Z0D rfl rfl rfl rfl rfl (lh Z2o rfl rfl) rfl ?_
 refine spG rfl rfl rfl rfl (PE.fA ZS rfl) rfl ?_
 refine Z0D rfl rfl rfl rfl rfl (lh Z2o rfl rfl) rfl ?_
 refine Z3G rfl rfl rfl rfl Zfv rfl rfl (Zae h.gaps q.gaps ag ax cg cx hlg hqg _ _) ?_
 refine pur 2 rfl ?_
 refine Zq 17 rfl ?_ ?_ <;> intro g17
 refine spG rfl rfl rfl rfl (PE.fA ZJ rfl) rfl ?_
 refine Z0D rfl rfl rfl rfl rfl (lh Z27 rfl rfl) rfl ?_
 refine spG rfl rfl rfl rfl (PE.fA ZJ rfl) rfl ?_
 refine Z0D rfl rfl rfl rfl rfl (lh Z27 rfl rfl) rfl ?_
 refine Z3G rfl rfl rfl rfl Zff rfl rfl (Z9s h.sights q.sights as_ ay cs cy hls hqs _ _) ?_
 refine pur 2 rfl (Z3 ?_)
 exact rtA rfl rfl rfl ⟨by simp only [ZM, Z6T]; first | (rw [g10, g17]; rfl) | (rw [g10]; rfl), rfl, rfl⟩ (fun w h9 => (h9.del b3).del b2)
 refine pur 7 rfl (Z3 ?_)
 exact rtA rfl rfl rfl ⟨by simp only [ZM, Z6T]; first | (rw [g10, g17]; rfl) | (rw [g10]; rfl), rfl, rfl⟩ (fun w h9 => (h9.del b3).del b2)
 refine pur 14 rfl (Z3 ?_)
 exact rtA rfl rfl rfl ⟨by simp only [ZM, Z6T]; first | (rw [g10, g17]; rfl) | (rw [g10]; rfl), rfl, rfl⟩ (fun w h9 => (h9.del b3).del b2)
theorem ZaW (n : Nat) (hn : n ≤ 20) (H : Z8) (R : Z5) :
    FnV Tryz.prog 74 [.int .i64 (n : Int)] H R (.int .i64 ((2 ^ n : Nat) : Int)) := by
 refine Zh Tryz.func74 rfl Tryz.ntmps74 rfl ?_
 refine sqt 1 rfl (pur 1 rfl (sqt 1 rfl (pur 1 rfl (Z0 (sqt 1 rfl (pur 1 rfl (Z4 ?_)))))))
 refine Zg (ι := {k : Nat // k ≤ n}) (fun k => ⟨[(0, .int .i64 (n : Int)), (3, .int .i64 ((2 ^ k.1 : Nat) : Int)), (4, .int .i64 (k.1 : Int))], H, R⟩) (fun k => n - k.1) ⟨0, Nat.zero_le _⟩ ?_ (fun k => ?_)
 exact Zm idH
 obtain ⟨k, hk⟩ := k
 dsimp only at hk ⊢
 have hp := Nat.pow_le_pow_right (show 0 < 2 by decide) (show k ≤ 20 by omega)
 have h20 : (2 : Nat) ^ 20 = 1048576 := rfl
 have hps := Nat.pow_succ 2 k
 refine Z0 (sqt 3 rfl (pur 3 rfl ?_))
 refine Z1 rfl ?_ ?_ <;> intro hc0 <;> try simp only [cS] at hc0
 refine Z2 (Z0 (Z4 (sqr 3 rfl (pur 1 rfl (sp rfl (PE.mul rfl rfl (by omega)) rfl (pur 1 rfl (sqr 3 rfl (pur 1 rfl (sp rfl (PE.add rfl rfl (by omega)) rfl (pur 1 rfl ?_))))))))))
 rw [show (2 : Int) * ((2 ^ k : Nat) : Int) = ((2 ^ (k + 1) : Nat) : Int) by omega]
 exact Ze ⟨k + 1, by omega⟩ idH
 obtain rfl : k = n := by omega
 refine Za (Zc (Zc (Zn (sqt 2 rfl (pur 2 rfl (Z3 ?_))))))
 exact rtA rfl rfl rfl ⟨rfl, rfl, rfl⟩ drp
set_option maxHeartbeats 400000 in
theorem ZdV (h : Hse) (ag as_ : Option Addr) (cg cs : Nat) (hok : h.ok) (fr : List Int) (af : Option Addr) (cf : Nat) (hfr : ZH h.bins fr = 0) (set : Nat) (hst : set < 2 ^ 10) (H : Z8) (R : Z5) [hG : MemRows ag 2 (Z9 h.gaps) R] [hS : MemRows as_ 3 (Z7 h.sights) R] [hF : MemRows af 1 (Z6 fr) R] :
    FnV Tryz.prog 106 [h.v (h.sg ag cg) (h.ss as_ cs), .slice af fr.length cf, .int .i64 (set : Int)] H R (.bool (ZcS h (msk fr) set)) := by
 refine Zh Tryz.func106 rfl Tryz.ntmps106 rfl ?_
 refine sqt 2 rfl ?_
 have hbn := hok.bins
 have hsl := hok.sl
 obtain ⟨B, hB⟩ : ∃ B : Nat, h.bins = B := ⟨h.bins.toNat, by omega⟩
 have hBt : h.bins.toNat = B := by omega
 have h10 : (2 : Nat) ^ 10 = 1024 := rfl
 rw [show (set : Int) = ((set >>> 0 : Nat) : Int) from rfl]
 refine Sy.heap (fun w h9 => St.norows (sz := 1) h9) ?_
 refine bx rfl rfl rfl (fun b3 => pur 1 rfl (sqt 4 rfl (spL rfl rfl (lhA (htl h (h.sg ag cg) (h.ss as_ cs)) Z79 rfl rfl rfl) rfl (pur 1 rfl ?_))))
 refine cl rfl Zbi rfl rfl (Z4j h ag as_ cg cs hok fr [] af none cf 0 hfr (fun x hx => by cases hx) (by decide) _ _) ?_
 rintro _ _ R1 ⟨aw, cw, rfl, rfl, hR1⟩
 obtain rfl := hR1.symm
 clear hR1
 rw [hBt]
 refine pur 1 rfl (Z0 (sqt 1 rfl ?_))
 rw [show msk [] = 0 from rfl]
 refine pur 1 rfl (Z4 ?_)
 refine Zg (ι := {k : Nat // k ≤ h.sights.length ∧ ∀ i, i < k → ∀ s, h.sights[i]? = some s → (!(set.testBit i) || exS h.gaps (msk fr) s) = true}) (fun k => ⟨[(2, .int .i64 ((set >>> k.1 : Nat) : Int)), (3, .pointer (some ⟨b3, 0, none⟩)), (7, .slice aw B cw), (8, .int .i64 (k.1 : Int))], (b3, cel 35 (htl h (h.sg ag cg) (h.ss as_ cs))) :: H, RowsA aw 1 (Z6 (wkL h.gaps 0 (msk fr) B)) :: RowsA none 1 [] :: R⟩) (fun k => h.sights.length - k.1) ⟨0, Nat.zero_le _, fun i hi => absurd hi (Nat.not_lt_zero _)⟩ ?_ (fun k => ?_)
 exact Zm idH
 obtain ⟨k, hk, hall⟩ := k
 dsimp only at hk hall ⊢
 have hsk : set >>> k ≤ set := Nat.shiftRight_le _ _
 refine Z0 (sqt 5 rfl (pur 1 rfl (sp rfl (PE.fA Z1s rfl) rfl (spL rfl rfl (lh Z94 rfl rfl) rfl (sp rfl (PE.lenSl Z7F rfl) rfl (pur 1 rfl ?_))))))
 refine Z1 rfl ?_ ?_ <;> intro hc0 <;> try simp only [cS] at hc0
 obtain ⟨x, hx⟩ : ∃ x, h.sights[k]? = some x := ⟨_, List.getElem?_eq_getElem (by omega)⟩
 have hso := hok.sights x (List.mem_of_getElem? hx)
 have hex : exS h.gaps (msk fr) x = (decide (wk h.gaps 0 (msk fr) x.bin.toNat ≤ x.week) == x.seen) := rfl
 have hxb : x.bin.toNat < B := by have := hso.2; omega
 have hgw := Z0v (l := (wkL h.gaps 0 (msk fr) B)) (k := x.bin.toNat) (by rw [Z22]; exact hxb)
 rw [Z8b hxb] at hgw
 have hwc := Zap (gs := h.gaps) (m := (msk fr)) (k := x.bin.toNat) hso.1.2
 have hgw2 : (Z6 (wkL h.gaps 0 (msk fr) B))[x.bin.toNat]? = some [.int .i64 (wkC h.gaps 0 (msk fr) x.bin.toNat)] := Z0b hgw
 generalize wkC h.gaps 0 (msk fr) x.bin.toNat = wx at *
 refine Zl (a := aw) (sz := 1) (rows := Z6 (wkL h.gaps 0 (msk fr) B)) (by intro h0; have := congrArg List.length h0; rw [irl, Z22] at this; simp only [List.length_nil] at this; omega) (fun bw ow hew => ?_)
 subst hew
 refine Zl (a := as_) (sz := 3) (rows := Z7 h.sights) (ne0 (by rw [Zt]; omega)) (fun bs os he => ?_)
 subst he
 refine Z2 (Z0 (Z4 (sqt 7 rfl (sp rfl (PE.fA Z1s rfl) rfl (spL rfl rfl (lh Z94 rfl rfl) rfl (pur 1 rfl (sp rfl (PE.indexAddr Zes rfl rfl (by omega) (by omega)) rfl (spL rfl rfl (lfA ZcM (row := ZF x) (Z3U hx) rfl) rfl (alc rfl Zbz rfl (fun b9 => ?_))))))))))
 refine Zy (l' := ZF x) rfl rfl rfl Zdn rfl rfl rfl rfl (nl rfl) ?_
 refine Z0 (Z0 ?_)
 refine Zi [0, 1, 3, 7, 15, 31, 15, 15, 143, 463, 975, 1999, 4047, 8143, 8143, 24527, 65487, 131023, 8143, 270287, 1048527, 2097103, 4194303, 8388607] (tks 0 5 (.ld 5 (.tk 6 (.tk 7 (.ld 8 (.tk 9 (.ld 10 (tks 11 4 (.ld 15 (.tk 16 (.ld 17 (.tk 18 (.ld 19 (tks 20 4 .done)))))))))))))) Zz (by kernel_rfl) ?_
 refine Zp 1 rfl (tk rfl (PE.rem rfl rfl ⟨Int.natCast_nonneg _, by decide⟩) rfl (Zp 2 rfl ?_))
 refine Zq 28 rfl ?_ ?_ <;> intro g28
 rw [Z87] at g28
 refine tkG rfl rfl rfl rfl (PE.fA Z7V rfl) rfl ?_
 refine ldG rfl rfl rfl rfl rfl (lh sc4 rfl rfl) rfl (Zp 1 rfl ?_)
 refine tkG rfl rfl rfl rfl (PE.fA Z3A rfl) rfl ?_
 refine ldG rfl rfl rfl rfl rfl (lh sc3 rfl rfl) rfl ?_
 skip
 refine tkG rfl rfl rfl rfl (PE.indexAddr Z1T rfl rfl (by omega) (by omega)) rfl ?_
 refine ldG rfl rfl rfl rfl rfl (lf0 sc3 hgw2 rfl) rfl (Zp 2 rfl ?_)
 refine Zq 37 rfl ?_ ?_ <;> intro g37
 refine Zp 1 rfl ?_
 refine tkG rfl rfl rfl rfl (PE.fA Z3A rfl) rfl ?_
 refine ldG rfl rfl rfl rfl rfl (lh sc3 rfl rfl) rfl ?_
 refine tkG rfl rfl rfl rfl (PE.indexAddr Z1T rfl rfl (by omega) (by omega)) rfl ?_
 refine ldG rfl rfl rfl rfl rfl (lf0 sc3 hgw2 rfl) rfl ?_
 refine tkG rfl rfl rfl rfl (PE.fA Z5l rfl) rfl ?_
 refine ldG rfl rfl rfl rfl rfl (lh sc3 rfl rfl) rfl (Zp 2 rfl ?_)
 refine tkG rfl rfl rfl rfl (PE.neqBool ub4 rfl rfl) rfl ?_
 refine Zp 1 rfl ?_
 refine Z1 rfl ?_ ?_ <;> intro hc1
 refine sqt 1 rfl (pur 1 rfl (Z3 ?_))
 exact rtA rfl rfl rfl ⟨by
   simp only [ZM]
   have he0 : exS h.gaps (msk fr) x = false := by
     rw [hex, ← hwc]
     first
       | (rw [g37, Bool.true_and]; cases hs9 : x.seen <;> rw [hs9] at hc1 <;> simp_all)
       | (rw [g37, Bool.false_and]; cases hs9 : x.seen <;> rw [hs9] at hc1 <;> simp_all)
   rw [ZaQ hx g28 he0], rfl, rfl⟩ (fun w h9 => St.sub ((h9.del b9).del b3))
 have hk1 : (!(set.testBit k) || exS h.gaps (msk fr) x) = true := by
   rw [hex, ← hwc]
   first
     | (rw [g28]; rfl)
     | (rw [g28, g37, Bool.true_and]; cases hs9 : x.seen <;> rw [hs9] at hc1 <;> simp_all)
     | (rw [g28, g37, Bool.false_and]; cases hs9 : x.seen <;> rw [hs9] at hc1 <;> simp_all)
 refine Z2 (sqr 3 rfl (pur 1 rfl (sp rfl (PE.quo rfl rfl ⟨Int.natCast_nonneg _, by omega, by decide⟩) rfl ?_)))
 rw [Z4a]
 refine pur 1 rfl (sqr 3 rfl (pur 1 rfl (sp rfl (PE.add rfl rfl (by omega)) rfl (pur 1 rfl ?_))))
 exact Zb ⟨k + 1, by omega, fun i hi s hs => by
   rcases Nat.lt_or_ge i k with h1 | h1
   · exact hall i h1 s hs
   · obtain rfl : i = k := by omega
     rw [hx] at hs
     obtain rfl := Option.some.inj hs
     exact hk1⟩ (by dsimp only; omega) (by repeat' first | exact Sub.nil | apply Sub.cons | rfl | (simp [lk]; omega)) (fun w h9 => h9.del b9)
 refine Zp 2 rfl ?_
 refine ldN rfl rfl rfl rfl rfl rfl rfl rfl ?_
 refine Zp 1 rfl ?_
 refine ldN rfl rfl rfl rfl rfl rfl rfl rfl ?_
 refine Zp 1 rfl ?_
 refine ldN rfl rfl rfl rfl rfl rfl rfl rfl ?_
 refine Zp 2 rfl ?_
 refine tkG rfl rfl rfl rfl (PE.neqBool ub4 rfl rfl) rfl ?_
 refine Zp 1 rfl ?_
 refine Z1 rfl ?_ ?_ <;> intro hc1
 refine sqt 1 rfl (pur 1 rfl (Z3 ?_))
 exact rtA rfl rfl rfl ⟨by
   simp only [ZM]
   have he0 : exS h.gaps (msk fr) x = false := by
     rw [hex, ← hwc]
     first
       | (rw [g37, Bool.true_and]; cases hs9 : x.seen <;> rw [hs9] at hc1 <;> simp_all)
       | (rw [g37, Bool.false_and]; cases hs9 : x.seen <;> rw [hs9] at hc1 <;> simp_all)
   rw [ZaQ hx g28 he0], rfl, rfl⟩ (fun w h9 => St.sub ((h9.del b9).del b3))
 have hk1 : (!(set.testBit k) || exS h.gaps (msk fr) x) = true := by
   rw [hex, ← hwc]
   first
     | (rw [g28]; rfl)
     | (rw [g28, g37, Bool.true_and]; cases hs9 : x.seen <;> rw [hs9] at hc1 <;> simp_all)
     | (rw [g28, g37, Bool.false_and]; cases hs9 : x.seen <;> rw [hs9] at hc1 <;> simp_all)
 refine Z2 (sqr 3 rfl (pur 1 rfl (sp rfl (PE.quo rfl rfl ⟨Int.natCast_nonneg _, by omega, by decide⟩) rfl ?_)))
 rw [Z4a]
 refine pur 1 rfl (sqr 3 rfl (pur 1 rfl (sp rfl (PE.add rfl rfl (by omega)) rfl (pur 1 rfl ?_))))
 exact Zb ⟨k + 1, by omega, fun i hi s hs => by
   rcases Nat.lt_or_ge i k with h1 | h1
   · exact hall i h1 s hs
   · obtain rfl : i = k := by omega
     rw [hx] at hs
     obtain rfl := Option.some.inj hs
     exact hk1⟩ (by dsimp only; omega) (by repeat' first | exact Sub.nil | apply Sub.cons | rfl | (simp [lk]; omega)) (fun w h9 => h9.del b9)
 rw [Z87] at g28
 have hk1 : (!(set.testBit k) || exS h.gaps (msk fr) x) = true := by rw [g28]; rfl
 refine Zp 1 rfl ?_
 refine ldN rfl rfl rfl rfl rfl rfl rfl rfl ?_
 refine Zp 2 rfl ?_
 refine ldN rfl rfl rfl rfl rfl rfl rfl rfl ?_
 refine Zp 1 rfl ?_
 refine ldN rfl rfl rfl rfl rfl rfl rfl rfl ?_
 refine Zp 2 rfl ?_
 repeat refine tkU rfl rfl rfl rfl rfl rfl rfl ?_
 refine ldU rfl rfl rfl rfl rfl rfl rfl ?_
 refine tkU rfl rfl rfl rfl rfl rfl rfl ?_
 refine ldU rfl rfl rfl rfl rfl rfl rfl ?_
 refine tkU rfl rfl rfl rfl rfl rfl rfl ?_
 refine ldU rfl rfl rfl rfl rfl rfl rfl ?_
 refine tkU rfl rfl rfl rfl rfl rfl rfl ?_
 refine Zp 3 rfl ?_
 refine ZE rfl ?_
 refine Z2 (sqr 3 rfl (pur 1 rfl (sp rfl (PE.quo rfl rfl ⟨Int.natCast_nonneg _, by omega, by decide⟩) rfl ?_)))
 rw [Z4a]
 refine pur 1 rfl (sqr 3 rfl (pur 1 rfl (sp rfl (PE.add rfl rfl (by omega)) rfl (pur 1 rfl ?_))))
 exact Zb ⟨k + 1, by omega, fun i hi s hs => by
   rcases Nat.lt_or_ge i k with h1 | h1
   · exact hall i h1 s hs
   · obtain rfl : i = k := by omega
     rw [hx] at hs
     obtain rfl := Option.some.inj hs
     exact hk1⟩ (by dsimp only; omega) (by repeat' first | exact Sub.nil | apply Sub.cons | rfl | (simp [lk]; omega)) (fun w h9 => h9.del b9)
 have hrx := Zbf (h := h) (by omega) hall
 refine Za (Zc (Zc (Zn (sqt 1 rfl (pur 1 rfl (Z3 ?_))))))
 exact rtA rfl rfl rfl ⟨by simp only [ZM]; rw [hrx], rfl, rfl⟩ (fun w h9 => St.sub (h9.del b3))
theorem Z5v (h : Hse) (ag as_ : Option Addr) (cg cs : Nat) (hok : h.ok) (fr : List Int) (af : Option Addr) (cf : Nat) (hfr : ZH h.bins fr = 0) (H : Z8) (R : Z5) [hG : MemRows ag 2 (Z9 h.gaps) R] [hS : MemRows as_ 3 (Z7 h.sights) R] [hF : MemRows af 1 (Z6 fr) R] :
    FnV Tryz.prog 39 [h.v (h.sg ag cg) (h.ss as_ cs), .slice af fr.length cf] H R (.bool (Z1U h.gaps (msk fr) h.sights)) := by
 refine Zh Tryz.func39 rfl Tryz.ntmps39 rfl ?_
 refine sqt 2 rfl ?_
 have hsl := hok.sl
 have hp := Nat.pow_le_pow_right (show 0 < 2 by decide) (show h.sights.length ≤ 8 by omega)
 have h8 : (2 : Nat) ^ 8 = 256 := rfl
 have hpp := Nat.two_pow_pos h.sights.length
 refine bx rfl rfl rfl (fun b2 => pur 1 rfl (Z0 ?_))
 refine Zi [0, 0, 0, 4, 12, 28, 60, 127, 255] (.ld 0 (.tk 1 (.tk 2 (.ld 3 (.tk 4 (.big 5 (.tk 6 (.big 7 (.tk 8 .done))))))))) Zz (by kernel_rfl) ?_
 refine ld rfl rfl (lhA (htl h (h.sg ag cg) (h.ss as_ cs)) Z79 rfl rfl rfl) rfl (Zp 1 rfl (tk rfl (PE.fA Z1s rfl) rfl (ld rfl rfl (lh Z94 rfl rfl) rfl (tk rfl (PE.lenSl Z7F rfl) rfl ?_))))
 refine clV rfl ZeW rfl rfl (ZaW h.sights.length (by omega) _ _) ?_
 refine bg (fun w hs => ⟨trivial, (lhA (htl h (h.sg ag cg) (h.ss as_ cs)) Z79 rfl rfl rfl) w hs, trivial⟩) ?_
 refine tk rfl (PE.sub rfl rfl (by omega)) rfl ?_
 rw [show ((2 ^ h.sights.length : Nat) : Int) - 1 = ((2 ^ h.sights.length - 1 : Nat) : Int) by omega]
 refine clV rfl Zd7 rfl rfl (ZdV h ag as_ cg cs hok fr af cf hfr (2 ^ h.sights.length - 1) (by omega) _ _) ?_
 refine bgT (Zp 1 rfl (Z3 ?_))
 exact rtA rfl rfl rfl ⟨by simp only [ZM]; rw [Zc4], rfl, rfl⟩ (fun w h9 => h9.del b2)
set_option maxHeartbeats 600000 in
theorem Z6N (h : Hse) (ag as_ : Option Addr) (cg cs : Nat) (hok : h.ok) (H : Z8) (R : Z5) [hG : MemRows ag 2 (Z9 h.gaps) R] [hS : MemRows as_ 3 (Z7 h.sights) R] :
    Fn Tryz.prog 40 [h.v (h.sg ag cg) (h.ss as_ cs)] H R (fun v H' R' => ∃ (a : Option Addr) (c : Nat), v = .slice a h.clrR.1.length c ∧ H' = H ∧ R' = RowsA a 1 (Z6 h.clrR.1) :: R) := by
 refine Zh Tryz.func40 rfl Tryz.ntmps40 rfl ?_
 refine sqt 2 rfl ?_
 have hbn := hok.bins
 have hsl := hok.sl
 obtain ⟨B, hB⟩ : ∃ B : Nat, h.bins = B := ⟨h.bins.toNat, by omega⟩
 have hBt : h.bins.toNat = B := by omega
 have hcr := Zcd hok
 rw [hBt] at hcr
 rw [hcr]
 refine Sy.heap (fun w h9 => St.norows (sz := 1) h9) ?_
 refine bx rfl rfl rfl (fun b1 => pur 1 rfl (sqt 1 rfl (pur 1 rfl (Z0 (sqt 1 rfl (pur 1 rfl (Z4 ?_)))))))
 refine Zg (ι := (k : {k : Nat // k ≤ B}) × OSl 3 1 (Z6 (Z2K (fun k => Z2n h k h.sights.length) k.1))) (fun y => ⟨[(1, .pointer (some ⟨b1, 0, none⟩)), (3, y.2.fs), (4, .int .i64 (y.1.1 : Int))], y.2.G ++ ((b1, cel 35 (htl h (h.sg ag cg) (h.ss as_ cs))) :: H), RowsA none 1 [] :: R⟩) (fun y => B - y.1.1) ⟨⟨0, Nat.zero_le _⟩, OSl.nil _ _⟩ ?_ (fun y => ?_)
 exact Zm idH
 obtain ⟨⟨k, hk⟩, o⟩ := y
 dsimp only at hk o ⊢
 have hfl := Z2f (fun k => Z2n h k h.sights.length) k
 refine Z0 (sqt 4 rfl (pur 1 rfl (sp rfl (PE.fA Z2G rfl) rfl (spL rfl rfl (lh (v := .int .i64 h.bins) sc3 rfl rfl) rfl ?_))))
 rw [hB]
 refine pur 1 rfl ?_
 refine Z1 rfl ?_ ?_ <;> intro hc0 <;> try simp only [cS] at hc0
 have hkl : ZH h.bins [(k : Int)] = 0 := Z69 (fun x hx => by rw [List.mem_singleton.1 hx]; omega) (by simp)
 refine Z2 (Z0 (Z4 (sqt 6 rfl (spL rfl rfl (lhA (htl h (h.sg ag cg) (h.ss as_ cs)) Z79 rfl rfl rfl) rfl (pur 1 rfl ?_)))))
 refine bsl (out := [_]) rfl Z0K zl3 rfl rfl rfl rfl rfl rfl (fun b17 => ?_)
 refine Sy.heap (fun w h9 => St.rows (sz := 1) (rows := Z6 [(k : Int)]) (rest := []) (h9.pull b17) (by simp)) ?_
 refine cl rfl Zbi rfl rfl (Z4j h ag as_ cg cs hok [(k : Int)] [] (some ⟨b17, 0, none⟩) none 1 0 hkl (fun x hx => by cases hx) (by decide) _ _) ?_
 rintro _ _ R1 ⟨aw, cw, rfl, rfl, hR1⟩
 obtain rfl := hR1.symm
 clear hR1
 rw [hBt]
 refine pur 2 rfl (Z0 (sqt 1 rfl ?_))
 rw [show msk [] = 0 from rfl, Z8q]
 refine pur 1 rfl (Z4 ?_)
 refine Zg (ι := {i : Nat // i ≤ h.sights.length}) (fun i => ⟨[(1, .pointer (some ⟨b1, 0, none⟩)), (3, o.fs), (4, .int .i64 (k : Int)), (5, .slice aw B cw), (6, .bool (Z2n h k i.1)), (7, .int .i64 (i.1 : Int))], o.G ++ ((b1, cel 35 (htl h (h.sg ag cg) (h.ss as_ cs))) :: H), RowsA aw 1 (Z6 (wkL h.gaps 0 (2 ^ k) B)) :: RowsA none 1 [] :: R⟩) (fun i => h.sights.length - i.1) ⟨0, Nat.zero_le _⟩ ?_ (fun i => ?_)
 exact Zm (fun w h9 => h9.facts (fun g hg => by simp only [List.mem_cons] at hg ⊢; rcases hg with h8 | h8 | h8 <;> simp [h8]))
 obtain ⟨i, hi⟩ := i
 dsimp only at hi ⊢
 refine Z0 (sqt 5 rfl (pur 1 rfl (sp rfl (PE.fA Z1s rfl) rfl (spL rfl rfl (lh Z94 rfl rfl) rfl (sp rfl (PE.lenSl Z7F rfl) rfl (pur 1 rfl ?_))))))
 refine Z1 rfl ?_ ?_ <;> intro hc1 <;> try simp only [cS] at hc1
 obtain ⟨x, hx⟩ : ∃ x, h.sights[i]? = some x := ⟨_, List.getElem?_eq_getElem (by omega)⟩
 have hso := hok.sights x (List.mem_of_getElem? hx)
 have hcs : Z2n h k (i + 1) = (Z2n h k i || (!x.seen && decide (wk h.gaps 0 (2 ^ k) x.bin.toNat ≤ x.week))) := Z34 hx
 have hxb : x.bin.toNat < B := by have := hso.2; omega
 have hgw := Z0v (l := (wkL h.gaps 0 (2 ^ k) B)) (k := x.bin.toNat) (by rw [Z22]; exact hxb)
 rw [Z8b hxb] at hgw
 have hwc := Zap (gs := h.gaps) (m := (2 ^ k)) (k := x.bin.toNat) hso.1.2
 have hgw2 : (Z6 (wkL h.gaps 0 (2 ^ k) B))[x.bin.toNat]? = some [.int .i64 (wkC h.gaps 0 (2 ^ k) x.bin.toNat)] := Z0b hgw
 generalize wkC h.gaps 0 (2 ^ k) x.bin.toNat = wx at *
 refine Zl (a := aw) (sz := 1) (rows := Z6 (wkL h.gaps 0 (2 ^ k) B)) (by intro h0; have := congrArg List.length h0; rw [irl, Z22] at this; simp only [List.length_nil] at this; omega) (fun bw ow hew => ?_)
 subst hew
 rw [← hwc] at hcs
 refine Zl (a := as_) (sz := 3) (rows := Z7 h.sights) (ne0 (by rw [Zt]; omega)) (fun bs os he => ?_)
 subst he
 refine Z2 (Z0 (Z4 (sqt 7 rfl (sp rfl (PE.fA Z1s rfl) rfl (spL rfl rfl (lh Z94 rfl rfl) rfl (pur 1 rfl (sp rfl (PE.indexAddr Zes rfl rfl (by omega) (by omega)) rfl (spL rfl rfl (lfA ZcM (row := ZF x) (Z3U hx) rfl) rfl (alc rfl Zbz rfl (fun b8 => ?_))))))))))
 refine Zy (l' := ZF x) rfl rfl rfl Zdn rfl rfl rfl rfl (nl rfl) ?_
 refine Zi [0, 1, 3, 7, 15, 31, 63, 63, 191, 511, 1023, 2047, 4095, 8191, 16383, 16383, 49151, 131071, 262143, 16383, 540671, 2097151, 4194303, 8388607, 16777215] (tks 0 3 (.ld 3 (tks 4 4 (.ld 8 (.tk 9 (.ld 10 (tks 11 5 (.ld 16 (.tk 17 (.ld 18 (.tk 19 (.ld 20 (tks 21 4 .done))))))))))))) Zz (by kernel_rfl) ?_
 refine Zp 2 rfl ?_
 refine Zq 32 rfl ?_ ?_ <;> intro g32
 refine Zp 1 rfl ?_
 refine ldN rfl rfl rfl rfl rfl rfl rfl rfl ?_
 refine Zp 2 rfl ?_
 repeat refine tkU rfl rfl rfl rfl rfl rfl rfl ?_
 refine ldU rfl rfl rfl rfl rfl rfl rfl ?_
 refine tkU rfl rfl rfl rfl rfl rfl rfl ?_
 refine ldU rfl rfl rfl rfl rfl rfl rfl ?_
 refine tkU rfl rfl rfl rfl rfl rfl rfl ?_
 refine Zp 2 rfl ?_
 repeat refine tkU rfl rfl rfl rfl rfl rfl rfl ?_
 refine ldU rfl rfl rfl rfl rfl rfl rfl ?_
 refine tkU rfl rfl rfl rfl rfl rfl rfl ?_
 refine ldU rfl rfl rfl rfl rfl rfl rfl ?_
 refine tkU rfl rfl rfl rfl rfl rfl rfl ?_
 refine ldU rfl rfl rfl rfl rfl rfl rfl ?_
 refine tkU rfl rfl rfl rfl rfl rfl rfl ?_
 refine Zp 3 rfl (sqr 3 rfl (pur 1 rfl (sp rfl (PE.add rfl rfl (by omega)) rfl (pur 1 rfl ?_))))
 first
   | exact absurd g44 (by decide)
   | (have hn9 : Z2n h k (i + 1) = true := by rw [hcs, g32]; rfl
      exact Zb ⟨i + 1, by omega⟩ (by dsimp only; omega) (by rw [hn9]; exact (by repeat' first | exact Sub.nil | apply Sub.cons | rfl | (simp [lk]; omega))) (fun w h9 => h9.del b8))
   | (have hn9 : Z2n h k (i + 1) = false := by rw [hcs, g32, g36]; rfl
      exact Zb ⟨i + 1, by omega⟩ (by dsimp only; omega) (by rw [hn9]; exact (by repeat' first | exact Sub.nil | apply Sub.cons | rfl | (simp [lk]; omega))) (fun w h9 => h9.del b8))
   | (have hn9 : Z2n h k (i + 1) = false := by rw [hcs, g32, g36, g44]; rfl
      exact Zb ⟨i + 1, by omega⟩ (by dsimp only; omega) (by rw [hn9]; exact (by repeat' first | exact Sub.nil | apply Sub.cons | rfl | (simp [lk]; omega))) (fun w h9 => h9.del b8))
   | (have hn9 : Z2n h k (i + 1) = decide (wx ≤ x.week) := by rw [hcs, g32, g36, g44]; rfl
      exact Zb ⟨i + 1, by omega⟩ (by dsimp only; omega) (by rw [hn9]; exact (by repeat' first | exact Sub.nil | apply Sub.cons | rfl | (simp [lk]; omega))) (fun w h9 => h9.del b8))
 refine tkG rfl rfl rfl rfl (PE.fA Z7V rfl) rfl ?_
 refine ldG rfl rfl rfl rfl rfl (lh sc4 rfl rfl) rfl (Zp 2 rfl ?_)
 refine Zq 36 rfl ?_ ?_ <;> intro g36
 refine Zp 1 rfl ?_
 refine tkG rfl rfl rfl rfl (PE.fA Z3A rfl) rfl ?_
 refine ldG rfl rfl rfl rfl rfl (lh sc3 rfl rfl) rfl ?_
 refine tkG rfl rfl rfl rfl (PE.indexAddr Z1T rfl rfl (by omega) (by omega)) rfl ?_
 refine ldG rfl rfl rfl rfl rfl (lf0 sc3 hgw2 rfl) rfl (Zp 3 rfl ?_)
 refine Zq 44 rfl ?_ ?_ <;> intro g44
 refine Zp 1 rfl ?_
 refine tkG rfl rfl rfl rfl (PE.fA Z3A rfl) rfl ?_
 refine ldG rfl rfl rfl rfl rfl (lh sc3 rfl rfl) rfl ?_
 refine tkG rfl rfl rfl rfl (PE.indexAddr Z1T rfl rfl (by omega) (by omega)) rfl ?_
 refine ldG rfl rfl rfl rfl rfl (lf0 sc3 hgw2 rfl) rfl ?_
 refine tkG rfl rfl rfl rfl (PE.fA Z5l rfl) rfl ?_
 refine ldG rfl rfl rfl rfl rfl (lh sc3 rfl rfl) rfl (Zp 4 rfl (sqr 3 rfl (pur 1 rfl (sp rfl (PE.add rfl rfl (by omega)) rfl (pur 1 rfl ?_)))))
 first
   | exact absurd g44 (by decide)
   | (have hn9 : Z2n h k (i + 1) = true := by rw [hcs, g32]; rfl
      exact Zb ⟨i + 1, by omega⟩ (by dsimp only; omega) (by rw [hn9]; exact (by repeat' first | exact Sub.nil | apply Sub.cons | rfl | (simp [lk]; omega))) (fun w h9 => h9.del b8))
   | (have hn9 : Z2n h k (i + 1) = false := by rw [hcs, g32, g36]; rfl
      exact Zb ⟨i + 1, by omega⟩ (by dsimp only; omega) (by rw [hn9]; exact (by repeat' first | exact Sub.nil | apply Sub.cons | rfl | (simp [lk]; omega))) (fun w h9 => h9.del b8))
   | (have hn9 : Z2n h k (i + 1) = false := by rw [hcs, g32, g36, g44]; rfl
      exact Zb ⟨i + 1, by omega⟩ (by dsimp only; omega) (by rw [hn9]; exact (by repeat' first | exact Sub.nil | apply Sub.cons | rfl | (simp [lk]; omega))) (fun w h9 => h9.del b8))
   | (have hn9 : Z2n h k (i + 1) = decide (wx ≤ x.week) := by rw [hcs, g32, g36, g44]; rfl
      exact Zb ⟨i + 1, by omega⟩ (by dsimp only; omega) (by rw [hn9]; exact (by repeat' first | exact Sub.nil | apply Sub.cons | rfl | (simp [lk]; omega))) (fun w h9 => h9.del b8))
 refine Zp 2 rfl ?_
 refine ldN rfl rfl rfl rfl rfl rfl rfl rfl ?_
 refine Zp 1 rfl ?_
 refine ldN rfl rfl rfl rfl rfl rfl rfl rfl ?_
 refine Zp 1 rfl ?_
 refine ldN rfl rfl rfl rfl rfl rfl rfl rfl ?_
 refine Zp 4 rfl (sqr 3 rfl (pur 1 rfl (sp rfl (PE.add rfl rfl (by omega)) rfl (pur 1 rfl ?_))))
 first
   | exact absurd g44 (by decide)
   | (have hn9 : Z2n h k (i + 1) = true := by rw [hcs, g32]; rfl
      exact Zb ⟨i + 1, by omega⟩ (by dsimp only; omega) (by rw [hn9]; exact (by repeat' first | exact Sub.nil | apply Sub.cons | rfl | (simp [lk]; omega))) (fun w h9 => h9.del b8))
   | (have hn9 : Z2n h k (i + 1) = false := by rw [hcs, g32, g36]; rfl
      exact Zb ⟨i + 1, by omega⟩ (by dsimp only; omega) (by rw [hn9]; exact (by repeat' first | exact Sub.nil | apply Sub.cons | rfl | (simp [lk]; omega))) (fun w h9 => h9.del b8))
   | (have hn9 : Z2n h k (i + 1) = false := by rw [hcs, g32, g36, g44]; rfl
      exact Zb ⟨i + 1, by omega⟩ (by dsimp only; omega) (by rw [hn9]; exact (by repeat' first | exact Sub.nil | apply Sub.cons | rfl | (simp [lk]; omega))) (fun w h9 => h9.del b8))
   | (have hn9 : Z2n h k (i + 1) = decide (wx ≤ x.week) := by rw [hcs, g32, g36, g44]; rfl
      exact Zb ⟨i + 1, by omega⟩ (by dsimp only; omega) (by rw [hn9]; exact (by repeat' first | exact Sub.nil | apply Sub.cons | rfl | (simp [lk]; omega))) (fun w h9 => h9.del b8))
 refine Zp 2 rfl ?_
 refine ldN rfl rfl rfl rfl rfl rfl rfl rfl ?_
 refine Zp 1 rfl ?_
 refine ldN rfl rfl rfl rfl rfl rfl rfl rfl ?_
 refine Zp 5 rfl ?_
 refine ldN rfl rfl rfl rfl rfl rfl rfl rfl ?_
 refine Zp 1 rfl ?_
 refine ldN rfl rfl rfl rfl rfl rfl rfl rfl ?_
 refine Zp 1 rfl ?_
 refine ldN rfl rfl rfl rfl rfl rfl rfl rfl ?_
 refine Zp 4 rfl (sqr 3 rfl (pur 1 rfl (sp rfl (PE.add rfl rfl (by omega)) rfl (pur 1 rfl ?_))))
 first
   | exact absurd g44 (by decide)
   | (have hn9 : Z2n h k (i + 1) = true := by rw [hcs, g32]; rfl
      exact Zb ⟨i + 1, by omega⟩ (by dsimp only; omega) (by rw [hn9]; exact (by repeat' first | exact Sub.nil | apply Sub.cons | rfl | (simp [lk]; omega))) (fun w h9 => h9.del b8))
   | (have hn9 : Z2n h k (i + 1) = false := by rw [hcs, g32, g36]; rfl
      exact Zb ⟨i + 1, by omega⟩ (by dsimp only; omega) (by rw [hn9]; exact (by repeat' first | exact Sub.nil | apply Sub.cons | rfl | (simp [lk]; omega))) (fun w h9 => h9.del b8))
   | (have hn9 : Z2n h k (i + 1) = false := by rw [hcs, g32, g36, g44]; rfl
      exact Zb ⟨i + 1, by omega⟩ (by dsimp only; omega) (by rw [hn9]; exact (by repeat' first | exact Sub.nil | apply Sub.cons | rfl | (simp [lk]; omega))) (fun w h9 => h9.del b8))
   | (have hn9 : Z2n h k (i + 1) = decide (wx ≤ x.week) := by rw [hcs, g32, g36, g44]; rfl
      exact Zb ⟨i + 1, by omega⟩ (by dsimp only; omega) (by rw [hn9]; exact (by repeat' first | exact Sub.nil | apply Sub.cons | rfl | (simp [lk]; omega))) (fun w h9 => h9.del b8))
 obtain rfl : i = h.sights.length := by omega
 refine Za (Zc (Zc (Zn (sqt 1 rfl (pur 1 rfl ?_)))))
 refine Z1 rfl ?_ ?_ <;> intro hc2
 refine sqr 5 rfl (pur 2 rfl ?_)
 refine bsl (out := [_]) rfl Z0K zl3 rfl rfl rfl rfl rfl rfl (fun b58 => ?_)
 refine apO (o) rfl Z35 rfl rfl (Z07 (row := [.int .i64 (k : Int)]) rfl) rfl rfl ((by rw [irl]; simp only [List.length_singleton]; omega)) rfl (fun o59 => ?_)
 refine pur 1 rfl (sqr 3 rfl (pur 1 rfl (sp rfl (PE.add rfl rfl (by omega)) rfl (pur 1 rfl ?_))))
 first
   | exact Zj ⟨⟨k + 1, by omega⟩, o59.cast (by rw [Z3t (p := fun k => Z2n h k h.sights.length) hc2]; simp [Z6])⟩ (by dsimp only; omega) (fun w h => (h.del b58).facts (fun g hg => by simp only [List.mem_cons] at hg ⊢; rcases hg with h8 | h8 <;> simp [h8]))
   | exact Zj ⟨⟨k + 1, by omega⟩, o.cast (by rw [Z1J (p := fun k => Z2n h k h.sights.length) hc2])⟩ (by dsimp only; omega) (fun w h => h.facts (fun g hg => by simp only [List.mem_cons] at hg ⊢; rcases hg with h8 | h8 <;> simp [h8]))
 refine Z2 (sqr 3 rfl (pur 1 rfl (sp rfl (PE.add rfl rfl (by omega)) rfl (pur 1 rfl ?_))))
 first
   | exact Zj ⟨⟨k + 1, by omega⟩, o59.cast (by rw [Z3t (p := fun k => Z2n h k h.sights.length) hc2]; simp [Z6])⟩ (by dsimp only; omega) (fun w h => (h.del b58).facts (fun g hg => by simp only [List.mem_cons] at hg ⊢; rcases hg with h8 | h8 <;> simp [h8]))
   | exact Zj ⟨⟨k + 1, by omega⟩, o.cast (by rw [Z1J (p := fun k => Z2n h k h.sights.length) hc2])⟩ (by dsimp only; omega) (fun w h => h.facts (fun g hg => by simp only [List.mem_cons] at hg ⊢; rcases hg with h8 | h8 <;> simp [h8]))
 obtain rfl : k = B := by omega
 obtain ⟨ac, cc, he, hcc, hzz⟩ := o.freezeC
 rw [irl] at hcc
 rw [he, irl]
 refine Sy.heap (H' := _) (fun w h9 => hzz h9) ?_
 clear he hzz
 refine Za (Zc (Zc (Zn (sqt 2 rfl (pur 2 rfl (Z3 ?_))))))
 exact rtA rfl rfl rfl ⟨ac, cc, rfl, rfl, rfl⟩ (fun w h9 => (h9.del b1).facts (fun g hg => by simp only [List.mem_cons] at hg ⊢; rcases hg with h8 | h8 <;> simp [h8]))
theorem pB9 {α : Type} (b : α) (X Y Z : List α) : (b :: (Y ++ (X ++ Z))).Perm (Y ++ (X ++ (b :: Z))) := by
  rw [← List.append_assoc, ← List.append_assoc]; exact List.perm_middle.symm
theorem pA9 {α : Type} (b : α) (X Y Z : List α) : (b :: (X ++ (Y ++ Z))).Perm (Y ++ (X ++ (b :: Z))) := ((List.perm_append_comm_assoc X Y Z).cons b).trans (pB9 b X Y Z)
theorem Zfx {P : Program} {r : Option Nat} {ops : Array Oper} {n : Nat} {L : Zk} {D : List Deferred} {H : Z8} {R : Z5} {K : Act → World → Prop} {i : Nat} {ty : TypeId} {pos : String} {af : Array Edge}
    {T e s : Nat} {x : Operand} {rows : List (List Value)} {z : List Value} {dd : Option Nat} (o : OSl e s rows) (ho : ops[i]? = some ⟨dd, .call { callee := .builtin .clear, args := #[x], argTypes := #[T] }, ty, pos, af, none⟩) (hdd : dd = none) (hT : slE P T = some (e, s))
    (hz : ZQ P e = some z) (hzs : z.length = s) (hz1 : z.all (·.oneCell') = true) (hx : ev L x = some o.fs) (h : Sy n L D H R K) : Sy n L D (o.G ++ H) R (stp P r ops i K) := by
  obtain ⟨fs, G, hl, his⟩ := o
  rcases his with ⟨h1, h2, h3⟩ | ⟨b, cap, junk, h2, h3, h4, h5, h6⟩
  · dsimp only at hx ⊢
    rw [h3]
    rw [h2] at hx
    exact ZfJ ho hdd hT hx h
  · dsimp only at hx ⊢
    rw [h3]
    rw [h2] at hx
    show Sy n L D ((b, cel e (rows.flatten ++ junk)) :: H) R _
    refine ZfT ho hdd hT hz hzs hz1 hx ?_ (Sy.heap (fun w h9 => h9.del b) h)
    rw [List.length_append, ZC hl]
    exact Nat.le_add_right _ _
theorem Z7U (n : Nat) (a b : Value) : (Z06 n [a, b]).length = n * 2 := by simp [Z06]
theorem Z71 (l : List Gp) (o : OSl 97 2 (Z9 l)) (hl : l.length ≤ 1000000) (i : Nat) (hi : i < l.length) (H : Z8) (R : Z5) :
    Fn Tryz.prog 111 [o.fs, .int .i64 i, .int .i64 ((i + 1 : Nat) : Int)] (o.G ++ H) R (fun v H' R' => ∃ o' : OSl 97 2 (Z9 (l.eraseIdx i)), v = o'.fs ∧ H' = o'.G ++ H ∧ R' = R) := by
 have hgl9 : (Z9 l).length = l.length := Zv l
 obtain ⟨b, cap, junk, hfs, hG, hj, hcap, hmx⟩ := o.is.resolve_left (fun h => by have := congrArg List.length h.1; rw [hgl9] at this; simp only [List.length_nil] at this; omega)
 rw [hgl9] at hfs hcap hj
 rw [hfs, hG]
 refine Zh Tryz.func111 rfl Tryz.ntmps111 rfl ?_
 refine sqt 1 rfl ?_
 refine Sy.heap (H' := (b, cel 97 ((Z9 l).flatten ++ junk)) :: H) idH ?_
 refine pur 1 rfl (sqt 6 rfl (pur 4 rfl (sp rfl (PE.lenSl Z1q rfl) rfl (sp rfl (PE.slLHM Z7b rfl rfl rfl rfl (by omega) (by omega) (by omega)) rfl (Z0 (sqt 3 rfl (pur 3 rfl ?_)))))))
 refine Z1 rfl ?_ ?_ <;> intro hc0
 exact absurd hc0 (by simp; omega)
 refine Z2 (sqt 3 rfl (pur 1 rfl (sp rfl (PE.lenSl Z1q rfl) rfl (pur 1 rfl (Z0 ?_)))))
 refine Zi [0, 0, 3, 0, 0, 24, 63, 127] (tks 0 6 (.big 6 (.tk 7 .done))) Zz (by kernel_rfl) ?_
 refine Zp 2 rfl (tk rfl (PE.slHi Z7b rfl rfl (by omega)) rfl (Zp 2 rfl (tk rfl (PE.slLoA Z7b rfl rfl (by omega)) rfl ?_)))
 obtain ⟨ax, hax, hsrc⟩ : ∃ ax : Addr, (if cap = i + 1 then some (⟨b, 0, none⟩ : Addr) else (some (⟨b, 0, none⟩ : Addr)).map (·.add ((i + 1) * 2))) = some ax ∧ ∀ j v, (((Z9 l).drop (i + 1)).flatten)[j]? = some v → ax.add j = ⟨b, (i + 1) * 2 + j, none⟩ := by
   by_cases h9 : cap = i + 1
   · refine ⟨_, if_pos h9, fun j v hj => ?_⟩
     have := (List.getElem?_eq_some_iff.1 hj).1
     rw [Z05, Z0m, List.length_drop] at this; omega
   · exact ⟨_, if_neg h9, fun j v hj => by show ((⟨b, 0, none⟩ : Addr).add ((i + 1) * 2)).add j = _; rw [ZA, ZA]; simp⟩
 rw [hax]
 refine apI (((Z9 l).drop (i + 1)).flatten) rfl Z7b rfl rfl (by rw [Z05, Z0m, List.length_drop]) (fun w hs j v hj => by rw [hsrc j v hj, Z17 (hs.held (b, cel 97 ((Z9 l).flatten ++ junk)) (by simp))]; simpa using Z7r (junk := junk) (Z3i l) (by rw [Zv]; omega) hj) (by rw [Z05]; exact Z8L _) (by omega) (by rw [Z05, Z0m, List.length_drop, List.length_append, Z0m]; omega) rfl ?_
 rw [Z41 (Z3i l) (by rw [Zv]; exact hi), Zv, Z3f, show i + (l.length - (i + 1)) = l.length - 1 from by omega]
 obtain ⟨jk, hjk⟩ : ∃ jk, jk = ((Z9 l).flatten ++ junk).drop ((l.length - 1) * 2) := ⟨_, rfl⟩
 rw [← hjk]
 have hel : (l.eraseIdx i).length = l.length - 1 := List.length_eraseIdx_of_lt hi
 refine bgT (Zp 1 rfl (sqt 6 rfl (pur 2 rfl (sp rfl (PE.lenSl Z1q rfl) rfl (pur 1 rfl (sp rfl (PE.slLH Z7b rfl rfl rfl (by omega) (by omega) (by omega)) rfl ?_))))))
 refine ZfU rfl rfl Z7b Z4D rfl rfl rfl (by rw [hjk, List.length_append, Z0m, List.length_drop, List.length_append, Z0m]; omega) ?_
 rw [Zcj (by rw [Z0m, hel]; omega)]
 obtain ⟨jk2, hjk2⟩ : ∃ jk2, jk2 = (Z06 (l.length - (l.length - 1)) [Value.int .i64 0, .int .i64 0] ++ jk.drop (Z06 (l.length - (l.length - 1)) [Value.int .i64 0, .int .i64 0]).length) := ⟨_, rfl⟩
 rw [← hjk2]
 refine sqt 2 rfl (pur 2 rfl (Z3 ?_))
 rw [← hel]
 exact rtA rfl rfl rfl ⟨Zay b cap (l.eraseIdx i).length jk2 (Z3i _) (Zv _).symm (by rw [Zv, hel, hjk2, List.length_append, Z7U, List.length_drop, hjk, List.length_drop, List.length_append, Z0m]; omega) (by rw [Zv]; omega) hmx, rfl, rfl, rfl⟩ (fun w h9 => h9)
set_option maxHeartbeats 400000 in
theorem Z9E (h : Hse) (ag as_ : Option Addr) (cg cs : Nat) (hlg : h.gaps.length ≤ 1000000) (hls : h.sights.length ≤ 1000000) (n : Int) (H : Z8) (R : Z5) [hG : MemRows ag 2 (Z9 h.gaps) R] [hS : MemRows as_ 3 (Z7 h.sights) R] :
    Fn Tryz.prog 45 [h.v (h.sg ag cg) (h.ss as_ cs), .int .i64 n] H R (fun v H' R' => ∃ (og : OSl 97 2 (Z9 (h.cloH n).gaps)) (os : OSl 67 3 (Z7 (h.cloH n).sights)), v = .tuple #[(h.cloH n).v og.fs os.fs, .int .i64 (h.cloE n)] ∧ H' = os.G ++ (og.G ++ H) ∧ R' = R) := by
 refine Zh Tryz.func45 rfl Tryz.ntmps45 rfl ?_
 refine sqt 3 rfl (bx rfl rfl rfl (fun b2 => alc rfl Z0R rfl (fun b4 => pur 1 rfl (Z0 (sqt 3 rfl (spL rfl rfl (lhA (htl h (h.sg ag cg) (h.ss as_ cs)) ZB rfl rfl rfl) rfl ?_))))))
 refine clV rfl Z1p rfl rfl (ZR h ag as_ cg cs (by omega) (by omega) _ _) ?_
 refine pur 1 rfl (sqt 2 rfl (pur 2 rfl ?_))
 refine Z1 rfl ?_ ?_ <;> intro hc0
 have hck : h.check ≠ 0 := of_decide_eq_true hc0
 obtain ⟨e1, e2⟩ := Z7h (n := n) hck
 refine sqt 4 rfl (sp rfl (PE.build (out := htl ⟨0, [], []⟩ (.slice none 0 0) (.slice none 0 0)) Z37 Z0R rfl rfl) rfl (pur 1 rfl ?_))
 refine Zy (l' := htl ⟨0, [], []⟩ (.slice none 0 0) (.slice none 0 0)) rfl rfl rfl Z1l rfl rfl rfl rfl (nl rfl) ?_
 refine pur 1 rfl (Z3 ?_)
 rw [e1, e2]
 exact Zd (vs := [_, _]) rfl (.cons (RV.cell rfl (lhA [_, _, _] ZB rfl rfl rfl)) (.cons (RV.tmp rfl) .nil)) rfl ⟨OSl.nil _ _, OSl.nil _ _, rfl, rfl, rfl⟩ (fun w h9 => ((h9.del b4).del b2))
 have hck : h.check = 0 := Classical.byContradiction fun e => by rw [decide_eq_true e] at hc0; cases hc0
 have hok := hse_ok.1 hck
 have hgl := hok.gl
 refine Z2 (Z0 (sqt 4 rfl (spL rfl rfl (lhA (htl h (h.sg ag cg) (h.ss as_ cs)) ZB rfl rfl rfl) rfl (pur 1 rfl ?_))))
 refine clV rfl ZdC rfl rfl (Zcu h (by omega) ag cg (h.ss as_ cs) n _ _) ?_
 refine pur 1 rfl ?_
 refine Z1 rfl ?_ ?_ <;> intro hc1
 try simp only [cS] at hc1
 obtain ⟨e1, e2⟩ := Z5e (n := n) hck (by rw [hc1] <;> rfl)
 refine sqt 3 rfl (sp rfl (PE.build (out := htl ⟨0, [], []⟩ (.slice none 0 0) (.slice none 0 0)) Z37 Z0R rfl rfl) rfl ?_)
 refine Zy (l' := htl ⟨0, [], []⟩ (.slice none 0 0) (.slice none 0 0)) rfl rfl rfl Z1l rfl rfl rfl rfl (nl rfl) ?_
 refine pur 1 rfl (Z3 ?_)
 rw [e1, e2]
 exact Zd (vs := [_, _]) rfl (.cons (RV.cell rfl (lhA [_, _, _] ZB rfl rfl rfl)) (.cons (RV.tmp rfl) .nil)) rfl ⟨OSl.nil _ _, OSl.nil _ _, rfl, rfl, rfl⟩ (fun w h9 => ((h9.del b4).del b2))
 obtain ⟨e1, e2⟩ := Z7S (n := n) hck hc1
 have hnr : 0 ≤ n ∧ n < h.gaps.length := by
   simp only [inB, Bool.not_eq_false', Bool.and_eq_true, decide_eq_true_eq] at hc1; omega
 obtain ⟨i, rfl⟩ : ∃ i : Nat, n = i := ⟨n.toNat, by omega⟩
 rw [Int.toNat_natCast] at e2
 refine Z2 (Z0 ?_)
 refine Zi [0, 1, 0, 4, 12, 0, 0, 64, 252, 0, 512, 2044, 4095, 8191, 16383] (.tk 0 (.ld 1 (.tk 2 (.ld 3 (tks 5 3 (.tk 9 (.ld 10 (.big 4 (.big 8 (.big 11 (.tk 12 (.big 13 (.tk 14 .done))))))))))))) Zz (by kernel_rfl) ?_
 refine tk rfl (PE.fA Z0z rfl) rfl (ld rfl rfl (lh sc3 rfl rfl) rfl (tk rfl (PE.fA ZS rfl) rfl (ld rfl rfl (lh Z2o rfl rfl) rfl (Zp 2 rfl (tk rfl (PE.add rfl rfl (by omega)) rfl (tk rfl (PE.fA ZJ rfl) rfl (ld rfl rfl (lh Z27 rfl rfl) rfl ?_)))))))
 refine cl rfl Z3V rfl rfl (Z0c h.gaps ag cg (by omega) _ _) ?_
 rintro _ _ R1 ⟨og, rfl, rfl, hR1, _⟩
 obtain rfl := hR1.symm
 clear hR1
 refine bg (fun w hs => ⟨(lh Z27 rfl rfl) w hs, trivial, (lh sc3 rfl rfl) w hs, trivial⟩) ?_
 rw [show (i : Int) + 1 = ((i + 1 : Nat) : Int) by omega]
 refine cl rfl ZcX rfl rfl (Z71 h.gaps og (by omega) i (by omega) _ _) ?_
 rintro _ _ R1 ⟨og2, rfl, rfl, hR1⟩
 obtain rfl := hR1.symm
 clear hR1
 refine bg (fun w hs => ⟨(lh Z27 rfl rfl) w hs, (lh sc3 rfl rfl) w hs, trivial⟩) ?_
 refine cl rfl Zd3 rfl rfl (Z5I h.sights as_ cs (by omega) _ _) ?_
 rintro _ _ R1 ⟨os, rfl, rfl, hR1⟩
 obtain rfl := hR1.symm
 clear hR1
 refine bg (fun w hs => ⟨trivial, (lh sc3 rfl rfl) w hs, trivial⟩) ?_
 refine tk rfl (PE.build (out := htl ⟨h.bins, h.gaps.eraseIdx i, h.sights⟩ og2.fs os.fs) Z37 Z0R rfl (by simp only [Z1y, og2.cells.1, os.cells.1, List.getElem?_cons_zero, List.getElem?_cons_succ]; rfl)) rfl ?_
 refine Zy (l' := htl ⟨h.bins, h.gaps.eraseIdx i, h.sights⟩ og2.fs os.fs) rfl rfl rfl Z1l rfl rfl (by show (htl _ og2.fs os.fs).all (·.oneCell') = true; simp only [htl, List.all_cons, List.all_nil, og2.cells.2, os.cells.2, Bool.and_true]; rfl) rfl (nl rfl) ?_
 refine bgT (Zp 1 rfl (Z3 ?_))
 rw [e1, e2]
 exact Zd (vs := [_, _]) rfl (.cons (RV.cell rfl (lhA [_, _, _] ZB rfl rfl rfl)) (.cons (RV.tmp rfl) .nil)) rfl ⟨og2, os, rfl, rfl, rfl⟩ (fun w h9 => ((h9.del b4).del b2))
set_option maxHeartbeats 600000 in
theorem ZcI (h : Hse) (ag as_ : Option Addr) (cg cs : Nat) (hlg : h.gaps.length ≤ 1000000) (hls : h.sights.length ≤ 1000000) (s : Sgt) (H : Z8) (R : Z5) [hG : MemRows ag 2 (Z9 h.gaps) R] [hS : MemRows as_ 3 (Z7 h.sights) R] :
    Fn Tryz.prog 44 [h.v (h.sg ag cg) (h.ss as_ cs), .agg (ZF s).toArray] H R (fun v H' R' => ∃ (og : OSl 97 2 (Z9 (h.seeH s).gaps)) (os : OSl 67 3 (Z7 (h.seeH s).sights)), v = .tuple #[(h.seeH s).v og.fs os.fs, .int .i64 (h.seeE s)] ∧ H' = os.G ++ (og.G ++ H) ∧ R' = R) := by
 refine Zh Tryz.func44 rfl Tryz.ntmps44 rfl ?_
 refine sqt 4 rfl (bx rfl rfl rfl (fun b2 => bx rfl rfl rfl (fun b3 => alc rfl Z0R rfl (fun b4 => pur 1 rfl (Z0 (sqt 3 rfl (spL rfl rfl (lhA (htl h (h.sg ag cg) (h.ss as_ cs)) ZB rfl rfl rfl) rfl ?_)))))))
 refine clV rfl Z1p rfl rfl (ZR h ag as_ cg cs (by omega) (by omega) _ _) ?_
 refine pur 1 rfl (sqt 2 rfl (pur 2 rfl ?_))
 refine Z1 rfl ?_ ?_ <;> intro hc0
 have h0 : h.check ≠ 0 := of_decide_eq_true hc0
 have he := Z7g (s := s) h0
 refine sqt 4 rfl (sp rfl (PE.build (out := htl ⟨0, [], []⟩ (.slice none 0 0) (.slice none 0 0)) Z37 Z0R rfl rfl) rfl (pur 1 rfl ?_))
 refine Zy (l' := htl ⟨0, [], []⟩ (.slice none 0 0) (.slice none 0 0)) rfl rfl rfl Z1l rfl rfl rfl rfl (nl rfl) ?_
 refine pur 1 rfl (Z3 ?_)
 rw [Z0U he h0, he]
 exact Zd (vs := [_, _]) rfl (.cons (RV.cell rfl (lhA [_, _, _] ZB rfl rfl rfl)) (.cons (RV.tmp rfl) .nil)) rfl ⟨OSl.nil _ _, OSl.nil _ _, rfl, rfl, rfl⟩ (fun w h9 => (((h9.del b4).del b3).del b2))
 have hck : h.check = 0 := Classical.byContradiction fun e => by rw [decide_eq_true e] at hc0; cases hc0
 have hok := hse_ok.1 hck
 have hgl := hok.gl
 have hsl := hok.sl
 refine Z2 (Z0 (sqt 4 rfl (sp rfl (PE.fA ZJ rfl) rfl (spL rfl rfl (lh Z27 rfl rfl) rfl (sp rfl (PE.lenSl Z1W rfl) rfl (pur 1 rfl ?_))))))
 refine Z1 rfl ?_ ?_ <;> intro hc1 <;> try simp only [cS] at hc1
 have h0 : (9 : Int) ≠ 0 := by decide
 have he := Z4R (s := s) hck (by omega)
 refine sqt 3 rfl (sp rfl (PE.build (out := htl ⟨0, [], []⟩ (.slice none 0 0) (.slice none 0 0)) Z37 Z0R rfl rfl) rfl ?_)
 refine Zy (l' := htl ⟨0, [], []⟩ (.slice none 0 0) (.slice none 0 0)) rfl rfl rfl Z1l rfl rfl rfl rfl (nl rfl) ?_
 refine pur 1 rfl (Z3 ?_)
 rw [Z0U he h0, he]
 exact Zd (vs := [_, _]) rfl (.cons (RV.cell rfl (lhA [_, _, _] ZB rfl rfl rfl)) (.cons (RV.tmp rfl) .nil)) rfl ⟨OSl.nil _ _, OSl.nil _ _, rfl, rfl, rfl⟩ (fun w h9 => (((h9.del b4).del b3).del b2))
 have hgo := Z8E (s := s) hck (by omega)
 refine Z2 (sqt 9 rfl (sp rfl (PE.fA ZJ rfl) rfl (spL rfl rfl (lh Z27 rfl rfl) rfl (sp rfl (PE.lenSl Z1W rfl) rfl (sp rfl (PE.fA ZJ rfl) rfl (spL rfl rfl (lh Z27 rfl rfl) rfl (sp rfl (PE.lenSl Z1W rfl) rfl (sp rfl (PE.add rfl rfl (by omega)) rfl ?_))))))))
 rw [show ((h.sights.length : Int) + 1) = ((h.sights.length + 1 : Nat) : Int) from by omega]
 refine mkS rfl Z5V Z5F rfl rfl (by omega) ⟨by omega, by omega⟩ rfl (fun b28 => ?_)
 refine pur 1 rfl (sqt 4 rfl (pur 1 rfl (sp rfl (PE.fA ZJ rfl) rfl (spL rfl rfl (lh Z27 rfl rfl) rfl ?_))))
 refine ZfW (rows := Z7 h.sights) rfl Z75 rfl (by rw [Zt]; rfl) (Z4o _) (by rw [Zt]; omega) (Zc3 _) (by rw [Z7l, Z59]; omega) rfl ?_
 rw [Z7M]
 obtain ⟨junk, hjk⟩ : ∃ junk, junk = (Z06 (h.sights.length + 1) [Value.int .i64 0, .int .i64 0, .bool false]).drop (h.sights.length * 3) := ⟨_, rfl⟩
 rw [← hjk]
 obtain ⟨o28, ho1, ho2⟩ : ∃ o : OSl 67 3 (Z7 h.sights), o.fs = .slice (some ⟨b28, 0, none⟩) h.sights.length (h.sights.length + 1) ∧ o.G = [(b28, cel 67 ((Z7 h.sights).flatten ++ junk))] := ⟨Zay b28 (h.sights.length + 1) h.sights.length junk (Z4o _) (Zt _).symm (by rw [Zt, hjk, List.length_drop, Z59]; omega) (by rw [Zt]; omega) (by omega), rfl, rfl⟩
 rw [← ho1]
 refine Sy.heap (H' := o28.G ++ _) (fun w h9 => by rw [ho2]; exact h9) ?_
 clear ho1 ho2 hjk
 refine Z0 ?_
 refine Zi [0, 1, 0, 4, 12, 0, 0, 64, 252, 511, 0, 2047] (.tk 0 (.ld 1 (.tk 2 (.ld 3 (.tk 5 (.ld 6 (.any (.alt 4 (.any (.alt 7 (.any (.alt 8 (.tk 9 (.big 10 (.big 11 .done))) (.alt 10 (.big 8 (.tk 9 (.big 11 .done))) .stop))) (.alt 10 (.big 7 (.big 8 (.tk 9 (.big 11 .done)))) .stop))) (.alt 7 (.any (.alt 4 (.any (.alt 8 (.tk 9 (.big 10 (.big 11 .done))) (.alt 10 (.big 8 (.tk 9 (.big 11 .done))) .stop))) (.alt 10 (.big 4 (.big 8 (.tk 9 (.big 11 .done)))) .stop))) (.alt 10 (.any (.alt 4 (.big 7 (.big 8 (.tk 9 (.big 11 .done)))) (.alt 7 (.big 4 (.big 8 (.tk 9 (.big 11 .done)))) .stop))) .stop)))))))))) Zz (by kernel_rfl) ?_
 refine tk rfl (PE.fA Z0z rfl) rfl (ld rfl rfl (lh sc3 rfl rfl) rfl (tk rfl (PE.fA ZS rfl) rfl (ld rfl rfl (lh Z2o rfl rfl) rfl (Zp 1 rfl (ld rfl rfl (lhA (ZF s) Z6d rfl rfl rfl) rfl ?_)))))
 refine Z08 ?_ ?_
 refine cl rfl Z3V rfl rfl (Z0c h.gaps ag cg (by omega) _ _) ?_
 rintro _ _ R1 ⟨og, rfl, rfl, hR1, _⟩
 obtain rfl := hR1.symm
 clear hR1
 refine bg (fun w hs => ⟨(lhA (ZF s) Z6d rfl rfl rfl) w hs, trivial, (lh sc3 rfl rfl) w hs, trivial⟩) ?_
 refine Z08 ?_ ?_
 refine bsl (out := [_, _, _]) rfl Z75 Z5F rfl rfl rfl rfl rfl rfl (fun b40 => ?_)
 refine bg (fun w hs => ⟨trivial, (lh sc3 rfl rfl) w hs, trivial⟩) ?_
 refine Z08 ?_ ?_
 refine apO (o28) rfl Z5V rfl rfl (Z07 (row := ZF s) rfl) rfl rfl ((by rw [Zt]; simp only [List.length_singleton]; omega)) rfl (fun o41 => ?_)
 refine bg (fun w hs => ⟨(lh sc3 rfl rfl) w hs, trivial⟩) ?_
 refine tk rfl (PE.build (out := htl (h.add s) og.fs o41.fs) Z37 Z0R rfl (by simp only [Z1y, og.cells.1, o41.cells.1, List.getElem?_cons_zero, List.getElem?_cons_succ]; rfl)) rfl ?_
 refine alc rfl Z0R rfl (fun b8 => ?_)
 refine bg (fun w hs => ⟨(lh sc3 rfl rfl) w hs, trivial⟩) ?_
 refine Zy (l' := htl (h.add s) og.fs o41.fs) rfl rfl rfl Z1l rfl rfl (by show (htl _ og.fs o41.fs).all (·.oneCell') = true; simp only [htl, List.all_cons, List.all_nil, og.cells.2, o41.cells.2, Bool.and_true]; rfl) rfl (nl rfl) ?_
 refine bgT (Z0 (sqt 3 rfl ?_))
 obtain ⟨oS, hoS⟩ : ∃ oS : OSl 67 3 (Z7 (h.add s).sights), oS = o41.cast (show Z7 h.sights ++ [ZF s] = Z7 (h.add s).sights from by unfold Hse.add; rw [Z1R]; rfl) := ⟨_, rfl⟩
 have hSf : o41.fs = oS.fs := by rw [hoS]; rfl
 have hSG : o41.G = oS.G := by rw [hoS]; rfl
 rw [hSf]
 refine Sy.heap (fun w h9 => h9.del b40) ?_
 refine Z02 b8 ?_
 first
   | refine Sy.heap (H' := oS.G ++ (og.G ++ (_ :: _))) (fun w h9 => by rw [← hSG]; exact h9.perm (pA9 _ og.G o41.G _)) ?_
   | refine Sy.heap (H' := oS.G ++ (og.G ++ (_ :: _))) (fun w h9 => by rw [← hSG]; exact h9.perm (pB9 _ og.G o41.G _)) ?_
 refine spL rfl rfl (lhA (htl (h.add s) og.fs oS.fs) ZB rfl rfl rfl) rfl ?_
 refine clV rfl Z1p rfl rfl (FnV.lendO oS (fun v => [(h.add s).v og.fs v]) (fun ay cy _ => by rw [Zt]; exact FnV.lendO og (fun v => [(h.add s).v v (.slice ay (h.add s).sights.length cy)]) (fun ax cx _ => by rw [Zv]; exact ZR (h.add s) ax ay cx cy (by show h.gaps.length ≤ _; omega) (by unfold Hse.add; simp only [List.length_append, List.length_singleton]; omega) _ _))) ?_
 refine pur 1 rfl (sqt 2 rfl (pur 2 rfl ?_))
 refine Z1 rfl ?_ ?_ <;> intro hc2
 have h0 : (h.add s).check ≠ 0 := of_decide_eq_true hc2
 have he := hgo
 refine sqt 4 rfl (sp rfl (PE.build (out := htl ⟨0, [], []⟩ (.slice none 0 0) (.slice none 0 0)) Z37 Z0R rfl rfl) rfl (pur 1 rfl ?_))
 refine Zy (l' := htl ⟨0, [], []⟩ (.slice none 0 0) (.slice none 0 0)) rfl rfl rfl Z1l rfl rfl rfl rfl (nl rfl) ?_
 refine pur 1 rfl (Z3 ?_)
 rw [Z0U he h0, he]
 exact Zd (vs := [_, _]) rfl (.cons (RV.cell rfl (lhA [_, _, _] ZB rfl rfl rfl)) (.cons (RV.tmp rfl) .nil)) rfl ⟨OSl.nil _ _, OSl.nil _ _, rfl, rfl, rfl⟩ (fun w h9 => (((St.drop (G := og.G) (St.drop (G := oS.G) h9)).del b8).del b4 |>.del b3 |>.del b2))
 have h0 : (h.add s).check = 0 := Classical.byContradiction fun e => by rw [decide_eq_true e] at hc2; cases hc2
 have he := hgo.trans h0
 refine Z2 (sqt 3 rfl (spL rfl rfl (lhA (htl (h.add s) og.fs oS.fs) ZB rfl rfl rfl) rfl ?_))
 refine Zy (l' := htl (h.add s) og.fs oS.fs) rfl rfl rfl Z1l rfl rfl (by show (htl _ og.fs oS.fs).all (·.oneCell') = true; simp only [htl, List.all_cons, List.all_nil, og.cells.2, oS.cells.2, Bool.and_true]; rfl) rfl (nl rfl) ?_
 refine pur 1 rfl (Z3 ?_)
 rw [Z1g he, he]
 exact Zd (vs := [_, _]) rfl (.cons (RV.cell rfl (lhA [_, _, _] ZB rfl rfl rfl)) (.cons (RV.tmp rfl) .nil)) rfl ⟨og, oS, rfl, rfl, rfl⟩ (fun w h9 => (h9.del b8).del b4 |>.del b3 |>.del b2)
 refine Z08 ?_ ?_
 refine alc rfl Z0R rfl (fun b8 => ?_)
 refine bg (fun w hs => ⟨(lh sc3 rfl rfl) w hs, trivial⟩) ?_
 refine apO (o28) rfl Z5V rfl rfl (Z07 (row := ZF s) rfl) rfl rfl ((by rw [Zt]; simp only [List.length_singleton]; omega)) rfl (fun o41 => ?_)
 refine bg (fun w hs => ⟨(lh sc3 rfl rfl) w hs, trivial⟩) ?_
 refine tk rfl (PE.build (out := htl (h.add s) og.fs o41.fs) Z37 Z0R rfl (by simp only [Z1y, og.cells.1, o41.cells.1, List.getElem?_cons_zero, List.getElem?_cons_succ]; rfl)) rfl ?_
 refine Zy (l' := htl (h.add s) og.fs o41.fs) rfl rfl rfl Z1l rfl rfl (by show (htl _ og.fs o41.fs).all (·.oneCell') = true; simp only [htl, List.all_cons, List.all_nil, og.cells.2, o41.cells.2, Bool.and_true]; rfl) rfl (nl rfl) ?_
 refine bgT (Z0 (sqt 3 rfl ?_))
 obtain ⟨oS, hoS⟩ : ∃ oS : OSl 67 3 (Z7 (h.add s).sights), oS = o41.cast (show Z7 h.sights ++ [ZF s] = Z7 (h.add s).sights from by unfold Hse.add; rw [Z1R]; rfl) := ⟨_, rfl⟩
 have hSf : o41.fs = oS.fs := by rw [hoS]; rfl
 have hSG : o41.G = oS.G := by rw [hoS]; rfl
 rw [hSf]
 refine Sy.heap (fun w h9 => h9.del b40) ?_
 refine Z02 b8 ?_
 first
   | refine Sy.heap (H' := oS.G ++ (og.G ++ (_ :: _))) (fun w h9 => by rw [← hSG]; exact h9.perm (pA9 _ og.G o41.G _)) ?_
   | refine Sy.heap (H' := oS.G ++ (og.G ++ (_ :: _))) (fun w h9 => by rw [← hSG]; exact h9.perm (pB9 _ og.G o41.G _)) ?_
 refine spL rfl rfl (lhA (htl (h.add s) og.fs oS.fs) ZB rfl rfl rfl) rfl ?_
 refine clV rfl Z1p rfl rfl (FnV.lendO oS (fun v => [(h.add s).v og.fs v]) (fun ay cy _ => by rw [Zt]; exact FnV.lendO og (fun v => [(h.add s).v v (.slice ay (h.add s).sights.length cy)]) (fun ax cx _ => by rw [Zv]; exact ZR (h.add s) ax ay cx cy (by show h.gaps.length ≤ _; omega) (by unfold Hse.add; simp only [List.length_append, List.length_singleton]; omega) _ _))) ?_
 refine pur 1 rfl (sqt 2 rfl (pur 2 rfl ?_))
 refine Z1 rfl ?_ ?_ <;> intro hc2
 have h0 : (h.add s).check ≠ 0 := of_decide_eq_true hc2
 have he := hgo
 refine sqt 4 rfl (sp rfl (PE.build (out := htl ⟨0, [], []⟩ (.slice none 0 0) (.slice none 0 0)) Z37 Z0R rfl rfl) rfl (pur 1 rfl ?_))
 refine Zy (l' := htl ⟨0, [], []⟩ (.slice none 0 0) (.slice none 0 0)) rfl rfl rfl Z1l rfl rfl rfl rfl (nl rfl) ?_
 refine pur 1 rfl (Z3 ?_)
 rw [Z0U he h0, he]
 exact Zd (vs := [_, _]) rfl (.cons (RV.cell rfl (lhA [_, _, _] ZB rfl rfl rfl)) (.cons (RV.tmp rfl) .nil)) rfl ⟨OSl.nil _ _, OSl.nil _ _, rfl, rfl, rfl⟩ (fun w h9 => (((St.drop (G := og.G) (St.drop (G := oS.G) h9)).del b8).del b4 |>.del b3 |>.del b2))
 have h0 : (h.add s).check = 0 := Classical.byContradiction fun e => by rw [decide_eq_true e] at hc2; cases hc2
 have he := hgo.trans h0
 refine Z2 (sqt 3 rfl (spL rfl rfl (lhA (htl (h.add s) og.fs oS.fs) ZB rfl rfl rfl) rfl ?_))
 refine Zy (l' := htl (h.add s) og.fs oS.fs) rfl rfl rfl Z1l rfl rfl (by show (htl _ og.fs oS.fs).all (·.oneCell') = true; simp only [htl, List.all_cons, List.all_nil, og.cells.2, oS.cells.2, Bool.and_true]; rfl) rfl (nl rfl) ?_
 refine pur 1 rfl (Z3 ?_)
 rw [Z1g he, he]
 exact Zd (vs := [_, _]) rfl (.cons (RV.cell rfl (lhA [_, _, _] ZB rfl rfl rfl)) (.cons (RV.tmp rfl) .nil)) rfl ⟨og, oS, rfl, rfl, rfl⟩ (fun w h9 => (h9.del b8).del b4 |>.del b3 |>.del b2)
 exact Z18
 refine Z08 ?_ ?_
 refine alc rfl Z0R rfl (fun b8 => ?_)
 refine bg (fun w hs => ⟨(lhA (ZF s) Z6d rfl rfl rfl) w hs, (lh sc3 rfl rfl) w hs, trivial⟩) ?_
 refine bsl (out := [_, _, _]) rfl Z75 Z5F rfl rfl rfl rfl rfl rfl (fun b40 => ?_)
 refine bg (fun w hs => ⟨trivial, (lh sc3 rfl rfl) w hs, trivial⟩) ?_
 refine apO (o28) rfl Z5V rfl rfl (Z07 (row := ZF s) rfl) rfl rfl ((by rw [Zt]; simp only [List.length_singleton]; omega)) rfl (fun o41 => ?_)
 refine bg (fun w hs => ⟨(lh sc3 rfl rfl) w hs, trivial⟩) ?_
 refine tk rfl (PE.build (out := htl (h.add s) og.fs o41.fs) Z37 Z0R rfl (by simp only [Z1y, og.cells.1, o41.cells.1, List.getElem?_cons_zero, List.getElem?_cons_succ]; rfl)) rfl ?_
 refine Zy (l' := htl (h.add s) og.fs o41.fs) rfl rfl rfl Z1l rfl rfl (by show (htl _ og.fs o41.fs).all (·.oneCell') = true; simp only [htl, List.all_cons, List.all_nil, og.cells.2, o41.cells.2, Bool.and_true]; rfl) rfl (nl rfl) ?_
 refine bgT (Z0 (sqt 3 rfl ?_))
 obtain ⟨oS, hoS⟩ : ∃ oS : OSl 67 3 (Z7 (h.add s).sights), oS = o41.cast (show Z7 h.sights ++ [ZF s] = Z7 (h.add s).sights from by unfold Hse.add; rw [Z1R]; rfl) := ⟨_, rfl⟩
 have hSf : o41.fs = oS.fs := by rw [hoS]; rfl
 have hSG : o41.G = oS.G := by rw [hoS]; rfl
 rw [hSf]
 refine Sy.heap (fun w h9 => h9.del b40) ?_
 refine Z02 b8 ?_
 first
   | refine Sy.heap (H' := oS.G ++ (og.G ++ (_ :: _))) (fun w h9 => by rw [← hSG]; exact h9.perm (pA9 _ og.G o41.G _)) ?_
   | refine Sy.heap (H' := oS.G ++ (og.G ++ (_ :: _))) (fun w h9 => by rw [← hSG]; exact h9.perm (pB9 _ og.G o41.G _)) ?_
 refine spL rfl rfl (lhA (htl (h.add s) og.fs oS.fs) ZB rfl rfl rfl) rfl ?_
 refine clV rfl Z1p rfl rfl (FnV.lendO oS (fun v => [(h.add s).v og.fs v]) (fun ay cy _ => by rw [Zt]; exact FnV.lendO og (fun v => [(h.add s).v v (.slice ay (h.add s).sights.length cy)]) (fun ax cx _ => by rw [Zv]; exact ZR (h.add s) ax ay cx cy (by show h.gaps.length ≤ _; omega) (by unfold Hse.add; simp only [List.length_append, List.length_singleton]; omega) _ _))) ?_
 refine pur 1 rfl (sqt 2 rfl (pur 2 rfl ?_))
 refine Z1 rfl ?_ ?_ <;> intro hc2
 have h0 : (h.add s).check ≠ 0 := of_decide_eq_true hc2
 have he := hgo
 refine sqt 4 rfl (sp rfl (PE.build (out := htl ⟨0, [], []⟩ (.slice none 0 0) (.slice none 0 0)) Z37 Z0R rfl rfl) rfl (pur 1 rfl ?_))
 refine Zy (l' := htl ⟨0, [], []⟩ (.slice none 0 0) (.slice none 0 0)) rfl rfl rfl Z1l rfl rfl rfl rfl (nl rfl) ?_
 refine pur 1 rfl (Z3 ?_)
 rw [Z0U he h0, he]
 exact Zd (vs := [_, _]) rfl (.cons (RV.cell rfl (lhA [_, _, _] ZB rfl rfl rfl)) (.cons (RV.tmp rfl) .nil)) rfl ⟨OSl.nil _ _, OSl.nil _ _, rfl, rfl, rfl⟩ (fun w h9 => (((St.drop (G := og.G) (St.drop (G := oS.G) h9)).del b8).del b4 |>.del b3 |>.del b2))
 have h0 : (h.add s).check = 0 := Classical.byContradiction fun e => by rw [decide_eq_true e] at hc2; cases hc2
 have he := hgo.trans h0
 refine Z2 (sqt 3 rfl (spL rfl rfl (lhA (htl (h.add s) og.fs oS.fs) ZB rfl rfl rfl) rfl ?_))
 refine Zy (l' := htl (h.add s) og.fs oS.fs) rfl rfl rfl Z1l rfl rfl (by show (htl _ og.fs oS.fs).all (·.oneCell') = true; simp only [htl, List.all_cons, List.all_nil, og.cells.2, oS.cells.2, Bool.and_true]; rfl) rfl (nl rfl) ?_
 refine pur 1 rfl (Z3 ?_)
 rw [Z1g he, he]
 exact Zd (vs := [_, _]) rfl (.cons (RV.cell rfl (lhA [_, _, _] ZB rfl rfl rfl)) (.cons (RV.tmp rfl) .nil)) rfl ⟨og, oS, rfl, rfl, rfl⟩ (fun w h9 => (h9.del b8).del b4 |>.del b3 |>.del b2)
 exact Z18
 refine Z08 ?_ ?_
 refine bsl (out := [_, _, _]) rfl Z75 Z5F rfl rfl rfl rfl rfl rfl (fun b40 => ?_)
 refine bg (fun w hs => ⟨trivial, (lh Z2o rfl rfl) w hs, (lh sc3 rfl rfl) w hs, trivial⟩) ?_
 refine Z08 ?_ ?_
 refine cl rfl Z3V rfl rfl (Z0c h.gaps ag cg (by omega) _ _) ?_
 rintro _ _ R1 ⟨og, rfl, rfl, hR1, _⟩
 obtain rfl := hR1.symm
 clear hR1
 refine bg (fun w hs => ⟨trivial, (lh sc3 rfl rfl) w hs, trivial⟩) ?_
 refine Z08 ?_ ?_
 refine apO (o28) rfl Z5V rfl rfl (Z07 (row := ZF s) rfl) rfl rfl ((by rw [Zt]; simp only [List.length_singleton]; omega)) rfl (fun o41 => ?_)
 refine bg (fun w hs => ⟨(lh sc3 rfl rfl) w hs, trivial⟩) ?_
 refine tk rfl (PE.build (out := htl (h.add s) og.fs o41.fs) Z37 Z0R rfl (by simp only [Z1y, og.cells.1, o41.cells.1, List.getElem?_cons_zero, List.getElem?_cons_succ]; rfl)) rfl ?_
 refine alc rfl Z0R rfl (fun b8 => ?_)
 refine bg (fun w hs => ⟨(lh sc3 rfl rfl) w hs, trivial⟩) ?_
 refine Zy (l' := htl (h.add s) og.fs o41.fs) rfl rfl rfl Z1l rfl rfl (by show (htl _ og.fs o41.fs).all (·.oneCell') = true; simp only [htl, List.all_cons, List.all_nil, og.cells.2, o41.cells.2, Bool.and_true]; rfl) rfl (nl rfl) ?_
 refine bgT (Z0 (sqt 3 rfl ?_))
 obtain ⟨oS, hoS⟩ : ∃ oS : OSl 67 3 (Z7 (h.add s).sights), oS = o41.cast (show Z7 h.sights ++ [ZF s] = Z7 (h.add s).sights from by unfold Hse.add; rw [Z1R]; rfl) := ⟨_, rfl⟩
 have hSf : o41.fs = oS.fs := by rw [hoS]; rfl
 have hSG : o41.G = oS.G := by rw [hoS]; rfl
 rw [hSf]
 refine Sy.heap (fun w h9 => h9.del b40) ?_
 refine Z02 b8 ?_
 first
   | refine Sy.heap (H' := oS.G ++ (og.G ++ (_ :: _))) (fun w h9 => by rw [← hSG]; exact h9.perm (pA9 _ og.G o41.G _)) ?_
   | refine Sy.heap (H' := oS.G ++ (og.G ++ (_ :: _))) (fun w h9 => by rw [← hSG]; exact h9.perm (pB9 _ og.G o41.G _)) ?_
 refine spL rfl rfl (lhA (htl (h.add s) og.fs oS.fs) ZB rfl rfl rfl) rfl ?_
 refine clV rfl Z1p rfl rfl (FnV.lendO oS (fun v => [(h.add s).v og.fs v]) (fun ay cy _ => by rw [Zt]; exact FnV.lendO og (fun v => [(h.add s).v v (.slice ay (h.add s).sights.length cy)]) (fun ax cx _ => by rw [Zv]; exact ZR (h.add s) ax ay cx cy (by show h.gaps.length ≤ _; omega) (by unfold Hse.add; simp only [List.length_append, List.length_singleton]; omega) _ _))) ?_
 refine pur 1 rfl (sqt 2 rfl (pur 2 rfl ?_))
 refine Z1 rfl ?_ ?_ <;> intro hc2
 have h0 : (h.add s).check ≠ 0 := of_decide_eq_true hc2
 have he := hgo
 refine sqt 4 rfl (sp rfl (PE.build (out := htl ⟨0, [], []⟩ (.slice none 0 0) (.slice none 0 0)) Z37 Z0R rfl rfl) rfl (pur 1 rfl ?_))
 refine Zy (l' := htl ⟨0, [], []⟩ (.slice none 0 0) (.slice none 0 0)) rfl rfl rfl Z1l rfl rfl rfl rfl (nl rfl) ?_
 refine pur 1 rfl (Z3 ?_)
 rw [Z0U he h0, he]
 exact Zd (vs := [_, _]) rfl (.cons (RV.cell rfl (lhA [_, _, _] ZB rfl rfl rfl)) (.cons (RV.tmp rfl) .nil)) rfl ⟨OSl.nil _ _, OSl.nil _ _, rfl, rfl, rfl⟩ (fun w h9 => (((St.drop (G := og.G) (St.drop (G := oS.G) h9)).del b8).del b4 |>.del b3 |>.del b2))
 have h0 : (h.add s).check = 0 := Classical.byContradiction fun e => by rw [decide_eq_true e] at hc2; cases hc2
 have he := hgo.trans h0
 refine Z2 (sqt 3 rfl (spL rfl rfl (lhA (htl (h.add s) og.fs oS.fs) ZB rfl rfl rfl) rfl ?_))
 refine Zy (l' := htl (h.add s) og.fs oS.fs) rfl rfl rfl Z1l rfl rfl (by show (htl _ og.fs oS.fs).all (·.oneCell') = true; simp only [htl, List.all_cons, List.all_nil, og.cells.2, oS.cells.2, Bool.and_true]; rfl) rfl (nl rfl) ?_
 refine pur 1 rfl (Z3 ?_)
 rw [Z1g he, he]
 exact Zd (vs := [_, _]) rfl (.cons (RV.cell rfl (lhA [_, _, _] ZB rfl rfl rfl)) (.cons (RV.tmp rfl) .nil)) rfl ⟨og, oS, rfl, rfl, rfl⟩ (fun w h9 => (h9.del b8).del b4 |>.del b3 |>.del b2)
 refine Z08 ?_ ?_
 refine alc rfl Z0R rfl (fun b8 => ?_)
 refine bg (fun w hs => ⟨(lh sc3 rfl rfl) w hs, trivial⟩) ?_
 refine apO (o28) rfl Z5V rfl rfl (Z07 (row := ZF s) rfl) rfl rfl ((by rw [Zt]; simp only [List.length_singleton]; omega)) rfl (fun o41 => ?_)
 refine bg (fun w hs => ⟨(lh sc3 rfl rfl) w hs, trivial⟩) ?_
 refine tk rfl (PE.build (out := htl (h.add s) og.fs o41.fs) Z37 Z0R rfl (by simp only [Z1y, og.cells.1, o41.cells.1, List.getElem?_cons_zero, List.getElem?_cons_succ]; rfl)) rfl ?_
 refine Zy (l' := htl (h.add s) og.fs o41.fs) rfl rfl rfl Z1l rfl rfl (by show (htl _ og.fs o41.fs).all (·.oneCell') = true; simp only [htl, List.all_cons, List.all_nil, og.cells.2, o41.cells.2, Bool.and_true]; rfl) rfl (nl rfl) ?_
 refine bgT (Z0 (sqt 3 rfl ?_))
 obtain ⟨oS, hoS⟩ : ∃ oS : OSl 67 3 (Z7 (h.add s).sights), oS = o41.cast (show Z7 h.sights ++ [ZF s] = Z7 (h.add s).sights from by unfold Hse.add; rw [Z1R]; rfl) := ⟨_, rfl⟩
 have hSf : o41.fs = oS.fs := by rw [hoS]; rfl
 have hSG : o41.G = oS.G := by rw [hoS]; rfl
 rw [hSf]
 refine Sy.heap (fun w h9 => h9.del b40) ?_
 refine Z02 b8 ?_
 first
   | refine Sy.heap (H' := oS.G ++ (og.G ++ (_ :: _))) (fun w h9 => by rw [← hSG]; exact h9.perm (pA9 _ og.G o41.G _)) ?_
   | refine Sy.heap (H' := oS.G ++ (og.G ++ (_ :: _))) (fun w h9 => by rw [← hSG]; exact h9.perm (pB9 _ og.G o41.G _)) ?_
 refine spL rfl rfl (lhA (htl (h.add s) og.fs oS.fs) ZB rfl rfl rfl) rfl ?_
 refine clV rfl Z1p rfl rfl (FnV.lendO oS (fun v => [(h.add s).v og.fs v]) (fun ay cy _ => by rw [Zt]; exact FnV.lendO og (fun v => [(h.add s).v v (.slice ay (h.add s).sights.length cy)]) (fun ax cx _ => by rw [Zv]; exact ZR (h.add s) ax ay cx cy (by show h.gaps.length ≤ _; omega) (by unfold Hse.add; simp only [List.length_append, List.length_singleton]; omega) _ _))) ?_
 refine pur 1 rfl (sqt 2 rfl (pur 2 rfl ?_))
 refine Z1 rfl ?_ ?_ <;> intro hc2
 have h0 : (h.add s).check ≠ 0 := of_decide_eq_true hc2
 have he := hgo
 refine sqt 4 rfl (sp rfl (PE.build (out := htl ⟨0, [], []⟩ (.slice none 0 0) (.slice none 0 0)) Z37 Z0R rfl rfl) rfl (pur 1 rfl ?_))
 refine Zy (l' := htl ⟨0, [], []⟩ (.slice none 0 0) (.slice none 0 0)) rfl rfl rfl Z1l rfl rfl rfl rfl (nl rfl) ?_
 refine pur 1 rfl (Z3 ?_)
 rw [Z0U he h0, he]
 exact Zd (vs := [_, _]) rfl (.cons (RV.cell rfl (lhA [_, _, _] ZB rfl rfl rfl)) (.cons (RV.tmp rfl) .nil)) rfl ⟨OSl.nil _ _, OSl.nil _ _, rfl, rfl, rfl⟩ (fun w h9 => (((St.drop (G := og.G) (St.drop (G := oS.G) h9)).del b8).del b4 |>.del b3 |>.del b2))
 have h0 : (h.add s).check = 0 := Classical.byContradiction fun e => by rw [decide_eq_true e] at hc2; cases hc2
 have he := hgo.trans h0
 refine Z2 (sqt 3 rfl (spL rfl rfl (lhA (htl (h.add s) og.fs oS.fs) ZB rfl rfl rfl) rfl ?_))
 refine Zy (l' := htl (h.add s) og.fs oS.fs) rfl rfl rfl Z1l rfl rfl (by show (htl _ og.fs oS.fs).all (·.oneCell') = true; simp only [htl, List.all_cons, List.all_nil, og.cells.2, oS.cells.2, Bool.and_true]; rfl) rfl (nl rfl) ?_
 refine pur 1 rfl (Z3 ?_)
 rw [Z1g he, he]
 exact Zd (vs := [_, _]) rfl (.cons (RV.cell rfl (lhA [_, _, _] ZB rfl rfl rfl)) (.cons (RV.tmp rfl) .nil)) rfl ⟨og, oS, rfl, rfl, rfl⟩ (fun w h9 => (h9.del b8).del b4 |>.del b3 |>.del b2)
 exact Z18
 refine Z08 ?_ ?_
 refine alc rfl Z0R rfl (fun b8 => ?_)
 refine bg (fun w hs => ⟨(lh Z2o rfl rfl) w hs, (lh sc3 rfl rfl) w hs, trivial⟩) ?_
 refine cl rfl Z3V rfl rfl (Z0c h.gaps ag cg (by omega) _ _) ?_
 rintro _ _ R1 ⟨og, rfl, rfl, hR1, _⟩
 obtain rfl := hR1.symm
 clear hR1
 refine bg (fun w hs => ⟨trivial, (lh sc3 rfl rfl) w hs, trivial⟩) ?_
 refine apO (o28) rfl Z5V rfl rfl (Z07 (row := ZF s) rfl) rfl rfl ((by rw [Zt]; simp only [List.length_singleton]; omega)) rfl (fun o41 => ?_)
 refine bg (fun w hs => ⟨(lh sc3 rfl rfl) w hs, trivial⟩) ?_
 refine tk rfl (PE.build (out := htl (h.add s) og.fs o41.fs) Z37 Z0R rfl (by simp only [Z1y, og.cells.1, o41.cells.1, List.getElem?_cons_zero, List.getElem?_cons_succ]; rfl)) rfl ?_
 refine Zy (l' := htl (h.add s) og.fs o41.fs) rfl rfl rfl Z1l rfl rfl (by show (htl _ og.fs o41.fs).all (·.oneCell') = true; simp only [htl, List.all_cons, List.all_nil, og.cells.2, o41.cells.2, Bool.and_true]; rfl) rfl (nl rfl) ?_
 refine bgT (Z0 (sqt 3 rfl ?_))
 obtain ⟨oS, hoS⟩ : ∃ oS : OSl 67 3 (Z7 (h.add s).sights), oS = o41.cast (show Z7 h.sights ++ [ZF s] = Z7 (h.add s).sights from by unfold Hse.add; rw [Z1R]; rfl) := ⟨_, rfl⟩
 have hSf : o41.fs = oS.fs := by rw [hoS]; rfl
 have hSG : o41.G = oS.G := by rw [hoS]; rfl
 rw [hSf]
 refine Sy.heap (fun w h9 => h9.del b40) ?_
 refine Z02 b8 ?_
 first
   | refine Sy.heap (H' := oS.G ++ (og.G ++ (_ :: _))) (fun w h9 => by rw [← hSG]; exact h9.perm (pA9 _ og.G o41.G _)) ?_
   | refine Sy.heap (H' := oS.G ++ (og.G ++ (_ :: _))) (fun w h9 => by rw [← hSG]; exact h9.perm (pB9 _ og.G o41.G _)) ?_
 refine spL rfl rfl (lhA (htl (h.add s) og.fs oS.fs) ZB rfl rfl rfl) rfl ?_
 refine clV rfl Z1p rfl rfl (FnV.lendO oS (fun v => [(h.add s).v og.fs v]) (fun ay cy _ => by rw [Zt]; exact FnV.lendO og (fun v => [(h.add s).v v (.slice ay (h.add s).sights.length cy)]) (fun ax cx _ => by rw [Zv]; exact ZR (h.add s) ax ay cx cy (by show h.gaps.length ≤ _; omega) (by unfold Hse.add; simp only [List.length_append, List.length_singleton]; omega) _ _))) ?_
 refine pur 1 rfl (sqt 2 rfl (pur 2 rfl ?_))
 refine Z1 rfl ?_ ?_ <;> intro hc2
 have h0 : (h.add s).check ≠ 0 := of_decide_eq_true hc2
 have he := hgo
 refine sqt 4 rfl (sp rfl (PE.build (out := htl ⟨0, [], []⟩ (.slice none 0 0) (.slice none 0 0)) Z37 Z0R rfl rfl) rfl (pur 1 rfl ?_))
 refine Zy (l' := htl ⟨0, [], []⟩ (.slice none 0 0) (.slice none 0 0)) rfl rfl rfl Z1l rfl rfl rfl rfl (nl rfl) ?_
 refine pur 1 rfl (Z3 ?_)
 rw [Z0U he h0, he]
 exact Zd (vs := [_, _]) rfl (.cons (RV.cell rfl (lhA [_, _, _] ZB rfl rfl rfl)) (.cons (RV.tmp rfl) .nil)) rfl ⟨OSl.nil _ _, OSl.nil _ _, rfl, rfl, rfl⟩ (fun w h9 => (((St.drop (G := og.G) (St.drop (G := oS.G) h9)).del b8).del b4 |>.del b3 |>.del b2))
 have h0 : (h.add s).check = 0 := Classical.byContradiction fun e => by rw [decide_eq_true e] at hc2; cases hc2
 have he := hgo.trans h0
 refine Z2 (sqt 3 rfl (spL rfl rfl (lhA (htl (h.add s) og.fs oS.fs) ZB rfl rfl rfl) rfl ?_))
 refine Zy (l' := htl (h.add s) og.fs oS.fs) rfl rfl rfl Z1l rfl rfl (by show (htl _ og.fs oS.fs).all (·.oneCell') = true; simp only [htl, List.all_cons, List.all_nil, og.cells.2, oS.cells.2, Bool.and_true]; rfl) rfl (nl rfl) ?_
 refine pur 1 rfl (Z3 ?_)
 rw [Z1g he, he]
 exact Zd (vs := [_, _]) rfl (.cons (RV.cell rfl (lhA [_, _, _] ZB rfl rfl rfl)) (.cons (RV.tmp rfl) .nil)) rfl ⟨og, oS, rfl, rfl, rfl⟩ (fun w h9 => (h9.del b8).del b4 |>.del b3 |>.del b2)
 exact Z18
 refine Z08 ?_ ?_
 refine alc rfl Z0R rfl (fun b8 => ?_)
 refine bg (fun w hs => ⟨(lhA (ZF s) Z6d rfl rfl rfl) w hs, (lh Z2o rfl rfl) w hs, (lh sc3 rfl rfl) w hs, trivial⟩) ?_
 refine Z08 ?_ ?_
 refine cl rfl Z3V rfl rfl (Z0c h.gaps ag cg (by omega) _ _) ?_
 rintro _ _ R1 ⟨og, rfl, rfl, hR1, _⟩
 obtain rfl := hR1.symm
 clear hR1
 refine bg (fun w hs => ⟨(lhA (ZF s) Z6d rfl rfl rfl) w hs, trivial, (lh sc3 rfl rfl) w hs, trivial⟩) ?_
 refine bsl (out := [_, _, _]) rfl Z75 Z5F rfl rfl rfl rfl rfl rfl (fun b40 => ?_)
 refine bg (fun w hs => ⟨trivial, (lh sc3 rfl rfl) w hs, trivial⟩) ?_
 refine apO (o28) rfl Z5V rfl rfl (Z07 (row := ZF s) rfl) rfl rfl ((by rw [Zt]; simp only [List.length_singleton]; omega)) rfl (fun o41 => ?_)
 refine bg (fun w hs => ⟨(lh sc3 rfl rfl) w hs, trivial⟩) ?_
 refine tk rfl (PE.build (out := htl (h.add s) og.fs o41.fs) Z37 Z0R rfl (by simp only [Z1y, og.cells.1, o41.cells.1, List.getElem?_cons_zero, List.getElem?_cons_succ]; rfl)) rfl ?_
 refine Zy (l' := htl (h.add s) og.fs o41.fs) rfl rfl rfl Z1l rfl rfl (by show (htl _ og.fs o41.fs).all (·.oneCell') = true; simp only [htl, List.all_cons, List.all_nil, og.cells.2, o41.cells.2, Bool.and_true]; rfl) rfl (nl rfl) ?_
 refine bgT (Z0 (sqt 3 rfl ?_))
 obtain ⟨oS, hoS⟩ : ∃ oS : OSl 67 3 (Z7 (h.add s).sights), oS = o41.cast (show Z7 h.sights ++ [ZF s] = Z7 (h.add s).sights from by unfold Hse.add; rw [Z1R]; rfl) := ⟨_, rfl⟩
 have hSf : o41.fs = oS.fs := by rw [hoS]; rfl
 have hSG : o41.G = oS.G := by rw [hoS]; rfl
 rw [hSf]
 refine Sy.heap (fun w h9 => h9.del b40) ?_
 refine Z02 b8 ?_
 first
   | refine Sy.heap (H' := oS.G ++ (og.G ++ (_ :: _))) (fun w h9 => by rw [← hSG]; exact h9.perm (pA9 _ og.G o41.G _)) ?_
   | refine Sy.heap (H' := oS.G ++ (og.G ++ (_ :: _))) (fun w h9 => by rw [← hSG]; exact h9.perm (pB9 _ og.G o41.G _)) ?_
 refine spL rfl rfl (lhA (htl (h.add s) og.fs oS.fs) ZB rfl rfl rfl) rfl ?_
 refine clV rfl Z1p rfl rfl (FnV.lendO oS (fun v => [(h.add s).v og.fs v]) (fun ay cy _ => by rw [Zt]; exact FnV.lendO og (fun v => [(h.add s).v v (.slice ay (h.add s).sights.length cy)]) (fun ax cx _ => by rw [Zv]; exact ZR (h.add s) ax ay cx cy (by show h.gaps.length ≤ _; omega) (by unfold Hse.add; simp only [List.length_append, List.length_singleton]; omega) _ _))) ?_
 refine pur 1 rfl (sqt 2 rfl (pur 2 rfl ?_))
 refine Z1 rfl ?_ ?_ <;> intro hc2
 have h0 : (h.add s).check ≠ 0 := of_decide_eq_true hc2
 have he := hgo
 refine sqt 4 rfl (sp rfl (PE.build (out := htl ⟨0, [], []⟩ (.slice none 0 0) (.slice none 0 0)) Z37 Z0R rfl rfl) rfl (pur 1 rfl ?_))
 refine Zy (l' := htl ⟨0, [], []⟩ (.slice none 0 0) (.slice none 0 0)) rfl rfl rfl Z1l rfl rfl rfl rfl (nl rfl) ?_
 refine pur 1 rfl (Z3 ?_)
 rw [Z0U he h0, he]
 exact Zd (vs := [_, _]) rfl (.cons (RV.cell rfl (lhA [_, _, _] ZB rfl rfl rfl)) (.cons (RV.tmp rfl) .nil)) rfl ⟨OSl.nil _ _, OSl.nil _ _, rfl, rfl, rfl⟩ (fun w h9 => (((St.drop (G := og.G) (St.drop (G := oS.G) h9)).del b8).del b4 |>.del b3 |>.del b2))
 have h0 : (h.add s).check = 0 := Classical.byContradiction fun e => by rw [decide_eq_true e] at hc2; cases hc2
 have he := hgo.trans h0
 refine Z2 (sqt 3 rfl (spL rfl rfl (lhA (htl (h.add s) og.fs oS.fs) ZB rfl rfl rfl) rfl ?_))
 refine Zy (l' := htl (h.add s) og.fs oS.fs) rfl rfl rfl Z1l rfl rfl (by show (htl _ og.fs oS.fs).all (·.oneCell') = true; simp only [htl, List.all_cons, List.all_nil, og.cells.2, oS.cells.2, Bool.and_true]; rfl) rfl (nl rfl) ?_
 refine pur 1 rfl (Z3 ?_)
 rw [Z1g he, he]
 exact Zd (vs := [_, _]) rfl (.cons (RV.cell rfl (lhA [_, _, _] ZB rfl rfl rfl)) (.cons (RV.tmp rfl) .nil)) rfl ⟨og, oS, rfl, rfl, rfl⟩ (fun w h9 => (h9.del b8).del b4 |>.del b3 |>.del b2)
 refine Z08 ?_ ?_
 refine bsl (out := [_, _, _]) rfl Z75 Z5F rfl rfl rfl rfl rfl rfl (fun b40 => ?_)
 refine bg (fun w hs => ⟨trivial, (lh Z2o rfl rfl) w hs, (lh sc3 rfl rfl) w hs, trivial⟩) ?_
 refine cl rfl Z3V rfl rfl (Z0c h.gaps ag cg (by omega) _ _) ?_
 rintro _ _ R1 ⟨og, rfl, rfl, hR1, _⟩
 obtain rfl := hR1.symm
 clear hR1
 refine bg (fun w hs => ⟨trivial, (lh sc3 rfl rfl) w hs, trivial⟩) ?_
 refine apO (o28) rfl Z5V rfl rfl (Z07 (row := ZF s) rfl) rfl rfl ((by rw [Zt]; simp only [List.length_singleton]; omega)) rfl (fun o41 => ?_)
 refine bg (fun w hs => ⟨(lh sc3 rfl rfl) w hs, trivial⟩) ?_
 refine tk rfl (PE.build (out := htl (h.add s) og.fs o41.fs) Z37 Z0R rfl (by simp only [Z1y, og.cells.1, o41.cells.1, List.getElem?_cons_zero, List.getElem?_cons_succ]; rfl)) rfl ?_
 refine Zy (l' := htl (h.add s) og.fs o41.fs) rfl rfl rfl Z1l rfl rfl (by show (htl _ og.fs o41.fs).all (·.oneCell') = true; simp only [htl, List.all_cons, List.all_nil, og.cells.2, o41.cells.2, Bool.and_true]; rfl) rfl (nl rfl) ?_
 refine bgT (Z0 (sqt 3 rfl ?_))
 obtain ⟨oS, hoS⟩ : ∃ oS : OSl 67 3 (Z7 (h.add s).sights), oS = o41.cast (show Z7 h.sights ++ [ZF s] = Z7 (h.add s).sights from by unfold Hse.add; rw [Z1R]; rfl) := ⟨_, rfl⟩
 have hSf : o41.fs = oS.fs := by rw [hoS]; rfl
 have hSG : o41.G = oS.G := by rw [hoS]; rfl
 rw [hSf]
 refine Sy.heap (fun w h9 => h9.del b40) ?_
 refine Z02 b8 ?_
 first
   | refine Sy.heap (H' := oS.G ++ (og.G ++ (_ :: _))) (fun w h9 => by rw [← hSG]; exact h9.perm (pA9 _ og.G o41.G _)) ?_
   | refine Sy.heap (H' := oS.G ++ (og.G ++ (_ :: _))) (fun w h9 => by rw [← hSG]; exact h9.perm (pB9 _ og.G o41.G _)) ?_
 refine spL rfl rfl (lhA (htl (h.add s) og.fs oS.fs) ZB rfl rfl rfl) rfl ?_
 refine clV rfl Z1p rfl rfl (FnV.lendO oS (fun v => [(h.add s).v og.fs v]) (fun ay cy _ => by rw [Zt]; exact FnV.lendO og (fun v => [(h.add s).v v (.slice ay (h.add s).sights.length cy)]) (fun ax cx _ => by rw [Zv]; exact ZR (h.add s) ax ay cx cy (by show h.gaps.length ≤ _; omega) (by unfold Hse.add; simp only [List.length_append, List.length_singleton]; omega) _ _))) ?_
 refine pur 1 rfl (sqt 2 rfl (pur 2 rfl ?_))
 refine Z1 rfl ?_ ?_ <;> intro hc2
 have h0 : (h.add s).check ≠ 0 := of_decide_eq_true hc2
 have he := hgo
 refine sqt 4 rfl (sp rfl (PE.build (out := htl ⟨0, [], []⟩ (.slice none 0 0) (.slice none 0 0)) Z37 Z0R rfl rfl) rfl (pur 1 rfl ?_))
 refine Zy (l' := htl ⟨0, [], []⟩ (.slice none 0 0) (.slice none 0 0)) rfl rfl rfl Z1l rfl rfl rfl rfl (nl rfl) ?_
 refine pur 1 rfl (Z3 ?_)
 rw [Z0U he h0, he]
 exact Zd (vs := [_, _]) rfl (.cons (RV.cell rfl (lhA [_, _, _] ZB rfl rfl rfl)) (.cons (RV.tmp rfl) .nil)) rfl ⟨OSl.nil _ _, OSl.nil _ _, rfl, rfl, rfl⟩ (fun w h9 => (((St.drop (G := og.G) (St.drop (G := oS.G) h9)).del b8).del b4 |>.del b3 |>.del b2))
 have h0 : (h.add s).check = 0 := Classical.byContradiction fun e => by rw [decide_eq_true e] at hc2; cases hc2
 have he := hgo.trans h0
 refine Z2 (sqt 3 rfl (spL rfl rfl (lhA (htl (h.add s) og.fs oS.fs) ZB rfl rfl rfl) rfl ?_))
 refine Zy (l' := htl (h.add s) og.fs oS.fs) rfl rfl rfl Z1l rfl rfl (by show (htl _ og.fs oS.fs).all (·.oneCell') = true; simp only [htl, List.all_cons, List.all_nil, og.cells.2, oS.cells.2, Bool.and_true]; rfl) rfl (nl rfl) ?_
 refine pur 1 rfl (Z3 ?_)
 rw [Z1g he, he]
 exact Zd (vs := [_, _]) rfl (.cons (RV.cell rfl (lhA [_, _, _] ZB rfl rfl rfl)) (.cons (RV.tmp rfl) .nil)) rfl ⟨og, oS, rfl, rfl, rfl⟩ (fun w h9 => (h9.del b8).del b4 |>.del b3 |>.del b2)
 exact Z18
 exact Z18
theorem Zfb : cal Tryz.prog 10 = true := by kernel_rfl
theorem Zbv : cal Tryz.prog 12 = true := by kernel_rfl
theorem Zdw : cal Tryz.prog 13 = true := by kernel_rfl
theorem Ze5 : cal Tryz.prog 16 = true := by kernel_rfl
theorem ZbO : cal Tryz.prog 25 = true := by kernel_rfl
theorem Zey : cal Tryz.prog 28 = true := by kernel_rfl
theorem Zfg : cal Tryz.prog 39 = true := by kernel_rfl
theorem Zew : cal Tryz.prog 40 = true := by kernel_rfl
theorem ZeF : cal Tryz.prog 42 = true := by kernel_rfl
theorem Zf1 : cal Tryz.prog 43 = true := by kernel_rfl
theorem ZeM : cal Tryz.prog 44 = true := by kernel_rfl
theorem Zfj : cal Tryz.prog 45 = true := by kernel_rfl
theorem ZfG : Z0n Tryz.prog 23 = some 1 := by kernel_rfl
theorem ZfM : elN Tryz.prog 78 = some 3 := by kernel_rfl
theorem Zfp : Z5d Tryz.prog 78 = true := by kernel_rfl
theorem ZfQ : slE Tryz.prog 78 = some (25, 3) := by kernel_rfl
theorem Z7R (xs : List Int) (a : Option Addr) (c : Nat) (hl : xs.length ≤ 1000000) (H : Z8) (R : Z5) [hR : MemRows a 1 (Z6 xs) R] :
    Fn Tryz.prog 14 [.slice a xs.length c] H R (fun v H' R' => ∃ o : OSl 3 1 (Z6 xs), v = o.fs ∧ o.here ∧ H' = o.G ++ H ∧ R' = R) := by
 refine Zh Tryz.func14 rfl Tryz.ntmps14 rfl ?_
 refine sqt 1 rfl (pur 1 rfl (sqt 6 rfl (pur 1 rfl (sp rfl (PE.lenSl ZK rfl) rfl ?_))))
 refine mkO rfl Z35 zl3 rfl rfl ⟨by omega, by omega⟩ rfl (fun o ho => ?_)
 refine pur 1 rfl ?_
 refine Zcl (news := Z6 xs) o rfl Z35 rfl rfl (Z54) (by simp [Z6]) (by simp [ZT, Z6, Value.oneCell']) ⟨by simp [Z6]; omega, by simp [Z6]; omega⟩ rfl ho (fun o2 ho2 => ?_)
 refine pur 1 rfl (Z3 ?_)
 exact rtA rfl rfl rfl ⟨o2.cast (by simp), rfl, ho2, rfl, rfl⟩ idH
theorem ZdK {P : Program} {H9 : Type} {enc : TypeId × Value → H9} {w : World} {base : Nat} {spare : Nat → Bool} {held : Bool} {fuel T e : Nat} {a : Option Addr} {len cap : Nat} {x : DataW H9 × List MemPlace} (hu : P.underlying T = some (.slice e)) (h : DataW.trod enc P w base spare held fuel T [.slice a len cap] = some x) : len ≤ cap := by
  rcases DataW.trod_slice hu h with ⟨h1, _⟩ | ⟨a', len', cap', elems, rest, n, _, h1, _, hb, hl, hm, hlen, hel, _, _⟩
  · cases h1; exact Nat.le_refl 0
  · cases h1; omega
theorem ZdF (h : Hse) (ag as_ : Option Addr) (cg cs : Nat) (hlg : h.gaps.length ≤ 1000000) (hls : h.sights.length ≤ 1000000) (H : Z8) (R : Z5) [hG : MemRows ag 2 (Z9 h.gaps) R] [hS : MemRows as_ 3 (Z7 h.sights) R] : Fn Tryz.prog 12 [h.v (h.sg ag cg) (h.ss as_ cs)] H R (fun v H' R' => ∃ (ax ay : Option Addr) (cx cy : Nat), v = h.v (h.sg ax cx) (h.ss ay cy) ∧ H' = H ∧ R' = RowsA ay 3 (Z7 h.sights) :: RowsA ax 2 (Z9 h.gaps) :: R) := fun w hw => by
  refine CallsIn.mono (ZbA h ag as_ cg cs hlg hls H R w hw) ?_
  rintro e' w' ⟨u, H', R', ⟨og, os, rfl, rfl, rfl⟩, he, hs'⟩
  obtain ⟨ay, cy, he2, hcy, hz2⟩ := os.freezeC
  obtain ⟨ax, cx, he1, hcx, hz1⟩ := og.freezeC
  rw [Zt] at he2
  rw [Zv] at he1
  have h2 := hz2 hs'
  have h3 := hz1 h2
  refine ⟨_, H, _, ⟨ax, ay, cx, cy, by rw [he1, he2]; rfl, rfl, rfl⟩, he, h3.facts (fun g hg => by simp only [List.mem_cons] at hg ⊢; rcases hg with h8 | h8 | h8 <;> simp [h8])⟩
theorem Zeg (l : List Int) (a : Option Addr) (c : Nat) (hl : l.length ≤ 1000000) (H : Z8) (R : Z5) [hR : MemRows a 1 (Z6 l) R] : Fn Tryz.prog 14 [.slice a l.length c] H R (fun v H' R' => ∃ (ax : Option Addr) (cx : Nat), l.length ≤ cx ∧ v = .slice ax l.length cx ∧ H' = H ∧ R' = RowsA ax 1 (Z6 l) :: R) := fun w hw => by
  refine CallsIn.mono (Z7R l a c hl H R w hw) ?_
  rintro e' w' ⟨u, H', R', ⟨o, rfl, _, rfl, rfl⟩, he, hs'⟩
  obtain ⟨ax, cx, he1, hcx, hz1⟩ := o.freezeC
  rw [irl] at he1 hcx
  exact ⟨_, H, _, ⟨ax, cx, hcx, by rw [he1], rfl, rfl⟩, he, hz1 hs'⟩
theorem Z7Z {h : Hse} (hk : h.ok) {l : List Int} (hl : h.lsE l = 0) : wkL h.gaps (msk []) (msk l) h.bins.toNat = (h.weeksR l).1 ∧ h.bins.toNat = (h.weeksR l).1.length := by
  rw [Z4Y hl]
  have h1 := Z6P hk l
  refine ⟨?_, h1.symm⟩
  apply List.ext_getElem?
  intro k
  rcases Nat.lt_or_ge k h.bins.toNat with hk2 | hk2
  · have h2 := Z8o hk l hk2
    have h3 := Z8b (gs := h.gaps) (c := msk []) (m := msk l) hk2
    rw [Z0v (l := wkL h.gaps (msk []) (msk l) h.bins.toNat) (by rw [Z22]; exact hk2), Z0v (l := (h.weeksV l, (0 : Int)).1) (by show k < (h.weeksV l).length; rw [h1]; exact hk2), h3]
    show some (wkC h.gaps (msk []) (msk l) k) = some (na (h.weeksV l) k)
    rw [h2]; rfl
  · rw [List.getElem?_eq_none (by rw [Z22]; exact hk2), List.getElem?_eq_none (by show (h.weeksV l).length ≤ k; rw [h1]; exact hk2)]
theorem Z67 {h : Hse} {l : List Int} (hl : h.lsE l ≠ 0) : (h.weeksR l).1 = [] := by rw [Z3k rfl hl]
theorem Zbh (h : Hse) (l : List Int) : (h.weeksR l).2 = h.lsE l := by
  unfold Hse.weeksR
  by_cases h1 : h.lsE l = 0
  · rw [h1]; rfl
  · rw [decide_eq_true h1]; rfl
theorem Zfa (h : Hse) : h.clrR.2 = h.check := by
  unfold Hse.clrR
  by_cases h1 : h.check = 0
  · rw [h1]; rfl
  · rw [decide_eq_true h1]; rfl
theorem Z4E (h : Hse) (l : List Int) : (h.weeksR l).1.length ≤ 7 := by
  unfold Hse.weeksR
  cases decide (h.lsE l ≠ 0) with
  | true => exact Nat.zero_le _
  | false =>
    show (h.weeksV l).length ≤ 7
    unfold Hse.weeksV
    rw [List.length_take, Z1V, ZO]; omega
theorem Z6w (h : Hse) : h.clrR.1.length ≤ 7 := by
  unfold Hse.clrR
  by_cases hc : h.check = 0
  · have hb := (hse_ok.1 hc).bins
    rw [hc]
    exact Nat.le_trans (Z2f _ _) (by omega)
  · rw [decide_eq_true hc]; exact Nat.zero_le _
theorem Zdd {h : Hse} (hc : h.check ≠ 0) : h.clrR.1 = [] := by unfold Hse.clrR; rw [decide_eq_true hc]; rfl
structure HO where
  h : Hse
  og : OSl 97 2 (Z9 h.gaps)
  os : OSl 67 3 (Z7 h.sights)
def HO.G (x : HO) : Z8 := x.os.G ++ x.og.G
def HO.cs (x : HO) : List Value := htl x.h x.og.fs x.os.fs
def hoG (L : List HO) : Z8 := (L.map HO.G).flatten
def hoC (L : List HO) : List Value := (L.map HO.cs).flatten
theorem Z9f {L : List HO} {k : Nat} {x : HO} (h : L[k]? = some x) : hoG (L.drop k) = x.os.G ++ (x.og.G ++ hoG (L.drop (k + 1))) := by
  obtain ⟨hk, rfl⟩ := List.getElem?_eq_some_iff.1 h
  rw [List.drop_eq_getElem_cons hk]
  unfold hoG
  rw [List.map_cons, List.flatten_cons, HO.G, List.append_assoc]
theorem Z9W {L : List HO} {k : Nat} {x : HO} (h : L[k]? = some x) : (hoC L).drop (0 + ((k : Nat) : Int).toNat * 3) = x.cs ++ hoC (L.drop (k + 1)) := by
  rw [Nat.zero_add, Int.toNat_natCast]
  obtain ⟨hk, rfl⟩ := List.getElem?_eq_some_iff.1 h
  have key : ∀ (L : List HO) (k : Nat), (hoC L).drop (k * 3) = hoC (L.drop k) := fun L => by
    induction L with
    | nil => intro k; unfold hoC; simp
    | cons y L ih =>
      intro k
      cases k with
      | zero => rfl
      | succ k =>
        rw [List.drop_succ_cons, ← ih k, show (k + 1) * 3 = 3 + k * 3 by omega, ← List.drop_drop]
        congr 1
  rw [key, List.drop_eq_getElem_cons hk]; rfl
theorem pD9 {α : Type} (A B C D V : List α) : (A ++ (B ++ (C ++ (D ++ V)))).Perm (C ++ (D ++ (A ++ (B ++ V)))) := by
  rw [← List.append_assoc A B, ← List.append_assoc C D, ← List.append_assoc A B, ← List.append_assoc C D]
  exact List.perm_append_comm_assoc _ _ _
theorem pC9 {α : Type} (a b : α) (A B C D T : List α) : (a :: (A ++ (B ++ (b :: (C ++ (D ++ T)))))).Perm (C ++ (D ++ (A ++ (B ++ (a :: b :: T))))) :=
  ((((pB9 b D C T).append_left B).append_left A).cons a).trans (((pB9 a B A _).trans (((pB9 a D C _).append_left B).append_left A)).trans (pD9 A B C D _))
set_option maxHeartbeats 1000000 in
theorem Z3L (h : Hse) (ag as_ : Option Addr) (cg cs : Nat) (hlg : h.gaps.length ≤ 9223372036854775807) (hls : h.sights.length ≤ 9223372036854775807) (fr : List Int) (af : Option Addr) (cf : Nat) (hfl9 : fr.length ≤ 9223372036854775807) (hfc : fr.length ≤ cf) (sw : Sgt) (n : Int) (H : Z8) (R : Z5) [hG : MemRows ag 2 (Z9 h.gaps) R] [hS : MemRows as_ 3 (Z7 h.sights) R] [hF : MemRows af 1 (Z6 fr) R] :
    Fn Tryz.prog 5 [h.v (h.sg ag cg) (h.ss as_ cs), .slice af fr.length cf, .agg (ZF sw).toArray, .int .i64 n] H R (fun v H' R' => v = .bool true ∧ H' = H ∧ R' = R) := by
 refine Zh Tryz.func5 rfl Tryz.ntmps5 rfl ?_
 refine sqt 3 rfl (bx rfl rfl rfl (fun b4 => bx rfl rfl rfl (fun b6 => pur 1 rfl (Z0 (sqt 7 rfl (spL rfl rfl (lhA (htl h (h.sg ag cg) (h.ss as_ cs)) ZB rfl rfl rfl) rfl ?_))))))
 refine clV rfl Zey rfl rfl (ZbI h ag as_ cg cs (by omega) (by omega) _ _) ?_
 refine pur 1 rfl ?_
 refine Zq 35 rfl ?_ ?_ <;> intro g35
 refine pur 4 rfl ?_
 refine Z0a rfl ?_
 refine sqt 2 rfl ?_
 refine clV rfl Zbd rfl rfl (Z5n _ _) ?_
 refine pur 1 rfl (Z3 ?_)
 exact rtA rfl rfl rfl ⟨rfl, rfl, rfl⟩ (fun w h9 => St.sub ((h9.del b6).del b4))
 refine pur 1 rfl ?_
 refine ZdU (out := [_]) rfl rfl rfl rfl Zde Zai rfl rfl rfl rfl rfl rfl (fun b37 => ?_)
 refine Sy.heap (fun w h9 => St.rows (sz := 1) (rows := ZI [⟨af, cf, fr⟩]) (rest := []) (h9.pull b37) (by simp [ZI, Z5L])) ?_
 refine Z3G rfl rfl rfl rfl Zfb rfl rfl (Zd2 [⟨af, cf, fr⟩] (some ⟨b37, 0, none⟩) 1 (by simp) (by simp; omega) _ _) ?_
 refine pur 1 rfl ?_
 refine Z1 rfl ?_ ?_ <;> intro hc0
 refine sqt 2 rfl ?_
 refine clV rfl Zbd rfl rfl (Z5n _ _) ?_
 refine pur 1 rfl (Z3 ?_)
 exact rtA rfl rfl rfl ⟨rfl, rfl, rfl⟩ (fun w h9 => St.sub ((h9.del b6).del b4))
 have hsm : h.gaps.length ≤ 14 ∧ h.sights.length ≤ 12 := by
   unfold Zcp at g35
   rw [Bool.or_eq_false_iff] at g35
   have := of_decide_eq_false g35.1; have := of_decide_eq_false g35.2; omega
 have hfs : fr.length ≤ 14 := by
   have h9 : ZaT [fr] = false := hc0
   unfold ZaT at h9
   rw [Bool.or_eq_false_iff] at h9
   have := List.any_eq_false.1 h9.1 fr (by simp)
   simpa using this
 obtain ⟨hsg14, hss12⟩ := hsm
 refine Sy.heap (fun w h9 => h9.ftail) ?_
 refine Z2 (Z0 ?_)
 refine Zbj [0, 1, 0, 7, 0, 31, 0, 0, 255, 511, 1023] [0, 1, 2, 3, 4, 5, 6, 7, 8, 9, 10] Zz (by kernel_rfl) rfl (fun s L H1 R1 => ∃ (oa : Option Addr) (ob : Option Addr) (oc : Nat) (od : Nat) (xa : Option Addr) (xb : Option Addr) (xc : Nat) (xd : Nat) (ma : Option Addr) (mc : Nat) (b9 : Nat) (x9 : List Value) (b10 : Nat) (x10 : List Value), Sub [(1, .slice af fr.length cf), (3, .int .i64 n), (4, .pointer (some ⟨b4, 0, none⟩)), (6, .pointer (some ⟨b6, 0, none⟩))] L ∧ (∀ f ∈ (R : Z5), f ∈ R1) ∧ (s 0 = true → lk L 41 = some (h.v (h.sg ag cg) (h.ss as_ cs))) ∧ (s 1 = true → lk L 42 = some (h.v (h.sg oa oc) (h.ss ob od)) ∧ (RowsA ob 3 (Z7 h.sights)) ∈ R1 ∧ (RowsA oa 2 (Z9 h.gaps)) ∈ R1) ∧ (s 2 = true → lk L 43 = some (h.v (h.sg ag cg) (h.ss as_ cs))) ∧ (s 3 = true → lk L 44 = some (h.v (h.sg xa xc) (h.ss xb xd)) ∧ (RowsA xb 3 (Z7 h.sights)) ∈ R1 ∧ (RowsA xa 2 (Z9 h.gaps)) ∈ R1) ∧ (s 4 = true → lk L 45 = some (.slice af fr.length cf)) ∧ (s 5 = true → lk L 46 = some (.slice ma fr.length mc) ∧ (RowsA ma 1 (Z6 fr)) ∈ R1 ∧ (fr.length ≤ mc)) ∧ (s 6 = true → lk L 9 = some (.pointer (some ⟨b9, 0, none⟩)) ∧ (s 8 = false → x9 = [.int .i64 0, .slice none 0 0, .slice none 0 0])) ∧ (s 7 = true → lk L 10 = some (.pointer (some ⟨b10, 0, none⟩)) ∧ (s 9 = false → x10 = [.int .i64 0, .slice none 0 0, .slice none 0 0])) ∧ (s 8 = true → x9 = htl h (h.sg oa oc) (h.ss ob od)) ∧ (s 9 = true → x10 = htl h (h.sg xa xc) (h.ss xb xd)) ∧ (s 10 = true → lk L 11 = some (.slice ma fr.length mc)) ∧ ∀ w, St H1 R1 w → St ((bif s 7 then [(b10, cel 35 x10)] else []) ++ ((bif s 6 then [(b9, cel 25 x9)] else []) ++ ((b6, cel 67 (ZF sw)) :: (b4, cel 25 (htl h (h.sg ag cg) (h.ss as_ cs))) :: H))) R1 w) ?_ ?_ ?_
 exact ⟨none, none, 0, 0, none, none, 0, 0, none, 0, 0, [], 0, [], (by repeat' first | exact Sub.nil | apply Sub.cons | rfl | (simp [lk]; omega)), fun _ hf => hf, ff, ff, ff, ff, ff, ff, ff, ff, ff, ff, ff, fun w y9 => y9⟩
 refine ⟨?_, ?_, ?_, ?_, ?_, ?_, ?_, ?_, ?_, ?_, ?_, trivial⟩
 intro s Lz Hz Rz hdn hs hpre hI K hK
 obtain ⟨oa, ob, oc, od, xa, xb, xc, xd, ma, mc, b9, x9, b10, x10, hL0, hR0, q0, q1, q2, q3, q4, q5, q6, q7, q8, q9, q10, hH⟩ := hI
 refine Sy.heap hH ?_
 refine spL rfl (Sub.lk hL0 _ _ rfl) ((lhA (htl h (h.sg ag cg) (h.ss as_ cs)) ZB rfl rfl rfl)) rfl ?_
 exact hK _ _ _ ⟨oa, ob, oc, od, xa, xb, xc, xd, ma, mc, b9, x9, b10, x10, Z0g rfl hL0, hR0, fun _ => Z1i, lm2 q1, lm1 q2, lm2 q3, lm1 q4, lm2 q5, lm2 q6, lm2 q7, q8, q9, lm1 q10, fun w y9 => y9⟩
 intro s Lz Hz Rz hdn hs hpre hI K hK
 obtain ⟨oa, ob, oc, od, xa, xb, xc, xd, ma, mc, b9, x9, b10, x10, hL0, hR0, q0, q1, q2, q3, q4, q5, q6, q7, q8, q9, q10, hH⟩ := hI
 have h0 : s 0 = true := hpre 0 rfl
 refine Sy.heap hH ?_
 haveI m0 : MemRows ag 2 (Z9 h.gaps) Rz := ⟨hR0 _ (inferInstance : MemRows ag 2 (Z9 h.gaps) (R)).mem⟩
 haveI m1 : MemRows as_ 3 (Z7 h.sights) Rz := ⟨hR0 _ (inferInstance : MemRows as_ 3 (Z7 h.sights) (R)).mem⟩
 refine cl rfl Zbv rfl (by simp only [evs, show ev Lz (.tmp 41) = _ from (q0 h0)]) (ZdF h ag as_ cg cs (by omega) (by omega) _ _) ?_
 rintro _ _ R1 ⟨oa, ob, oc, od, rfl, rfl, hR1⟩
 obtain rfl := hR1.symm
 clear hR1
 exact hK _ _ _ ⟨oa, ob, oc, od, xa, xb, xc, xd, ma, mc, b9, x9, b10, x10, Z0g rfl hL0, Z2h (Z2h (hR0)), fun h => Zx rfl (q0 h), fun _ => ⟨Z1i, (by simp), (by simp)⟩, fun h => Zx rfl (q2 h), fun h => ⟨Zx rfl (q3 h).1, List.mem_cons_of_mem _ (List.mem_cons_of_mem _ ((q3 h).2.1)), List.mem_cons_of_mem _ (List.mem_cons_of_mem _ ((q3 h).2.2))⟩, fun h => Zx rfl (q4 h), fun h => ⟨Zx rfl (q5 h).1, List.mem_cons_of_mem _ (List.mem_cons_of_mem _ ((q5 h).2.1)), (q5 h).2.2⟩, fun h => ⟨Zx rfl (q6 h).1, (q6 h).2⟩, fun h => ⟨Zx rfl (q7 h).1, (q7 h).2⟩, nof hdn hs 8, q9, fun h => Zx rfl (q10 h), fun w y9 => y9⟩
 intro s Lz Hz Rz hdn hs hpre hI K hK
 obtain ⟨oa, ob, oc, od, xa, xb, xc, xd, ma, mc, b9, x9, b10, x10, hL0, hR0, q0, q1, q2, q3, q4, q5, q6, q7, q8, q9, q10, hH⟩ := hI
 refine Sy.heap hH ?_
 refine spL rfl (Sub.lk hL0 _ _ rfl) ((lhA (htl h (h.sg ag cg) (h.ss as_ cs)) ZB rfl rfl rfl)) rfl ?_
 exact hK _ _ _ ⟨oa, ob, oc, od, xa, xb, xc, xd, ma, mc, b9, x9, b10, x10, Z0g rfl hL0, hR0, lm1 q0, lm2 q1, fun _ => Z1i, lm2 q3, lm1 q4, lm2 q5, lm2 q6, lm2 q7, q8, q9, lm1 q10, fun w y9 => y9⟩
 intro s Lz Hz Rz hdn hs hpre hI K hK
 obtain ⟨oa, ob, oc, od, xa, xb, xc, xd, ma, mc, b9, x9, b10, x10, hL0, hR0, q0, q1, q2, q3, q4, q5, q6, q7, q8, q9, q10, hH⟩ := hI
 obtain ⟨h0, h1, h2⟩ : s 0 = true ∧ s 1 = true ∧ s 2 = true := ⟨hpre 0 rfl, hpre 1 rfl, hpre 2 rfl⟩
 refine Sy.heap hH ?_
 haveI m0 : MemRows ag 2 (Z9 h.gaps) Rz := ⟨hR0 _ (inferInstance : MemRows ag 2 (Z9 h.gaps) (R)).mem⟩
 haveI m1 : MemRows as_ 3 (Z7 h.sights) Rz := ⟨hR0 _ (inferInstance : MemRows as_ 3 (Z7 h.sights) (R)).mem⟩
 refine cl rfl Zdw rfl (by simp only [evs, show ev Lz (.tmp 43) = _ from (q2 h2)]) (Z6x h ag as_ cg cs (by omega) (by omega) _ _) ?_
 rintro _ _ R1 ⟨xa, xb, xc, xd, rfl, rfl, hR1⟩
 obtain rfl := hR1.symm
 clear hR1
 exact hK _ _ _ ⟨oa, ob, oc, od, xa, xb, xc, xd, ma, mc, b9, x9, b10, x10, Z0g rfl hL0, Z2h (Z2h (hR0)), fun h => Zx rfl (q0 h), fun h => ⟨Zx rfl (q1 h).1, List.mem_cons_of_mem _ (List.mem_cons_of_mem _ ((q1 h).2.1)), List.mem_cons_of_mem _ (List.mem_cons_of_mem _ ((q1 h).2.2))⟩, fun h => Zx rfl (q2 h), fun _ => ⟨Z1i, (by simp), (by simp)⟩, fun h => Zx rfl (q4 h), fun h => ⟨Zx rfl (q5 h).1, List.mem_cons_of_mem _ (List.mem_cons_of_mem _ ((q5 h).2.1)), (q5 h).2.2⟩, fun h => ⟨Zx rfl (q6 h).1, (q6 h).2⟩, fun h => ⟨Zx rfl (q7 h).1, (q7 h).2⟩, q8, nof hdn hs 9, fun h => Zx rfl (q10 h), fun w y9 => y9⟩
 intro s Lz Hz Rz hdn hs hpre hI K hK
 obtain ⟨oa, ob, oc, od, xa, xb, xc, xd, ma, mc, b9, x9, b10, x10, hL0, hR0, q0, q1, q2, q3, q4, q5, q6, q7, q8, q9, q10, hH⟩ := hI
 refine Sy.heap hH ?_
 refine sp rfl (PE.move (Sub.lk hL0 _ _ rfl)) rfl ?_
 exact hK _ _ _ ⟨oa, ob, oc, od, xa, xb, xc, xd, ma, mc, b9, x9, b10, x10, Z0g rfl hL0, hR0, lm1 q0, lm2 q1, lm1 q2, lm2 q3, fun _ => Z1i, lm2 q5, lm2 q6, lm2 q7, q8, q9, lm1 q10, fun w y9 => y9⟩
 intro s Lz Hz Rz hdn hs hpre hI K hK
 obtain ⟨oa, ob, oc, od, xa, xb, xc, xd, ma, mc, b9, x9, b10, x10, hL0, hR0, q0, q1, q2, q3, q4, q5, q6, q7, q8, q9, q10, hH⟩ := hI
 obtain ⟨h0, h1, h2, h3, h4⟩ : s 0 = true ∧ s 1 = true ∧ s 2 = true ∧ s 3 = true ∧ s 4 = true := ⟨hpre 0 rfl, hpre 1 rfl, hpre 2 rfl, hpre 3 rfl, hpre 4 rfl⟩
 refine Sy.heap hH ?_
 haveI m0 : MemRows af 1 (Z6 fr) Rz := ⟨hR0 _ (inferInstance : MemRows af 1 (Z6 fr) (R)).mem⟩
 refine cl rfl ZeR rfl (by simp only [evs, show ev Lz (.tmp 45) = _ from (q4 h4)]) (Zeg fr af cf (by omega) _ _) ?_
 rintro _ _ R1 ⟨ma, mc, hmc, rfl, rfl, hR1⟩
 obtain rfl := hR1.symm
 clear hR1
 exact hK _ _ _ ⟨oa, ob, oc, od, xa, xb, xc, xd, ma, mc, b9, x9, b10, x10, Z0g rfl hL0, Z2h (hR0), fun h => Zx rfl (q0 h), fun h => ⟨Zx rfl (q1 h).1, List.mem_cons_of_mem _ ((q1 h).2.1), List.mem_cons_of_mem _ ((q1 h).2.2)⟩, fun h => Zx rfl (q2 h), fun h => ⟨Zx rfl (q3 h).1, List.mem_cons_of_mem _ ((q3 h).2.1), List.mem_cons_of_mem _ ((q3 h).2.2)⟩, fun h => Zx rfl (q4 h), fun _ => ⟨Z1i, (by simp), hmc⟩, fun h => ⟨Zx rfl (q6 h).1, (q6 h).2⟩, fun h => ⟨Zx rfl (q7 h).1, (q7 h).2⟩, q8, q9, nof hdn hs 10, fun w y9 => y9⟩
 intro s Lz Hz Rz hdn hs hpre hI K hK
 obtain ⟨oa, ob, oc, od, xa, xb, xc, xd, ma, mc, b9, x9, b10, x10, hL0, hR0, q0, q1, q2, q3, q4, q5, q6, q7, q8, q9, q10, hH⟩ := hI
 refine Sy.heap hH ?_
 refine alc rfl Z0R rfl (fun b9 => ?_)
 exact hK _ _ _ ⟨oa, ob, oc, od, xa, xb, xc, xd, ma, mc, b9, [.int .i64 0, .slice none 0 0, .slice none 0 0], b10, x10, Z0g rfl hL0, hR0, lm1 q0, lm2 q1, lm1 q2, lm2 q3, lm1 q4, lm2 q5, fun _ => ⟨Z1i, fun _ => rfl⟩, lm2 q7, nof hdn hs 8, q9, lm1 q10, fun w y9 => by rw [hs] at y9; exact y9.perm (List.perm_middle.symm.trans (List.Perm.append_left _ (.refl _)))⟩
 intro s Lz Hz Rz hdn hs hpre hI K hK
 obtain ⟨oa, ob, oc, od, xa, xb, xc, xd, ma, mc, b9, x9, b10, x10, hL0, hR0, q0, q1, q2, q3, q4, q5, q6, q7, q8, q9, q10, hH⟩ := hI
 refine Sy.heap hH ?_
 refine alc rfl Zet rfl (fun b10 => ?_)
 exact hK _ _ _ ⟨oa, ob, oc, od, xa, xb, xc, xd, ma, mc, b9, x9, b10, [.int .i64 0, .slice none 0 0, .slice none 0 0], Z0g rfl hL0, hR0, lm1 q0, lm2 q1, lm1 q2, lm2 q3, lm1 q4, lm2 q5, lm2 q6, fun _ => ⟨Z1i, fun _ => rfl⟩, q8, nof hdn hs 9, lm1 q10, fun w y9 => by rw [hs] at y9; exact y9.perm (.refl _)⟩
 intro s Lz Hz Rz hdn hs hpre hI K hK
 obtain ⟨oa, ob, oc, od, xa, xb, xc, xd, ma, mc, b9, x9, b10, x10, hL0, hR0, q0, q1, q2, q3, q4, q5, q6, q7, q8, q9, q10, hH⟩ := hI
 obtain ⟨h0, h1, h2, h3, h4, h5, h6, h7⟩ : s 0 = true ∧ s 1 = true ∧ s 2 = true ∧ s 3 = true ∧ s 4 = true ∧ s 5 = true ∧ s 6 = true ∧ s 7 = true := ⟨hpre 0 rfl, hpre 1 rfl, hpre 2 rfl, hpre 3 rfl, hpre 4 rfl, hpre 5 rfl, hpre 6 rfl, hpre 7 rfl⟩
 refine Sy.heap hH ?_
 obtain rfl := (q6 h6).2 hs
 refine Sy.heap (H' := (bif s 7 then [(b10, cel 35 x10)] else []) ++ ((b9, cel 25 [.int .i64 0, .slice none 0 0, .slice none 0 0]) :: ((b6, cel 67 (ZF sw)) :: (b4, cel 25 (htl h (h.sg ag cg) (h.ss as_ cs))) :: H))) (fun w y9 => by rw [h6] at y9; exact y9) ?_
 refine Zy (l' := htl h (h.sg oa oc) (h.ss ob od)) rfl (q6 h6).1 (q1 h1).1 Z1l rfl rfl rfl rfl (Nat.le_refl _) ?_
 exact hK _ _ _ ⟨oa, ob, oc, od, xa, xb, xc, xd, ma, mc, b9, htl h (h.sg oa oc) (h.ss ob od), b10, x10, hL0, hR0, q0, q1, q2, q3, q4, q5, fun h => ⟨(q6 h).1, fun h => by cases (show true = false from h)⟩, q7, fun _ => rfl, q9, q10, fun w y9 => by show St ((bif s 7 then [(b10, cel 35 x10)] else []) ++ ((bif s 6 then [(b9, cel 25 (htl h (h.sg oa oc) (h.ss ob od)))] else []) ++ ((b6, cel 67 (ZF sw)) :: (b4, cel 25 (htl h (h.sg ag cg) (h.ss as_ cs))) :: H))) Rz w; rw [h6]; exact y9⟩
 intro s Lz Hz Rz hdn hs hpre hI K hK
 obtain ⟨oa, ob, oc, od, xa, xb, xc, xd, ma, mc, b9, x9, b10, x10, hL0, hR0, q0, q1, q2, q3, q4, q5, q6, q7, q8, q9, q10, hH⟩ := hI
 obtain ⟨h0, h1, h2, h3, h4, h5, h6, h7, h8⟩ : s 0 = true ∧ s 1 = true ∧ s 2 = true ∧ s 3 = true ∧ s 4 = true ∧ s 5 = true ∧ s 6 = true ∧ s 7 = true ∧ s 8 = true := ⟨hpre 0 rfl, hpre 1 rfl, hpre 2 rfl, hpre 3 rfl, hpre 4 rfl, hpre 5 rfl, hpre 6 rfl, hpre 7 rfl, hpre 8 rfl⟩
 refine Sy.heap hH ?_
 obtain rfl := (q7 h7).2 hs
 refine Sy.heap (H' := (b10, cel 35 [.int .i64 0, .slice none 0 0, .slice none 0 0]) :: ((bif s 6 then [(b9, cel 25 x9)] else []) ++ ((b6, cel 67 (ZF sw)) :: (b4, cel 25 (htl h (h.sg ag cg) (h.ss as_ cs))) :: H))) (fun w y9 => by rw [h7] at y9; exact y9) ?_
 refine Zy (l' := htl h (h.sg xa xc) (h.ss xb xd)) rfl (q7 h7).1 (q3 h3).1 Zfc rfl rfl rfl rfl (Nat.le_refl _) ?_
 exact hK _ _ _ ⟨oa, ob, oc, od, xa, xb, xc, xd, ma, mc, b9, x9, b10, htl h (h.sg xa xc) (h.ss xb xd), hL0, hR0, q0, q1, q2, q3, q4, q5, q6, fun h => ⟨(q7 h).1, fun h => by cases (show true = false from h)⟩, q8, fun _ => rfl, q10, fun w y9 => by show St ((bif s 7 then [(b10, cel 35 (htl h (h.sg xa xc) (h.ss xb xd)))] else []) ++ ((bif s 6 then [(b9, cel 25 x9)] else []) ++ ((b6, cel 67 (ZF sw)) :: (b4, cel 25 (htl h (h.sg ag cg) (h.ss as_ cs))) :: H))) Rz w; rw [h7]; exact y9⟩
 intro s Lz Hz Rz hdn hs hpre hI K hK
 obtain ⟨oa, ob, oc, od, xa, xb, xc, xd, ma, mc, b9, x9, b10, x10, hL0, hR0, q0, q1, q2, q3, q4, q5, q6, q7, q8, q9, q10, hH⟩ := hI
 obtain ⟨h0, h1, h2, h3, h4, h5, h6, h7, h8, h9⟩ : s 0 = true ∧ s 1 = true ∧ s 2 = true ∧ s 3 = true ∧ s 4 = true ∧ s 5 = true ∧ s 6 = true ∧ s 7 = true ∧ s 8 = true ∧ s 9 = true := ⟨hpre 0 rfl, hpre 1 rfl, hpre 2 rfl, hpre 3 rfl, hpre 4 rfl, hpre 5 rfl, hpre 6 rfl, hpre 7 rfl, hpre 8 rfl, hpre 9 rfl⟩
 refine Sy.heap hH ?_
 refine sp rfl (PE.assign (q5 h5).1) rfl ?_
 exact hK _ _ _ ⟨oa, ob, oc, od, xa, xb, xc, xd, ma, mc, b9, x9, b10, x10, Z0g rfl hL0, hR0, lm1 q0, lm2 q1, lm1 q2, lm2 q3, lm1 q4, lm2 q5, lm2 q6, lm2 q7, q8, q9, fun _ => Z1i, fun w y9 => y9⟩
 intro Lz Hz Rz hI
 obtain ⟨oa, ob, oc, od, xa, xb, xc, xd, ma, mc, b9, x9, b10, x10, hL0, hR0, q0, q1, q2, q3, q4, q5, q6, q7, q8, q9, q10, hH⟩ := hI
 obtain rfl := q9 rfl
 obtain rfl := q8 rfl
 have hmc : fr.length ≤ mc := (q5 rfl).2.2
 refine Sy.weak (L' := [(10, .pointer (some ⟨b10, 0, none⟩)), (9, .pointer (some ⟨b9, 0, none⟩)), (11, .slice ma fr.length mc), (1, .slice af fr.length cf), (3, .int .i64 n), (4, .pointer (some ⟨b4, 0, none⟩)), (6, .pointer (some ⟨b6, 0, none⟩))]) (H' := (b10, cel 35 (htl h (h.sg xa xc) (h.ss xb xd))) :: (b9, cel 25 (htl h (h.sg oa oc) (h.ss ob od))) :: (b6, cel 67 (ZF sw)) :: (b4, cel 25 (htl h (h.sg ag cg) (h.ss as_ cs))) :: H) (R' := RowsA ma 1 (Z6 fr) :: RowsA xb 3 (Z7 h.sights) :: RowsA xa 2 (Z9 h.gaps) :: RowsA ob 3 (Z7 h.sights) :: RowsA oa 2 (Z9 h.gaps) :: R) ?_ (Sub.cons (q7 rfl).1 (Sub.cons (q6 rfl).1 (Sub.cons (q10 rfl) hL0))).lk (fun w h => St.facts (hH w h) (Z2m (q5 rfl).2.1 (Z2m (q3 rfl).2.1 (Z2m (q3 rfl).2.2 (Z2m (q1 rfl).2.1 (Z2m (q1 rfl).2.2 hR0))))))
 refine sqt 3 rfl (spL rfl rfl (lhA (htl h (h.sg xa xc) (h.ss xb xd)) Z79 rfl rfl rfl) rfl ?_)
 refine clV rfl Ze5 rfl rfl (Z6u h xa xb xc xd (by omega) (by omega) _ _) ?_
 refine pur 1 rfl (Z0 (sqt 4 rfl (spL rfl rfl (lhA (htl h (h.sg oa oc) (h.ss ob od)) ZB rfl rfl rfl) rfl ?_)))
 refine clV rfl Z1p rfl rfl (ZR h oa ob oc od (by omega) (by omega) _ _) ?_
 refine pur 2 rfl ?_
 refine Z1 rfl ?_ ?_ <;> intro hc1
 exact absurd hc1 (by simp)
 refine Z2 (sqt 6 rfl (pur 6 rfl (sqt 2 rfl (pur 2 rfl (sqt 1 rfl (pur 1 rfl (sqt 2 rfl (alc rfl Z0R rfl (fun b19 => alc rfl Z0R rfl (fun b20 => Z0 (sqt 2 rfl (pur 2 rfl ?_))))))))))))
 refine Z3e (ι := (Option Addr × Nat) × (Option Addr × Nat) × ((Option Addr × Option Addr) × Nat × Nat) × ((Option Addr × Option Addr) × Nat × Nat)) (fun q => ⟨[(1, .slice af fr.length cf), (3, .int .i64 n), (4, .pointer (some ⟨b4, 0, none⟩)), (6, .pointer (some ⟨b6, 0, none⟩)), (9, .pointer (some ⟨b9, 0, none⟩)), (10, .pointer (some ⟨b10, 0, none⟩)), (11, .slice ma fr.length mc), (12, .int .i64 h.check), (13, .int .i64 (h.lsE fr)), (14, .int .i64 (h.seeE sw)), (15, .int .i64 (h.cloE n)), (16, .slice q.1.1 (h.weeksR fr).1.length q.1.2), (17, .slice q.2.1.1 h.clrR.1.length q.2.1.2), (18, .bool (decide (h.lsE fr = 0) && Z1U h.gaps (msk fr) h.sights)), (19, .pointer (some ⟨b19, 0, none⟩)), (20, .pointer (some ⟨b20, 0, none⟩))], (b20, cel 25 (htl (h.cloH n) ((h.cloH n).sg q.2.2.2.1.1 q.2.2.2.2.1) ((h.cloH n).ss q.2.2.2.1.2 q.2.2.2.2.2))) :: (b19, cel 25 (htl (h.seeH sw) ((h.seeH sw).sg q.2.2.1.1.1 q.2.2.1.2.1) ((h.seeH sw).ss q.2.2.1.1.2 q.2.2.1.2.2))) :: (b10, cel 35 (htl h (h.sg xa xc) (h.ss xb xd))) :: (b9, cel 25 (htl h (h.sg oa oc) (h.ss ob od))) :: (b6, cel 67 (ZF sw)) :: (b4, cel 25 (htl h (h.sg ag cg) (h.ss as_ cs))) :: H, RowsA q.2.2.2.1.2 3 (Z7 (h.cloH n).sights) :: RowsA q.2.2.2.1.1 2 (Z9 (h.cloH n).gaps) :: RowsA q.2.2.1.1.2 3 (Z7 (h.seeH sw).sights) :: RowsA q.2.2.1.1.1 2 (Z9 (h.seeH sw).gaps) :: RowsA q.2.1.1 1 (Z6 h.clrR.1) :: RowsA q.1.1 1 (Z6 (h.weeksR fr).1) :: RowsA ma 1 (Z6 fr) :: RowsA xb 3 (Z7 h.sights) :: RowsA xa 2 (Z9 h.gaps) :: RowsA ob 3 (Z7 h.sights) :: RowsA oa 2 (Z9 h.gaps) :: R⟩) ?_ ?_
 refine Z1 rfl ?_ ?_ <;> intro hc2 <;> try simp only [cS] at hc2
 have hck : h.check = 0 := hc2
 have hok := hse_ok.1 hck
 have hgl := hok.gl
 have hsl := hok.sl
 have hbn := hok.bins
 have els : h.lsE fr = ZH h.bins fr := Zaq hck
 refine Z0 (sqt 5 rfl (pur 1 rfl (sp rfl (PE.fA Z0z rfl) rfl (spL rfl rfl (lh (v := .int .i64 h.bins) sc3 rfl rfl) rfl ?_))))
 refine clV rfl ZeH rfl rfl (Z8m fr af cf h.bins (by omega) (by omega) hfc _ _) ?_
 rw [← els]
 refine pur 1 rfl (sqt 2 rfl (pur 2 rfl ?_))
 refine Z3e (ι := Option Addr × Nat) (fun q => ⟨[(1, .slice af fr.length cf), (3, .int .i64 n), (4, .pointer (some ⟨b4, 0, none⟩)), (6, .pointer (some ⟨b6, 0, none⟩)), (9, .pointer (some ⟨b9, 0, none⟩)), (10, .pointer (some ⟨b10, 0, none⟩)), (11, .slice ma fr.length mc), (12, .int .i64 h.check), (13, .int .i64 (h.lsE fr)), (14, .int .i64 h.check), (15, .int .i64 h.check), (16, .slice q.1 (h.weeksR fr).1.length q.2), (17, .slice none 0 0), (18, .bool (decide (h.lsE fr = 0) && Z1U h.gaps (msk fr) h.sights)), (19, .pointer (some ⟨b19, 0, none⟩)), (20, .pointer (some ⟨b20, 0, none⟩))], (b20, cel 25 (htl ⟨0, [], []⟩ (.slice none 0 0) (.slice none 0 0))) :: (b19, cel 25 (htl ⟨0, [], []⟩ (.slice none 0 0) (.slice none 0 0))) :: (b10, cel 35 (htl h (h.sg xa xc) (h.ss xb xd))) :: (b9, cel 25 (htl h (h.sg oa oc) (h.ss ob od))) :: (b6, cel 67 (ZF sw)) :: (b4, cel 25 (htl h (h.sg ag cg) (h.ss as_ cs))) :: H, RowsA q.1 1 (Z6 (h.weeksR fr).1) :: RowsA ma 1 (Z6 fr) :: RowsA xb 3 (Z7 h.sights) :: RowsA xa 2 (Z9 h.gaps) :: RowsA ob 3 (Z7 h.sights) :: RowsA oa 2 (Z9 h.gaps) :: R⟩) ?_ ?_
 refine Z1 rfl ?_ ?_ <;> intro hc3 <;> try simp only [cS] at hc3
 have hle : h.lsE fr = 0 := hc3
 have hl0 : ZH h.bins fr = 0 := els.symm.trans hle
 obtain ⟨ew1, ew2⟩ := Z7Z hok hle
 have e8 : (decide (h.lsE fr = 0) && Z1U h.gaps (msk fr) h.sights) = Z1U h.gaps (msk fr) h.sights := by rw [hle]; rfl
 refine Sy.heap (fun w h9 => St.norows (sz := 1) (h9)) ?_
 refine Zi [0, 0, 3, 0, 0, 31, 63, 127] (.ld 0 (.tk 1 (.ld 3 (.tk 4 (.big 2 (.big 5 (.tk 6 (.tk 7 .done)))))))) Zz (by kernel_rfl) ?_
 refine ld rfl rfl (lhA (htl h (h.sg xa xc) (h.ss xb xd)) Z79 rfl rfl rfl) rfl (Zp 1 rfl (ld rfl rfl (lhA (htl h (h.sg xa xc) (h.ss xb xd)) Z79 rfl rfl rfl) rfl (Zp 1 rfl ?_)))
 refine cl rfl Zbi rfl rfl (Z4j h xa xb xc xd hok fr [] af none cf 0 hl0 (fun x hx => by cases hx) (by decide) _ _) ?_
 rintro _ _ R1 ⟨aw, cw, rfl, rfl, hR1⟩
 obtain rfl := hR1.symm
 clear hR1
 rw [ew1, ew2]
 refine bg (fun w hs => ⟨(lhA (htl h (h.sg xa xc) (h.ss xb xd)) Z79 rfl rfl rfl) w hs, trivial, trivial⟩) ?_
 refine clV rfl Zfg rfl rfl (Z5v h xa xb xc xd hok fr af cf hl0 _ _) ?_
 refine bgT (Zp 2 rfl ?_)
 exact Z0J (aw, cw) (by dsimp only; rw [e8]; exact (by repeat' first | exact Sub.nil | apply Sub.cons | rfl | (simp [lk]; omega))) (fun w h9 => h9.facts (fun g hg => by simp only [List.mem_cons] at hg ⊢; rcases hg with h8 | h8 | h8 | h8 | h8 | h8 | h8 <;> simp [h8]))
 have hle : h.lsE fr ≠ 0 := hc3
 have e6 := Z67 hle
 have e8 : (decide (h.lsE fr = 0) && Z1U h.gaps (msk fr) h.sights) = false := by rw [dF hle]; rfl
 refine Z2 ?_
 exact Z0J (none, 0) (by dsimp only; rw [e6, dF hle, Bool.false_and]; exact (by repeat' first | exact Sub.nil | apply Sub.cons | rfl | (simp [lk]; omega))) (fun w h9 => by dsimp only; rw [e6]; exact St.norows (sz := 1) (h9))
 rintro ⟨aw, cw⟩
 dsimp only
 refine sqt 3 rfl (spL rfl rfl (lhA (htl h (h.sg xa xc) (h.ss xb xd)) Z79 rfl rfl rfl) rfl ?_)
 refine cl rfl Zew rfl rfl (Z6N h xa xb xc xd hok _ _) ?_
 rintro _ _ R1 ⟨ac, cc, rfl, rfl, hR1⟩
 obtain rfl := hR1.symm
 clear hR1
 refine pur 1 rfl (Z0 (sqt 1 rfl (pur 1 rfl (sqt 4 rfl (sp rfl (PE.fA ZJ rfl) rfl (spL rfl rfl (lh Z27 rfl rfl) rfl (sp rfl (PE.lenSl Z1W rfl) rfl (pur 1 rfl ?_))))))))
 refine Z3e (ι := ((Option Addr × Option Addr) × Nat × Nat)) (fun q => ⟨[(1, .slice af fr.length cf), (3, .int .i64 n), (4, .pointer (some ⟨b4, 0, none⟩)), (6, .pointer (some ⟨b6, 0, none⟩)), (9, .pointer (some ⟨b9, 0, none⟩)), (10, .pointer (some ⟨b10, 0, none⟩)), (11, .slice ma fr.length mc), (12, .int .i64 h.check), (13, .int .i64 (h.lsE fr)), (14, .int .i64 (h.seeE sw)), (15, .int .i64 h.check), (16, .slice aw (h.weeksR fr).1.length cw), (17, .slice ac h.clrR.1.length cc), (18, .bool (decide (h.lsE fr = 0) && Z1U h.gaps (msk fr) h.sights)), (19, .pointer (some ⟨b19, 0, none⟩)), (20, .pointer (some ⟨b20, 0, none⟩))], (b20, cel 25 (htl ⟨0, [], []⟩ (.slice none 0 0) (.slice none 0 0))) :: (b19, cel 25 (htl (h.seeH sw) ((h.seeH sw).sg q.1.1 q.2.1) ((h.seeH sw).ss q.1.2 q.2.2))) :: (b10, cel 35 (htl h (h.sg xa xc) (h.ss xb xd))) :: (b9, cel 25 (htl h (h.sg oa oc) (h.ss ob od))) :: (b6, cel 67 (ZF sw)) :: (b4, cel 25 (htl h (h.sg ag cg) (h.ss as_ cs))) :: H, RowsA q.1.2 3 (Z7 (h.seeH sw).sights) :: RowsA q.1.1 2 (Z9 (h.seeH sw).gaps) :: RowsA ac 1 (Z6 h.clrR.1) :: RowsA aw 1 (Z6 (h.weeksR fr).1) :: RowsA ma 1 (Z6 fr) :: RowsA xb 3 (Z7 h.sights) :: RowsA xa 2 (Z9 h.gaps) :: RowsA ob 3 (Z7 h.sights) :: RowsA oa 2 (Z9 h.gaps) :: R⟩) ?_ ?_
 refine Z1 rfl ?_ ?_ <;> intro hc4 <;> try simp only [cS] at hc4
 have hgo := Z8E (s := sw) hck (by omega)
 refine sqt 3 rfl (spL rfl rfl (lhA (htl h (h.sg ag cg) (h.ss as_ cs)) ZB rfl rfl rfl) rfl ?_)
 refine cl rfl Zbv rfl rfl (ZbA h ag as_ cg cs (by omega) (by omega) _ _) ?_
 rintro _ _ R1 ⟨og, os, rfl, rfl, hR1⟩
 obtain rfl := hR1.symm
 clear hR1
 refine Zy (l' := htl h og.fs os.fs) rfl rfl rfl Z1l rfl rfl (by show (htl _ og.fs os.fs).all (·.oneCell') = true; simp only [htl, List.all_cons, List.all_nil, og.cells.2, os.cells.2, Bool.and_true]; rfl) rfl (nl rfl) ?_
 refine sqt 7 rfl (sp rfl (PE.fA ZJ rfl) rfl (spL rfl rfl (lh Z27 rfl rfl) rfl (spL rfl rfl (lhA (ZF sw) Z6d rfl rfl rfl) rfl ?_)))
 refine bsl (out := [_, _, _]) rfl Z75 Z5F rfl rfl rfl rfl rfl rfl (fun b81 => ?_)
 refine apO (os) rfl Z5V rfl rfl (Z07 (row := ZF sw) rfl) rfl rfl ((by rw [Zt]; simp only [List.length_singleton]; omega)) rfl (fun o82 => ?_)
 refine sp rfl (PE.fA ZJ rfl) rfl ?_
 refine Zy (l' := htl h og.fs o82.fs) rfl rfl rfl ZfG rfl (by rw [o82.cells.1]; first | done | rfl) (by rw [o82.cells.1]; simp [o82.cells.2]) (by rw [o82.cells.1]; first | done | rfl) (by rw [o82.cells.1]; first | done | exact Nat.le_of_ble_eq_true rfl) ?_
 refine sqt 4 rfl ?_
 obtain ⟨sa, sc, he1, hsc, hz1⟩ := og.freezeC
 obtain ⟨sb, sd, he2, hsd, hz2⟩ := (o82.cast (show Z7 h.sights ++ [ZF sw] = Z7 (h.add sw).sights from by unfold Hse.add; rw [Z1R]; rfl)).freezeC
 rw [show o82.fs = _ from he2, Zt, he1, Zv]
 refine Sy.heap (fun w h9 => h9.del b81) ?_
 refine Sy.heap (H' := og.G ++ _) (fun w h9 => hz2 h9) ?_
 refine Sy.heap (H' := _) (fun w h9 => hz1 h9) ?_
 clear he1 he2 hz1 hz2
 refine Z02 b19 ?_
 refine Sy.heap (H' := (b19, cel 25 (htl (h.add sw) ((h.add sw).sg sa sc) ((h.add sw).ss sb sd))) :: _) (fun w h9 => h9) ?_
 refine spL rfl rfl (lhA (htl (h.add sw) ((h.add sw).sg sa sc) ((h.add sw).ss sb sd)) ZB rfl rfl rfl) rfl ?_
 refine cl rfl Zdw rfl rfl (Z6x (h.add sw) sa sb sc sd (by show h.gaps.length ≤ _; omega) (by unfold Hse.add; simp only [List.length_append, List.length_singleton]; omega) _ _) ?_
 rintro _ _ R1 ⟨ta, tb, tc, td, rfl, rfl, hR1⟩
 obtain rfl := hR1.symm
 clear hR1
 refine clV rfl Ze5 rfl rfl (Z6u (h.add sw) ta tb tc td (by show h.gaps.length ≤ _; omega) (by unfold Hse.add; simp only [List.length_append, List.length_singleton]; omega) _ _) ?_
 refine pur 1 rfl (sqt 2 rfl (pur 2 rfl ?_))
 refine Z1 rfl ?_ ?_ <;> intro hc5 <;> try simp only [cS] at hc5
 have hc9 : (h.add sw).check ≠ 0 := hc5
 have e5 := Z0U hgo hc9
 refine Sy.heap (R' := RowsA ac 1 (Z6 h.clrR.1) :: RowsA aw 1 (Z6 (h.weeksR fr).1) :: RowsA ma 1 (Z6 fr) :: RowsA xb 3 (Z7 h.sights) :: RowsA xa 2 (Z9 h.gaps) :: RowsA ob 3 (Z7 h.sights) :: RowsA oa 2 (Z9 h.gaps) :: R) (fun w h9 => h9.facts (fun g hg => by simp only [List.mem_cons] at hg ⊢; rcases hg with h8 | h8 | h8 | h8 | h8 | h8 | h8 | h8 <;> simp [h8, Hse.add])) ?_
 refine sqr 2 rfl (sp rfl (PE.build (out := htl ⟨0, [], []⟩ (.slice none 0 0) (.slice none 0 0)) Z37 Z0R rfl rfl) rfl ?_)
 refine Zy (l' := htl ⟨0, [], []⟩ (.slice none 0 0) (.slice none 0 0)) rfl rfl rfl Z1l rfl rfl rfl rfl (nl rfl) ?_
 exact Z0J ((none, none), 0, 0) (by dsimp only; rw [hgo]; exact (by repeat' first | exact Sub.nil | apply Sub.cons | rfl | (simp [lk]; omega))) (fun w h9 => by dsimp only; rw [e5]; exact St.norows (sz := 3) (St.norows (sz := 2) (((h9.pull b19).pull b20))))
 have hc9 : (h.add sw).check = 0 := Classical.byContradiction hc5
 have e2 : h.seeE sw = 0 := hgo.trans hc9
 have e5 := Z1g e2
 refine Z2 ?_
 exact Z0J ((sa, sb), sc, sd) (by dsimp only; rw [hgo]; exact (by repeat' first | exact Sub.nil | apply Sub.cons | rfl | (simp [lk]; omega))) (fun w h9 => by dsimp only; rw [e5]; exact (((h9.pull b19).pull b20).facts (fun g hg => by simp only [List.mem_cons] at hg ⊢; rcases hg with h8 | h8 | h8 | h8 | h8 | h8 | h8 | h8 | h8 | h8 <;> simp [h8, Hse.add])))
 have e2 := Z4R (s := sw) hck (by omega)
 have e5 := Z0U e2 (by decide)
 refine Z2 ?_
 exact Z0J ((none, none), 0, 0) (by dsimp only; rw [e2]; exact (by repeat' first | exact Sub.nil | apply Sub.cons | rfl | (simp [lk]; omega))) (fun w h9 => by dsimp only; rw [e5]; exact St.norows (sz := 3) (St.norows (sz := 2) (h9)))
 rintro ⟨⟨sa, sb⟩, sc, sd⟩
 dsimp only
 refine sqt 1 rfl (pur 1 rfl (sqt 9 rfl (pur 3 rfl ?_)))
 refine Zq 92 rfl ?_ ?_ <;> intro g92
 try simp only [cS] at g92
 refine pur 1 rfl ?_
 refine spG rfl rfl rfl rfl (PE.fA ZS rfl) rfl ?_
 refine Z0D rfl rfl rfl rfl rfl (lh Z2o rfl rfl) rfl ?_
 refine spG rfl rfl rfl rfl (PE.lenSl Z1q rfl) rfl ?_
 refine pur 2 rfl ?_
 refine Z1 rfl ?_ ?_ <;> intro hc6 <;> try simp only [cS] at hc6
 obtain ⟨i, rfl⟩ : ∃ i : Nat, n = i := ⟨n.toNat, by omega⟩
 have hil : i < h.gaps.length := by omega
 have e9 : (!inB (i : Int) 0 ((h.gaps.length : Int) - 1)) = false := by simp only [inB]; rw [Bool.not_eq_false', Bool.and_eq_true, decide_eq_true_eq, decide_eq_true_eq]; omega
 obtain ⟨e3, e4⟩ := Z7S hck e9
 rw [Int.toNat_natCast] at e4
 refine sqt 4 rfl (spL rfl rfl (lhA (htl h (h.sg ag cg) (h.ss as_ cs)) ZB rfl rfl rfl) rfl ?_)
 refine cl rfl Zbv rfl rfl (ZbA h ag as_ cg cs (by omega) (by omega) _ _) ?_
 rintro _ _ R1 ⟨oG, oS, rfl, rfl, hR1⟩
 obtain rfl := hR1.symm
 clear hR1
 have hgl9 : (Z9 h.gaps).length = h.gaps.length := Zv h.gaps
 obtain ⟨b, cap, junk, hfs, hG, hj, hcap, hmx⟩ := oG.is.resolve_left (fun h9 => by have := congrArg List.length h9.1; rw [hgl9] at this; simp only [List.length_nil] at this; omega)
 rw [hgl9] at hfs hcap hj
 rw [hfs, hG]
 obtain ⟨zb, zd, he2, hzd, hz2⟩ := oS.freezeC
 rw [Zt] at he2
 rw [he2]
 refine Sy.heap (fun w h9 => hz2 h9) ?_
 refine Sy.heap (H' := (b, cel 97 ((Z9 h.gaps).flatten ++ junk)) :: (b20, cel 25 (htl ⟨0, [], []⟩ (.slice none 0 0) (.slice none 0 0))) :: (b19, cel 25 (htl (h.seeH sw) ((h.seeH sw).sg ((sa, sb), sc, sd).1.1 ((sa, sb), sc, sd).2.1) ((h.seeH sw).ss ((sa, sb), sc, sd).1.2 ((sa, sb), sc, sd).2.2))) :: (b10, cel 35 (htl h (h.sg xa xc) (h.ss xb xd))) :: (b9, cel 25 (htl h (h.sg oa oc) (h.ss ob od))) :: (b6, cel 67 (ZF sw)) :: (b4, cel 25 (htl h (h.sg ag cg) (h.ss as_ cs))) :: H) (fun w h9 => h9) ?_
 clear he2 hz2
 refine Zy (l' := htl h (.slice (some ⟨b, 0, none⟩) h.gaps.length cap) (.slice zb h.sights.length zd)) rfl rfl rfl Z1l rfl rfl rfl rfl (nl rfl) ?_
 refine pur 1 rfl ?_
 refine Zi [0, 1, 0, 7, 0, 16, 0, 64, 240, 511, 1023, 2047] (.tk 0 (.ld 1 (tks 2 3 (.ld 5 (tks 6 3 (.big 9 (.tk 10 (.big 11 .done)))))))) Zz (by kernel_rfl) ?_
 refine tk rfl (PE.fA ZS rfl) rfl (ld rfl rfl (lh Z2o rfl rfl) rfl (Zp 1 rfl (tk rfl (PE.slHi (h := i) Z7b rfl rfl (by omega)) rfl (tk rfl (PE.fA ZS rfl) rfl (ld rfl rfl (lh Z2o rfl rfl) rfl (Zp 1 rfl (tk rfl (PE.add rfl rfl (by omega)) rfl ?_)))))))
 rw [show (i : Int) + 1 = ((i + 1 : Nat) : Int) by omega]
 refine tk rfl (PE.slLoA (l := i + 1) Z7b rfl rfl (by omega)) rfl ?_
 obtain ⟨ax, hax, hsrc⟩ : ∃ ax : Addr, (if cap = i + 1 then some (⟨b, 0, none⟩ : Addr) else (some (⟨b, 0, none⟩ : Addr)).map (·.add ((i + 1) * 2))) = some ax ∧ ∀ j v, (((Z9 h.gaps).drop (i + 1)).flatten)[j]? = some v → ax.add j = ⟨b, (i + 1) * 2 + j, none⟩ := by
   by_cases h9 : cap = i + 1
   · refine ⟨_, if_pos h9, fun j v hj => ?_⟩
     have := (List.getElem?_eq_some_iff.1 hj).1
     rw [Z05, Z0m, List.length_drop] at this; omega
   · exact ⟨_, if_neg h9, fun j v hj => by show ((⟨b, 0, none⟩ : Addr).add ((i + 1) * 2)).add j = _; rw [ZA, ZA]; simp⟩
 rw [hax]
 refine apI (((Z9 h.gaps).drop (i + 1)).flatten) rfl Z7b rfl rfl (by rw [Z05, Z0m, List.length_drop]) (fun w hs j v hj => by rw [hsrc j v hj, Z17 (hs.held (b, cel 97 ((Z9 h.gaps).flatten ++ junk)) (by simp))]; simpa using Z7r (junk := junk) (Z3i h.gaps) (by rw [Zv]; omega) hj) (by rw [Z05]; exact Z8L _) (by omega) (by rw [Z05, Z0m, List.length_drop, List.length_append, Z0m]; omega) rfl ?_
 rw [Z41 (Z3i h.gaps) (by rw [Zv]; exact hil), Zv, Z3f, show i + (h.gaps.length - (i + 1)) = h.gaps.length - 1 from by omega]
 have hel : (h.gaps.eraseIdx i).length = h.gaps.length - 1 := List.length_eraseIdx_of_lt hil
 rw [← hel]
 refine bgT (tk rfl (PE.fA ZS rfl) rfl ?_)
 refine Zy (l' := htl ⟨h.bins, h.gaps.eraseIdx i, h.sights⟩ (.slice (some ⟨b, 0, none⟩) (h.gaps.eraseIdx i).length cap) (.slice zb h.sights.length zd)) rfl rfl rfl ZfC rfl rfl rfl rfl (nl rfl) ?_
 refine Z02 b ?_
 refine Sy.heap (fun w h9 => St.rows (sz := 2) (rows := Z9 (h.gaps.eraseIdx i)) h9 (Z3i _)) ?_
 refine bgT ?_
 exact Z0J ((aw, cw), (ac, cc), ((sa, sb), sc, sd), ((some ⟨b, 0, none⟩, zb), cap, zd)) (by dsimp only; rw [e3]; exact (by repeat' first | exact Sub.nil | apply Sub.cons | rfl | (simp [lk]; omega))) (fun w h9 => by dsimp only; rw [e4]; exact h9.facts (fun g hg => by simp only [List.mem_cons] at hg ⊢; rcases hg with h8 | h8 | h8 | h8 | h8 | h8 | h8 | h8 | h8 | h8 | h8 | h8 <;> simp [h8, Hse.add]))
 have e9 : (!inB n 0 ((h.gaps.length : Int) - 1)) = true := by simp only [inB]; rw [Bool.not_eq_true', Bool.and_eq_false_iff, decide_eq_false_iff_not, decide_eq_false_iff_not]; omega
 obtain ⟨e3, e4⟩ := Z5e hck e9
 refine Z2 ?_
 exact Z0J ((aw, cw), (ac, cc), ((sa, sb), sc, sd), ((none, none), 0, 0)) (by dsimp only; rw [e3]; exact (by repeat' first | exact Sub.nil | apply Sub.cons | rfl | (simp [lk]; omega))) (fun w h9 => by dsimp only; rw [e4]; exact St.norows (sz := 3) (St.norows (sz := 2) (h9)))
 try simp only [cS] at g92
 have e9 : (!inB n 0 ((h.gaps.length : Int) - 1)) = true := by simp only [inB]; rw [Bool.not_eq_true', Bool.and_eq_false_iff, decide_eq_false_iff_not, decide_eq_false_iff_not]; omega
 obtain ⟨e3, e4⟩ := Z5e hck e9
 refine pur 6 rfl ?_
 refine ZE rfl ?_
 refine Z2 ?_
 exact Z0J ((aw, cw), (ac, cc), ((sa, sb), sc, sd), ((none, none), 0, 0)) (by dsimp only; rw [e3]; exact (by repeat' first | exact Sub.nil | apply Sub.cons | rfl | (simp [lk]; omega))) (fun w h9 => by dsimp only; rw [e4]; exact St.norows (sz := 3) (St.norows (sz := 2) (h9)))
 have hck : h.check ≠ 0 := hc2
 have e1 := Zau (l := fr) hck
 have e2 := Z7g (s := sw) hck
 obtain ⟨e3, e4⟩ := Z7h (n := n) hck
 have e5 := Z0U e2 hck
 have e6 := Z67 (l := fr) (by rw [e1]; exact hck)
 have e7 := Zdd hck
 have e8 : (decide (h.lsE fr = 0) && Z1U h.gaps (msk fr) h.sights) = false := by rw [e1, dF hck]; rfl
 refine Z2 ?_
 exact Z0J ((none, 0), (none, 0), ((none, none), 0, 0), ((none, none), 0, 0)) (by dsimp only; rw [e1, e2, e3, e6, e7, dF hck, Bool.false_and]; exact (by repeat' first | exact Sub.nil | apply Sub.cons | rfl | (simp [lk]; omega))) (fun w h9 => by
   dsimp only
   rw [e4, e5, e6, e7]
   exact St.norows (sz := 3) (St.norows (sz := 2) (St.norows (sz := 3) (St.norows (sz := 2) (St.norows (sz := 1) (St.norows (sz := 1) (h9)))))))
 rintro ⟨⟨aw, cw⟩, ⟨ac, cc⟩, ⟨⟨sa, sb⟩, sc, sd⟩, ⟨⟨za, zb⟩, zc, zd⟩⟩
 dsimp only
 refine sqt 8 rfl ?_
 have hyg : (h.seeH sw).gaps.length ≤ 1000000 ∧ (h.seeH sw).sights.length ≤ 1000000 := by
   unfold Hse.seeH Hse.add
   cases decide (h.seeE sw = 0) <;> simp <;> omega
 have hzg : (h.cloH n).gaps.length ≤ 1000000 ∧ (h.cloH n).sights.length ≤ 1000000 := by
   unfold Hse.cloH
   have := List.length_eraseIdx_le h.gaps n.toNat
   cases decide (h.cloE n = 0) <;> simp <;> omega
 obtain ⟨hyg1, hyg2⟩ := hyg
 obtain ⟨hzg1, hzg2⟩ := hzg
 refine spL rfl rfl (lhA (htl h (h.sg oa oc) (h.ss ob od)) ZB rfl rfl rfl) rfl (pur 1 rfl ?_)
 refine cl rfl Zd0 rfl rfl (Z8R h oa ob oc od (by omega) (by omega) fr ma mc (by omega) hmc _ _) ?_
 rintro _ _ R1 ⟨wa, wc, hwc, rfl, rfl, hR1⟩
 obtain rfl := hR1.symm
 clear hR1
 rw [Zbh]
 refine pur 5 rfl (sqt 8 rfl (spL rfl rfl (lhA (htl h (h.sg oa oc) (h.ss ob od)) ZB rfl rfl rfl) rfl (pur 1 rfl ?_)))
 refine clV rfl ZeF rfl rfl (Z6E h oa ob oc od (by omega) (by omega) fr ma mc (by omega) hmc _ _) ?_
 refine pur 5 rfl (sqt 7 rfl (spL rfl rfl (lhA (htl h (h.sg oa oc) (h.ss ob od)) ZB rfl rfl rfl) rfl ?_))
 refine cl rfl Zf1 rfl rfl (Z8I h oa ob oc od (by omega) (by omega) _ _) ?_
 rintro _ _ R1 ⟨ka, kc, hkc, rfl, rfl, hR1⟩
 obtain rfl := hR1.symm
 clear hR1
 rw [Zfa]
 refine pur 5 rfl (sqt 9 rfl (spL rfl rfl (lhA (htl h (h.sg oa oc) (h.ss ob od)) ZB rfl rfl rfl) rfl (spL rfl rfl (lhA (ZF sw) Z6d rfl rfl rfl) rfl ?_)))
 refine cl rfl ZeM rfl rfl (ZcI h oa ob oc od (by omega) (by omega) sw _ _) ?_
 rintro _ _ R1 ⟨yg, ys, rfl, rfl, hR1⟩
 obtain rfl := hR1.symm
 clear hR1
 refine pur 3 rfl (alc rfl Z0R rfl (fun b27 => ?_))
 refine Zy (l' := htl (h.seeH sw) yg.fs ys.fs) rfl rfl rfl Z1l rfl rfl (by show (htl _ yg.fs ys.fs).all (·.oneCell') = true; simp only [htl, List.all_cons, List.all_nil, yg.cells.2, ys.cells.2, Bool.and_true]; rfl) rfl (nl rfl) ?_
 refine pur 1 rfl (sqt 9 rfl (spL rfl rfl (lhA (htl h (h.sg oa oc) (h.ss ob od)) ZB rfl rfl rfl) rfl (pur 1 rfl ?_)))
 refine cl rfl Zfj rfl rfl (Z9E h oa ob oc od (by omega) (by omega) n _ _) ?_
 rintro _ _ R1 ⟨zg, zs, rfl, rfl, hR1⟩
 obtain rfl := hR1.symm
 clear hR1
 refine pur 3 rfl (alc rfl Z0R rfl (fun b29 => ?_))
 refine Zy (l' := htl (h.cloH n) zg.fs zs.fs) rfl rfl rfl Z1l rfl rfl (by show (htl _ zg.fs zs.fs).all (·.oneCell') = true; simp only [htl, List.all_cons, List.all_nil, zg.cells.2, zs.cells.2, Bool.and_true]; rfl) rfl (nl rfl) ?_
 refine pur 1 rfl (Z0 (sqt 52 rfl ?_))
 refine Sy.heap (H' := ys.G ++ (yg.G ++ (zs.G ++ (zg.G ++ ((b29, cel 25 (htl (h.cloH n) zg.fs zs.fs)) :: (b27, cel 25 (htl (h.seeH sw) yg.fs ys.fs)) :: (b20, cel 25 (htl (h.cloH n) ((h.cloH n).sg za zc) ((h.cloH n).ss zb zd))) :: (b19, cel 25 (htl (h.seeH sw) ((h.seeH sw).sg sa sc) ((h.seeH sw).ss sb sd))) :: (b10, cel 35 (htl h (h.sg xa xc) (h.ss xb xd))) :: (b9, cel 25 (htl h (h.sg oa oc) (h.ss ob od))) :: (b6, cel 67 (ZF sw)) :: (b4, cel 25 (htl h (h.sg ag cg) (h.ss as_ cs))) :: H))))) (fun w h9 => h9.perm (pC9 _ _ zs.G zg.G ys.G yg.G _)) ?_
 refine pur 4 rfl ?_
 refine Zq 144 rfl ?_ ?_ <;> intro g144
 exact absurd g144 (by simp)
 refine pur 5 rfl ?_
 refine Zq 149 rfl ?_ ?_ <;> intro g149
 exact absurd g149 (by simp)
 refine pur 5 rfl ?_
 refine Zq 154 rfl ?_ ?_ <;> intro g154
 exact absurd g154 (by simp)
 refine pur 5 rfl ?_
 refine Zq 159 rfl ?_ ?_ <;> intro g159
 exact absurd g159 (by simp)
 refine pur 5 rfl ?_
 refine Zq 164 rfl ?_ ?_ <;> intro g164
 exact absurd g164 (by simp)
 refine pur 2 rfl ?_
 refine Z3G rfl rfl rfl rfl Z5z rfl rfl (Z1j (h.weeksR fr).1 (h.weeksR fr).1 wa aw wc cw (by have := Z4E h fr; omega) (by have := Z4E h fr; omega) _ _) ?_
 refine pur 3 rfl ?_
 refine Zq 170 rfl ?_ ?_ <;> intro g170
 exact absurd g170 (by simp)
 refine pur 2 rfl ?_
 refine spG rfl rfl rfl rfl (PE.neqBool ub4 rfl rfl) rfl ?_
 refine pur 2 rfl ?_
 refine Zq 175 rfl ?_ ?_ <;> intro g175
 exact absurd g175 (by simp)
 refine pur 2 rfl ?_
 refine Z3G rfl rfl rfl rfl Z5z rfl rfl (Z1j h.clrR.1 h.clrR.1 ka ac kc cc (by have := Z6w h; omega) (by have := Z6w h; omega) _ _) ?_
 refine pur 3 rfl ?_
 refine Zq 181 rfl ?_ ?_ <;> intro g181
 first | (focus (rw [sameH_iff.2 rfl] at g181; exact absurd g181 (by decide))) | exact absurd g181 (by simp)
 refine Z0D rfl rfl rfl rfl rfl (lhA (htl (h.seeH sw) yg.fs ys.fs) ZB rfl rfl rfl) rfl (Z0D rfl rfl rfl rfl rfl (lhA (htl (h.seeH sw) ((h.seeH sw).sg sa sc) ((h.seeH sw).ss sb sd)) ZB rfl rfl rfl) rfl ?_)
 refine Z3G rfl rfl rfl rfl ZbO rfl rfl (FnV.lendO ys (fun v => [(h.seeH sw).v yg.fs v, (h.seeH sw).v ((h.seeH sw).sg sa sc) ((h.seeH sw).ss sb sd)]) (fun ay cy _ => by rw [Zt]; exact FnV.lendO yg (fun v => [(h.seeH sw).v v (.slice ay (h.seeH sw).sights.length cy), (h.seeH sw).v ((h.seeH sw).sg sa sc) ((h.seeH sw).ss sb sd)]) (fun ax cx _ => by rw [Zv]; exact Z8G (h.seeH sw) (h.seeH sw) ax ay _ _ cx cy _ _ (by omega) (by omega) (by omega) (by omega) _ _))) ?_
 refine pur 3 rfl ?_
 refine Zq 187 rfl ?_ ?_ <;> intro g187
 first | (focus (rw [sameH_iff.2 rfl] at g187; exact absurd g187 (by decide))) | exact absurd g187 (by simp)
 refine Sy.heap (H' := zs.G ++ (zg.G ++ (ys.G ++ (yg.G ++ ((b29, cel 25 (htl (h.cloH n) zg.fs zs.fs)) :: (b27, cel 25 (htl (h.seeH sw) yg.fs ys.fs)) :: (b20, cel 25 (htl (h.cloH n) ((h.cloH n).sg za zc) ((h.cloH n).ss zb zd))) :: (b19, cel 25 (htl (h.seeH sw) ((h.seeH sw).sg sa sc) ((h.seeH sw).ss sb sd))) :: (b10, cel 35 (htl h (h.sg xa xc) (h.ss xb xd))) :: (b9, cel 25 (htl h (h.sg oa oc) (h.ss ob od))) :: (b6, cel 67 (ZF sw)) :: (b4, cel 25 (htl h (h.sg ag cg) (h.ss as_ cs))) :: H))))) (fun w h9 => h9.perm (pD9 ys.G yg.G zs.G zg.G _)) ?_
 refine Z0D rfl rfl rfl rfl rfl (lhA (htl (h.cloH n) zg.fs zs.fs) ZB rfl rfl rfl) rfl (Z0D rfl rfl rfl rfl rfl (lhA (htl (h.cloH n) ((h.cloH n).sg za zc) ((h.cloH n).ss zb zd)) ZB rfl rfl rfl) rfl ?_)
 refine Z3G rfl rfl rfl rfl ZbO rfl rfl (FnV.lendO zs (fun v => [(h.cloH n).v zg.fs v, (h.cloH n).v ((h.cloH n).sg za zc) ((h.cloH n).ss zb zd)]) (fun ay cy _ => by rw [Zt]; exact FnV.lendO zg (fun v => [(h.cloH n).v v (.slice ay (h.cloH n).sights.length cy), (h.cloH n).v ((h.cloH n).sg za zc) ((h.cloH n).ss zb zd)]) (fun ax cx _ => by rw [Zv]; exact Z8G (h.cloH n) (h.cloH n) ax ay _ _ cx cy _ _ (by omega) (by omega) (by omega) (by omega) _ _))) ?_
 refine pur 2 rfl ?_
 refine Z1 rfl ?_ ?_ <;> intro hc7
 first | (focus (rw [sameH_iff.2 rfl] at hc7; exact absurd hc7 (by decide))) | exact absurd hc7 (by simp)
 refine Z2 (Z0 (sqt 5 rfl (spL rfl rfl (lhA (htl (h.seeH sw) yg.fs ys.fs) ZB rfl rfl rfl) rfl (spL rfl rfl (lhA (htl (h.cloH n) zg.fs zs.fs) ZB rfl rfl rfl) rfl ?_))))
 refine bsl (out := [_, _, _, _, _, _]) rfl ZfQ Z0R rfl rfl rfl rfl rfl rfl (fun b195 => ?_)
 refine sp rfl (PE.lenSl Zfp rfl) rfl (pur 1 rfl (Z4 ?_))
 refine Sy.heap (H' := (b195, cel 25 (hoC [(⟨(h.seeH sw), yg, ys⟩ : HO), ⟨(h.cloH n), zg, zs⟩])) :: (hoG [(⟨(h.seeH sw), yg, ys⟩ : HO), ⟨(h.cloH n), zg, zs⟩] ++ ((b29, cel 25 (htl (h.cloH n) zg.fs zs.fs)) :: (b27, cel 25 (htl (h.seeH sw) yg.fs ys.fs)) :: (b20, cel 25 (htl (h.cloH n) ((h.cloH n).sg za zc) ((h.cloH n).ss zb zd))) :: (b19, cel 25 (htl (h.seeH sw) ((h.seeH sw).sg sa sc) ((h.seeH sw).ss sb sd))) :: (b10, cel 35 (htl h (h.sg xa xc) (h.ss xb xd))) :: (b9, cel 25 (htl h (h.sg oa oc) (h.ss ob od))) :: (b6, cel 67 (ZF sw)) :: (b4, cel 25 (htl h (h.sg ag cg) (h.ss as_ cs))) :: H))) (fun w h9 => by
   have h8 : St ((b195, cel 25 (hoC [(⟨(h.seeH sw), yg, ys⟩ : HO), ⟨(h.cloH n), zg, zs⟩])) :: (zs.G ++ (zg.G ++ (ys.G ++ (yg.G ++ ((b29, cel 25 (htl (h.cloH n) zg.fs zs.fs)) :: (b27, cel 25 (htl (h.seeH sw) yg.fs ys.fs)) :: (b20, cel 25 (htl (h.cloH n) ((h.cloH n).sg za zc) ((h.cloH n).ss zb zd))) :: (b19, cel 25 (htl (h.seeH sw) ((h.seeH sw).sg sa sc) ((h.seeH sw).ss sb sd))) :: (b10, cel 35 (htl h (h.sg xa xc) (h.ss xb xd))) :: (b9, cel 25 (htl h (h.sg oa oc) (h.ss ob od))) :: (b6, cel 67 (ZF sw)) :: (b4, cel 25 (htl h (h.sg ag cg) (h.ss as_ cs))) :: H)))))) _ w := h9
   have h7 := h8.perm ((pD9 zs.G zg.G ys.G yg.G ((b29, cel 25 (htl (h.cloH n) zg.fs zs.fs)) :: (b27, cel 25 (htl (h.seeH sw) yg.fs ys.fs)) :: (b20, cel 25 (htl (h.cloH n) ((h.cloH n).sg za zc) ((h.cloH n).ss zb zd))) :: (b19, cel 25 (htl (h.seeH sw) ((h.seeH sw).sg sa sc) ((h.seeH sw).ss sb sd))) :: (b10, cel 35 (htl h (h.sg xa xc) (h.ss xb xd))) :: (b9, cel 25 (htl h (h.sg oa oc) (h.ss ob od))) :: (b6, cel 67 (ZF sw)) :: (b4, cel 25 (htl h (h.sg ag cg) (h.ss as_ cs))) :: H)).cons (b195, cel 25 (hoC [(⟨(h.seeH sw), yg, ys⟩ : HO), ⟨(h.cloH n), zg, zs⟩])))
   have e : hoG [(⟨(h.seeH sw), yg, ys⟩ : HO), ⟨(h.cloH n), zg, zs⟩] ++ ((b29, cel 25 (htl (h.cloH n) zg.fs zs.fs)) :: (b27, cel 25 (htl (h.seeH sw) yg.fs ys.fs)) :: (b20, cel 25 (htl (h.cloH n) ((h.cloH n).sg za zc) ((h.cloH n).ss zb zd))) :: (b19, cel 25 (htl (h.seeH sw) ((h.seeH sw).sg sa sc) ((h.seeH sw).ss sb sd))) :: (b10, cel 35 (htl h (h.sg xa xc) (h.ss xb xd))) :: (b9, cel 25 (htl h (h.sg oa oc) (h.ss ob od))) :: (b6, cel 67 (ZF sw)) :: (b4, cel 25 (htl h (h.sg ag cg) (h.ss as_ cs))) :: H) = ys.G ++ (yg.G ++ (zs.G ++ (zg.G ++ ((b29, cel 25 (htl (h.cloH n) zg.fs zs.fs)) :: (b27, cel 25 (htl (h.seeH sw) yg.fs ys.fs)) :: (b20, cel 25 (htl (h.cloH n) ((h.cloH n).sg za zc) ((h.cloH n).ss zb zd))) :: (b19, cel 25 (htl (h.seeH sw) ((h.seeH sw).sg sa sc) ((h.seeH sw).ss sb sd))) :: (b10, cel 35 (htl h (h.sg xa xc) (h.ss xb xd))) :: (b9, cel 25 (htl h (h.sg oa oc) (h.ss ob od))) :: (b6, cel 67 (ZF sw)) :: (b4, cel 25 (htl h (h.sg ag cg) (h.ss as_ cs))) :: H)))) := by unfold hoG HO.G; simp [List.append_assoc]
   rw [e]; exact h7) ?_
 obtain ⟨LL, hLL⟩ : ∃ LL, LL = [(⟨(h.seeH sw), yg, ys⟩ : HO), ⟨(h.cloH n), zg, zs⟩] := ⟨_, rfl⟩
 have hL2 : LL.length = 2 := by rw [hLL]; rfl
 rw [← hLL]
 clear hLL
 refine Zg (ι := {k : Nat // k ≤ 2}) (fun k => ⟨[(1, .slice af fr.length cf), (4, .pointer (some ⟨b4, 0, none⟩)), (9, .pointer (some ⟨b9, 0, none⟩)), (11, .slice ma fr.length mc), (195, .slice (some ⟨b195, 0, none⟩) 2 2), (196, .int .i64 2), (197, .int .i64 (k.1 : Int))], (b195, cel 25 (hoC LL)) :: (hoG (LL.drop k.1) ++ ((b29, cel 25 (htl (h.cloH n) zg.fs zs.fs)) :: (b27, cel 25 (htl (h.seeH sw) yg.fs ys.fs)) :: (b20, cel 25 (htl (h.cloH n) ((h.cloH n).sg za zc) ((h.cloH n).ss zb zd))) :: (b19, cel 25 (htl (h.seeH sw) ((h.seeH sw).sg sa sc) ((h.seeH sw).ss sb sd))) :: (b10, cel 35 (htl h (h.sg xa xc) (h.ss xb xd))) :: (b9, cel 25 (htl h (h.sg oa oc) (h.ss ob od))) :: (b6, cel 67 (ZF sw)) :: (b4, cel 25 (htl h (h.sg ag cg) (h.ss as_ cs))) :: H)), RowsA ma 1 (Z6 fr) :: RowsA xb 3 (Z7 h.sights) :: RowsA xa 2 (Z9 h.gaps) :: RowsA ob 3 (Z7 h.sights) :: RowsA oa 2 (Z9 h.gaps) :: R⟩) (fun k => 2 - k.1) ⟨0, by omega⟩ ?_ (fun k => ?_)
 exact Zm (fun w h9 => h9.facts (fun g hg => by simp only [List.mem_cons] at hg ⊢; rcases hg with h8 | h8 | h8 | h8 | h8 | h8 <;> simp [h8, Hse.add]))
 obtain ⟨k, hk⟩ := k
 dsimp only at hk ⊢
 refine sqt 1 rfl (pur 1 rfl (Z0 ?_))
 refine Z1 rfl ?_ ?_ <;> intro hc8 <;> try simp only [cS] at hc8
 obtain ⟨x, hx⟩ : ∃ x, LL[k]? = some x := ⟨_, List.getElem?_eq_getElem (by omega)⟩
 refine Sy.heap (H' := x.os.G ++ (x.og.G ++ ((b195, cel 25 (hoC LL)) :: (hoG (LL.drop (k + 1)) ++ ((b29, cel 25 (htl (h.cloH n) zg.fs zs.fs)) :: (b27, cel 25 (htl (h.seeH sw) yg.fs ys.fs)) :: (b20, cel 25 (htl (h.cloH n) ((h.cloH n).sg za zc) ((h.cloH n).ss zb zd))) :: (b19, cel 25 (htl (h.seeH sw) ((h.seeH sw).sg sa sc) ((h.seeH sw).ss sb sd))) :: (b10, cel 35 (htl h (h.sg xa xc) (h.ss xb xd))) :: (b9, cel 25 (htl h (h.sg oa oc) (h.ss ob od))) :: (b6, cel 67 (ZF sw)) :: (b4, cel 25 (htl h (h.sg ag cg) (h.ss as_ cs))) :: H))))) (fun w h9 => by
   rw [Z9f hx, List.append_assoc, List.append_assoc] at h9
   exact h9.perm (pB9 _ _ _ _)) ?_
 refine Z2 (Z0 (Z4 (sqt 4 rfl (sp rfl (PE.indexAddr ZfM rfl rfl (by omega) (by omega)) rfl (spL rfl rfl (lhA (htl x.h x.og.fs x.os.fs) ZB rfl (rest := hoC (LL.drop (k + 1))) (Z9W hx) rfl) rfl (alc rfl Z0R rfl (fun b32 => ?_)))))))
 refine Zy (l' := htl x.h x.og.fs x.os.fs) rfl rfl rfl Z1l rfl rfl (by show (htl _ x.og.fs x.os.fs).all (·.oneCell') = true; simp only [htl, List.all_cons, List.all_nil, x.og.cells.2, x.os.cells.2, Bool.and_true]; rfl) rfl (nl rfl) ?_
 refine sqt 3 rfl (sp rfl (PE.fA ZS rfl) rfl (spL rfl rfl (lh Z2o rfl rfl) rfl ?_))
 refine Sy.heap (H' := x.og.G ++ (x.os.G ++ ((b32, cel 25 (htl x.h x.og.fs x.os.fs)) :: _))) (fun w h9 => h9.perm (pA9 _ x.os.G x.og.G _)) ?_
 refine Zfx x.og rfl rfl Z7b Z4D rfl rfl rfl ?_
 refine sqr 3 rfl (sp rfl (PE.fA ZJ rfl) rfl (spL rfl rfl (lh Z27 rfl rfl) rfl ?_))
 refine Zfx x.os rfl rfl Z75 Z5F rfl rfl rfl ?_
 refine sqr 2 rfl (sp rfl (PE.add rfl rfl (by omega)) rfl (pur 1 rfl ?_))
 exact Ze ⟨k + 1, by omega⟩ (fun w h9 => h9.del b32)
 obtain rfl : k = 2 := by omega
 refine Sy.heap (H' := (b29, cel 25 (htl (h.cloH n) zg.fs zs.fs)) :: (b27, cel 25 (htl (h.seeH sw) yg.fs ys.fs)) :: (b20, cel 25 (htl (h.cloH n) ((h.cloH n).sg za zc) ((h.cloH n).ss zb zd))) :: (b19, cel 25 (htl (h.seeH sw) ((h.seeH sw).sg sa sc) ((h.seeH sw).ss sb sd))) :: (b10, cel 35 (htl h (h.sg xa xc) (h.ss xb xd))) :: (b9, cel 25 (htl h (h.sg oa oc) (h.ss ob od))) :: (b6, cel 67 (ZF sw)) :: (b4, cel 25 (htl h (h.sg ag cg) (h.ss as_ cs))) :: H) (fun w h9 => by rw [List.drop_eq_nil_of_le (by omega)] at h9; exact h9.del b195) ?_
 refine Za (Zc (Zc (Zn (sqt 12 rfl (spL rfl rfl (lhA (htl h (h.sg oa oc) (h.ss ob od)) ZB rfl rfl rfl) rfl (spL rfl rfl (lhA (htl h (h.sg ag cg) (h.ss as_ cs)) ZB rfl rfl rfl) rfl ?_))))))
 refine clV rfl ZbO rfl rfl (Z8G h h oa ob ag as_ oc od cg cs (by omega) (by omega) (by omega) (by omega) _ _) ?_
 refine pur 1 rfl ?_
 refine Zq 209 rfl ?_ ?_ <;> intro g209
 refine pur 2 rfl ?_
 refine Z3G rfl rfl rfl rfl Z5z rfl rfl (Z1j fr fr ma af mc cf (by omega) (by omega) _ _) ?_
 refine pur 2 rfl ?_
 refine Zq 214 rfl ?_ ?_ <;> intro g214
 refine Z3G rfl rfl rfl rfl Zbd rfl rfl (Z5n _ _) ?_
 refine pur 2 rfl (Z3 ?_)
 exact rtA rfl rfl rfl ⟨rfl, rfl, rfl⟩ (fun w h9 => St.sub ((((((((h9.del b29).del b27).del b20).del b19).del b10).del b9).del b6).del b4))
 exact absurd g214 (by simp)
 rw [sameH_iff.2 rfl] at g209; exact absurd g209 (by decide)
end Go.Proofs.YthbjpnmclokinaaGreat
