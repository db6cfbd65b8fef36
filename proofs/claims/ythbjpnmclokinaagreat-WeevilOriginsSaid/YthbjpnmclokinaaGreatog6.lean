/- Walks of the functions of the program, and the laws that join them: what the last theorem of this claim needs, in order. -/
import Derived.Test.YthbjpnmclokinaaGreatog5
namespace Go.Proofs.YthbjpnmclokinaaGreat
set_option linter.unusedSimpArgs false
set_option linter.unusedVariables false
open Go
theorem ZaP : Z47 Tryz.prog 111 = some 3 := by kernel_rfl
theorem Zh0 : apT Tryz.prog 32 = some (110, 2, 16) := by kernel_rfl
theorem ZgM : apT Tryz.prog 33 = some (111, 3, 24) := by kernel_rfl
theorem ZbF : cal Tryz.prog 106 = true := by kernel_rfl
theorem ZdY : cal Tryz.prog 140 = true := by kernel_rfl
theorem ZdU : cal Tryz.prog 141 = true := by kernel_rfl
theorem Z9J : cal Tryz.prog 38 = true := by kernel_rfl
theorem Z8p : cal Tryz.prog 74 = true := by kernel_rfl
theorem Zgy : cal Tryz.prog 87 = true := by kernel_rfl
theorem Zg0 : cal Tryz.prog 88 = true := by kernel_rfl
theorem Zdo : Z0s Tryz.prog 111 = some 3 := by kernel_rfl
theorem ZgT : Z0s Tryz.prog 32 = some 1 := by kernel_rfl
theorem Zh3 : Z0s Tryz.prog 33 = some 1 := by kernel_rfl
theorem Zgo : Z0s Tryz.prog 35 = some 3 := by kernel_rfl
theorem ZfV : Tryz.prog.eqGuardType Tryz.prog.depth 67 = false := by kernel_rfl
theorem Z65 : Z1U Tryz.prog 111 2 = some 2 := by kernel_rfl
theorem ZgS : Z1v Tryz.prog 35 = some [(0, 1), (1, 1), (2, 1)] := by kernel_rfl
theorem Zh2 : slE Tryz.prog 32 = some (110, 2) := by kernel_rfl
theorem ZgR : slE Tryz.prog 33 = some (111, 3) := by kernel_rfl
theorem ZaS : ZO Tryz.prog 111 = some ([.int .i64 0, .int .i64 0, .bool false]) := by kernel_rfl
theorem Zfw : ZO Tryz.prog 35 = some ([.int .i64 0, .slice none 0 0, .slice none 0 0]) := by kernel_rfl
theorem ZaV (xs ys : List Gp) (a a2 : Option Addr) (c c2 : Nat) (hl : xs.length ≤ 9223372036854775807) (hl2 : ys.length ≤ 9223372036854775807) (H : Zc) (R : Z6) [hR : MemRows a 2 (Zf xs) R] [hR2 : MemRows a2 2 (Zf ys) R] :
    FnV Tryz.prog 140 [.slice a xs.length c, .slice a2 ys.length c2] H R (.bool (decide (xs = ys))) := by
 refine Zi Tryz.func140 rfl Tryz.ntmps140 rfl ?_
 refine sqt 1 rfl (pur 1 rfl (Z0 (sqt 5 rfl (pur 1 rfl (sp rfl (PE.lenSl Z2w rfl) rfl (pur 1 rfl (sp rfl (PE.lenSl Z2w rfl) rfl (pur 1 rfl ?_))))))))
 refine Z1 rfl ?_ ?_ <;> intro hc0
 have hne : xs ≠ ys := fun e => by subst e; simp at hc0
 refine sqt 1 rfl (pur 1 rfl (Z5 ?_))
 exact rtA rfl rfl rfl ⟨by first | (simp only [ZE]; rw [dT heq]; done) | (simp only [ZE]; rw [dF hne]), rfl, rfl⟩ idH
 have hle : xs.length = ys.length := by simp only [cS] at hc0; omega
 refine Z2 (Z0 (sqt 3 rfl (pur 1 rfl (sp rfl (PE.lenSl Z2w rfl) rfl (pur 1 rfl (Z3 ?_))))))
 refine Zd (ι := {k : Nat // k ≤ xs.length ∧ xs.take k = ys.take k}) (fun k => ⟨[(0, .slice a xs.length c), (1, .slice a2 ys.length c2), (12, .int .i64 xs.length), (13, .int .i64 k.1)], H, R⟩) (fun k => xs.length - k.1) ⟨0, by simp⟩ ?_ (fun k => ?_)
 exact Zk idH
 obtain ⟨k, hk, hn⟩ := k
 dsimp only
 refine sqt 1 rfl (pur 1 rfl (Z0 ?_))
 refine Z1 rfl ?_ ?_ <;> intro hc1
 simp only [cS] at hc1
 obtain ⟨x, hx⟩ : ∃ x, xs[k]? = some x := ⟨_, List.getElem?_eq_getElem (by omega)⟩
 obtain ⟨z, hz⟩ : ∃ z, ys[k]? = some z := ⟨_, List.getElem?_eq_getElem (by omega)⟩
 refine Zg (a := a) (sz := 2) (rows := Zf xs) (by intro h0; simp [Zf] at h0; simp [h0] at hx) (fun b off he => ?_)
 subst he
 refine Zg (a := a2) (sz := 2) (rows := Zf ys) (by intro h0; simp [Zf] at h0; simp [h0] at hz) (fun b2 off2 he => ?_)
 subst he
 refine Z2 (Z0 (Z3 (sqt 2 rfl (pur 2 rfl (Z0 ?_)))))
 refine Zl [0, 0, 3, 7, 0, 0, 48, 112, 255] (tks 0 3 (.ld 3 (tks 4 3 (.ld 7 (.tk 8 .done))))) Zz (by kernel_rfl) ?_
 refine Zr 2 rfl (tk rfl (PE.indexAddr Z7V rfl rfl (by omega) (by omega)) rfl (ld rfl rfl (lfA Z7A (row := grow x) (by simp [Zf, hx]) rfl) rfl (Zr 2 rfl (tk rfl (PE.indexAddr Z7V rfl rfl (by omega) (by omega)) rfl (ld rfl rfl (lfA Z7A (row := grow z) (by simp [Zf, hz]) rfl) rfl (tk rfl (PE.neqAgg [x.a, x.b] [z.a, z.b] (Z2o 10000 97 true 2 Zfp) ZeI rfl rfl rfl rfl) rfl ?_))))))
 refine Z1 rfl ?_ ?_ <;> intro hc2
 have hne : xs ≠ ys := fun e => by subst e; rw [hx] at hz; cases hz; simp at hc2
 refine sqt 1 rfl (pur 1 rfl (Z5 ?_))
 exact rtA rfl rfl rfl ⟨by first | (simp only [ZE]; rw [dT heq]; done) | (simp only [ZE]; rw [dF hne]), rfl, rfl⟩ idH
 have hxz : x = z := by cases x; cases z; simpa using hc2
 refine Z2 (sqr 2 rfl (sp rfl (PE.add rfl rfl (by omega)) rfl (pur 1 rfl ?_)))
 exact Zb ⟨k + 1, by omega, by rw [List.take_add_one, List.take_add_one, hn, hx, hz, hxz]⟩ idH
 simp only [cS] at hc1
 obtain rfl : k = xs.length := by omega
 have heq : xs = ys := by
   rw [List.take_length] at hn
   exact hn.trans (by rw [hle]; exact List.take_length)
 refine Z8 (Za (Za (Zm (sqt 1 rfl (pur 1 rfl (Z5 ?_))))))
 exact rtA rfl rfl rfl ⟨by first | (simp only [ZE]; rw [dT heq]; done) | (simp only [ZE]; rw [dF hne]), rfl, rfl⟩ idH
def chS (P : Program) : Nat → List Field → List Bool → Bool
  | _, [], [] => true
  | o, f :: fs, b :: bs => !(f.name == "_") && Nat.beq f.offset o && (match P.underlying f.type with | some (.int _) => !b | some .bool => b | _ => false) && chS P (o + 1) fs bs
  | _, _, _ => false
def chT (P : Program) (T : Nat) (bs : List Bool) : Bool := match P.underlying T with
  | some (.struct fs) => chS P 0 fs.toList bs && !(P.stoodInHeld T)
  | _ => false
def scV (b : Bool) : Value → Bool
  | .int .i64 _ => !b
  | .bool _ => b
  | _ => false
def kOK : List Bool → List Value → Bool
  | [], [] => true
  | b :: bs, v :: vs => scV b v && kOK bs vs
  | _, _ => false
def scE : Value → Value → Bool
  | .int _ x, .int _ y => x == y
  | .bool x, .bool y => x == y
  | _, _ => false
def Zac : List Value → List Value → Bool
  | v :: vs, w :: ws => scE v w && Zac vs ws
  | _, _ => true
theorem ZaZ {P : Program} {d e : Nat} {b : Bool} {v u : Value} (h : (match P.underlying e with | some (.int _) => !b | some .bool => b | _ => false) = true) (hv : scV b v = true) (hu : scV b u = true) (w : World) : (Op.equalIn (d + 1) e v u).run P w = .ok (scE v u) w := by
  cases b with
  | false =>
    match v, hv with
    | .int .i64 x, _ =>
      match u, hu with
      | .int .i64 y, _ =>
        cases ht : P.underlying e with
        | none => rw [ht] at h; cases h
        | some t =>
          rw [ht] at h
          cases t with
          | int k => exact run_equalIn_int w d e _ _ x y ht
          | _ => cases h
  | true =>
    match v, hv with
    | .bool x, _ =>
      match u, hu with
      | .bool y, _ =>
        cases ht : P.underlying e with
        | none => rw [ht] at h; cases h
        | some t =>
          rw [ht] at h
          cases t with
          | bool => exact run_equalIn_bool w d e x y ht
          | _ => cases h
theorem Z5y {P : Program} {e : Nat} {b : Bool} (h : (match P.underlying e with | some (.int _) => !b | some .bool => b | _ => false) = true) (pre vs : List Value) (v : Value) (w : World) : (part e (pre ++ v :: vs).toArray pre.length).run P w = .ok v w := by
  have hs : Z2s P e = true := by
    cases ht : P.underlying e with
    | none => rw [ht] at h; cases h
    | some t =>
      rw [ht] at h
      cases t with
      | int k => simp [Z2s, ht]
      | bool => simp [Z2s, ht]
      | _ => cases h
  unfold part
  simp only [Sem.run_bind, Z0b hs, Result.andThen]
  simp [Sem.run_pure]
theorem Z73 {P : Program} {d : Nat} : ∀ (fs : List Field) (bs : List Bool) (vs ws pre pre2 : List Value), chS P pre.length fs bs = true → kOK bs vs = true → kOK bs ws = true → pre.length = pre2.length → ∀ w,
    (Op.eqFields (d + 1) (pre ++ vs).toArray (pre2 ++ ws).toArray fs).run P w = .ok (Zac vs ws) w
  | [], bs, vs, ws, pre, pre2, h, hv, hw, hp, w => by
    match bs, h with
    | [], _ =>
      match vs, hv with
      | [], _ => simp [Op.eqFields, Sem.run_pure, Zac]
  | f :: fs, bs, vs, ws, pre, pre2, h, hv, hw, hp, w => by
    match bs, h with
    | b :: bs, h =>
      match vs, hv with
      | v :: vs, hv =>
        match ws, hw with
        | u :: ws, hw =>
          simp only [chS, Bool.and_eq_true, Bool.not_eq_true'] at h
          obtain ⟨⟨⟨h1, h2⟩, h3⟩, h4⟩ := h
          simp only [kOK, Bool.and_eq_true] at hv hw
          have h2 := Nat.eq_of_beq_eq_true h2
          have hn' : f.name ≠ "_" := by simpa using h1
          have p1 := Z5y h3 pre vs v w
          have p2 := Z5y h3 pre2 ws u w
          have p3 := ZaZ (d := d) h3 hv.1 hw.1 w
          have ih := Z73 (d := d) fs bs vs ws (pre ++ [v]) (pre2 ++ [u]) (by rw [List.length_append]; exact h4) hv.2 hw.2 (by rw [List.length_append, List.length_append, hp]; rfl) w
          rw [List.append_assoc, List.append_assoc] at ih
          simp only [List.singleton_append] at ih
          rw [← hp] at p2
          rw [← h2] at p1 p2
          simp only [Op.eqFields, hn', ne_eq, not_false_eq_true, if_true, Sem.run_bind, p1, p2, p3, Result.andThen]
          cases hc : scE v u with
          | true => simp [Zac, hc, ih]
          | false => simp [Zac, hc, Sem.run_pure]
section pe
variable {P : Program} {L : Zn} {d : Option Tmp} {ty : TypeId} {pos : String} {af : Array Edge} {g : Option (Nat × Bool)}
theorem PE.neqS {T U : Nat} {x y : Operand} (vs ws : List Value) (bs : List Bool) (hT : chT P T bs = true) (hg : P.eqGuardType P.depth T = false) (hx : ev L x = some (.agg vs.toArray)) (hy : ev L y = some (.agg ws.toArray)) (kv : kOK bs vs = true) (kw : kOK bs ws = true) :
    PE P L ⟨d, .binOp .neq T x y U, ty, pos, af, g⟩ (.bool (!(Zac vs ws))) := fun ρ hρ w => by
  have hb : binOp .neq T (.agg vs.toArray) (.agg ws.toArray) = (do pure (.bool (!(← Op.equal T (.agg vs.toArray) (.agg ws.toArray))))) := rfl
  unfold chT at hT
  split at hT
  · rename_i fs hu
    simp only [Bool.and_eq_true, Bool.not_eq_true'] at hT
    have hf : P.fieldsOf T = fs := by simp [Program.fieldsOf, hu]
    have he : (Op.equal T (.agg vs.toArray) (.agg ws.toArray)).run P w = .ok (Zac vs ws) w := by
      show (Op.equalIn (9999 + 1) T (.agg vs.toArray) (.agg ws.toArray)).run P w = _
      rw [run_equalIn_struct w 9999 T _ _ (by rw [hu, hf]) hT.2, hf]
      exact Z73 (d := 9998) fs.toList bs vs ws [] [] hT.1 kv kw rfl w
    simp only [execOp, hρ _ _ hx, hρ _ _ hy, Sem.run_bind, Z0G hg, hb, he, Result.andThen, Sem.run_pure]
  · cases hT
end pe
theorem Ze9 {h : Hse} (hk : h.ok) : h.clrR = (Z15 (fun k => !ZH (h.clr h.sights (-1) 0) k) h.bins.toNat, 0) := by
  unfold Hse.clrR
  rw [hse_ok.2 hk]; rfl
def Z7H (a b : Hse) : Bool := decide (a.bins = b.bins) && decide (a.gaps = b.gaps) && decide (a.sights = b.sights)
theorem sameH_iff {a b : Hse} : Z7H a b = true ↔ a = b := by
  unfold Z7H
  simp only [Bool.and_eq_true, decide_eq_true_eq]
  constructor
  · rintro ⟨⟨h1, h2⟩, h3⟩
    cases a; cases b; simp_all
  · rintro rfl; exact ⟨⟨rfl, rfl⟩, rfl⟩
theorem Zey (a b : List Gp) : Zf (a ++ b) = Zf a ++ Zf b := List.map_append
def Zdz (h : Hse) : Bool := decide (14 < h.gaps.length) || decide (12 < h.sights.length)
theorem Z2g (m k : Nat) : ((m >>> k : Nat) : Int) / 2 = ((m >>> (k + 1) : Nat) : Int) := by rw [Nat.shiftRight_succ]; omega
theorem Z60 (m k : Nat) : decide (((m >>> k : Nat) : Int) % 2 = 1) = decide (m / 2 ^ k % 2 = 1) := by rw [Nat.shiftRight_eq_div_pow]; exact decide_eq_decide.2 (by omega)
theorem Z9h (m k : Nat) : decide (((m >>> k : Nat) : Int) % 2 = 1) = m.testBit k := by
  rw [Z60]
  rw [Nat.testBit_eq_decide_div_mod_eq]
theorem ZcH {m k : Nat} (h : m < 2 ^ 10) (hp : 0 < ((m >>> k : Nat) : Int)) : k < 10 := by
  rcases Nat.lt_or_ge k 10 with h1 | h1
  · exact h1
  · have : m >>> k = 0 := by rw [Nat.shiftRight_eq_div_pow]; exact Nat.div_eq_of_lt (Nat.lt_of_lt_of_le h (Nat.pow_le_pow_right (by decide) h1))
    omega
theorem Z9z {gs : List Gp} {m k : Nat} {w : Int} (hw : w ≤ 9) : (decide (0 ≤ wkC gs 0 m k) && decide (wkC gs 0 m k ≤ w)) = decide (wk gs 0 m k ≤ w) := by
  unfold wkC
  have hn := Z6k gs 0 m k
  by_cases h : far ≤ wk gs 0 m k
  · rw [decide_eq_true h, cond_true, decide_eq_false (by decide), Bool.false_and, decide_eq_false (by unfold far at h; omega)]
  · rw [decide_eq_false h, cond_false, decide_eq_true hn.1, Bool.true_and]
def Z8H (h : Hse) (m set : Nat) : Bool := (List.range h.sights.length).all fun i => match h.sights[i]? with
  | some s => !(set.testBit i) || exS h.gaps m s
  | none => true
theorem Zct {h : Hse} {m set k : Nat} (hk : h.sights.length ≤ k) (hi : ∀ i, i < k → ∀ s, h.sights[i]? = some s → (!(set.testBit i) || exS h.gaps m s) = true) : Z8H h m set = true := List.all_eq_true.2 fun i hm => by
  have h1 := List.mem_range.1 hm
  rw [List.getElem?_eq_getElem h1]
  exact hi i (by omega) _ (List.getElem?_eq_getElem h1)
theorem Zbv {h : Hse} {m set k : Nat} {s : Sgt} (hs : h.sights[k]? = some s) (hb : set.testBit k = true) (he : exS h.gaps m s = false) : Z8H h m set = false := List.all_eq_false.2 ⟨k, List.mem_range.2 (List.getElem?_eq_some_iff.1 hs).1, by rw [hs]; dsimp only; rw [hb, he]; decide⟩
theorem ZbY {h : Hse} {m : Nat} : Z8H h m (2 ^ h.sights.length - 1) = Z1s h.gaps m h.sights := by
  rw [Bool.eq_iff_iff]
  unfold Z8H Z1s
  rw [List.all_eq_true, List.all_eq_true]
  constructor
  · intro h1 s hs
    obtain ⟨i, hi⟩ := List.getElem?_of_mem hs
    have hil := (List.getElem?_eq_some_iff.1 hi).1
    have h2 := h1 i (List.mem_range.2 hil)
    rw [hi] at h2
    dsimp only at h2
    rw [Nat.testBit_two_pow_sub_one, decide_eq_true hil] at h2
    exact h2
  · intro h1 i hi
    have hil := List.mem_range.1 hi
    rw [List.getElem?_eq_getElem hil]
    dsimp only
    rw [h1 _ (List.getElem_mem hil), Bool.or_true]
def Z2r (h : Hse) (k i : Nat) : Bool := (h.sights.take i).any fun s => !s.seen && decide (wk h.gaps 0 (2 ^ k) s.bin.toNat ≤ s.week)
theorem Za7 {h : Hse} (k : Nat) : Z2r h k h.sights.length = !(Z4w h.gaps h.sights k) := by
  unfold Z2r Z4w
  rw [List.take_length, List.not_all_eq_any_not]
  congr 1; funext s
  rw [Bool.not_or]
  congr 1
  rw [← decide_not]
  exact decide_eq_decide.2 (by omega)
theorem Zdk {h : Hse} (hk : h.ok) : h.clrR.1 = Z15 (fun k => Z2r h k h.sights.length) h.bins.toNat := by
  rw [Ze9 hk]
  refine Z7z fun k hk7 => ?_
  rw [Za7]
  congr 1
  have h1 : Z4N h.gaps h.sights (-1) 0 k = Z4w h.gaps h.sights k := rfl
  rw [Bool.eq_iff_iff, hasI_iff, clr_mem, ← h1]
  constructor
  · rintro ⟨j, _, h3, h4⟩
    obtain rfl : k = j := by omega
    exact h3
  · intro h3; exact ⟨k, hk7, h3, rfl⟩
theorem Zb1 (xs ys : List Sgt) (a a2 : Option Addr) (c c2 : Nat) (hl : xs.length ≤ 9223372036854775807) (hl2 : ys.length ≤ 9223372036854775807) (H : Zc) (R : Z6) [hR : MemRows a 3 (Ze xs) R] [hR2 : MemRows a2 3 (Ze ys) R] :
    FnV Tryz.prog 141 [.slice a xs.length c, .slice a2 ys.length c2] H R (.bool (decide (xs = ys))) := by
 refine Zi Tryz.func141 rfl Tryz.ntmps141 rfl ?_
 refine sqt 1 rfl (pur 1 rfl (Z0 (sqt 5 rfl (pur 1 rfl (sp rfl (PE.lenSl Z31 rfl) rfl (pur 1 rfl (sp rfl (PE.lenSl Z31 rfl) rfl (pur 1 rfl ?_))))))))
 refine Z1 rfl ?_ ?_ <;> intro hc0
 have hne : xs ≠ ys := fun e => by subst e; simp at hc0
 refine sqt 1 rfl (pur 1 rfl (Z5 ?_))
 exact rtA rfl rfl rfl ⟨by first | (simp only [ZE]; rw [dT heq]; done) | (simp only [ZE]; rw [dF hne]), rfl, rfl⟩ idH
 have hle : xs.length = ys.length := by simp only [cS] at hc0; omega
 refine Z2 (Z0 (sqt 3 rfl (pur 1 rfl (sp rfl (PE.lenSl Z31 rfl) rfl (pur 1 rfl (Z3 ?_))))))
 refine Zd (ι := {k : Nat // k ≤ xs.length ∧ xs.take k = ys.take k}) (fun k => ⟨[(0, .slice a xs.length c), (1, .slice a2 ys.length c2), (12, .int .i64 xs.length), (13, .int .i64 k.1)], H, R⟩) (fun k => xs.length - k.1) ⟨0, by simp⟩ ?_ (fun k => ?_)
 exact Zk idH
 obtain ⟨k, hk, hn⟩ := k
 dsimp only
 refine sqt 1 rfl (pur 1 rfl (Z0 ?_))
 refine Z1 rfl ?_ ?_ <;> intro hc1
 simp only [cS] at hc1
 obtain ⟨x, hx⟩ : ∃ x, xs[k]? = some x := ⟨_, List.getElem?_eq_getElem (by omega)⟩
 obtain ⟨z, hz⟩ : ∃ z, ys[k]? = some z := ⟨_, List.getElem?_eq_getElem (by omega)⟩
 refine Zg (a := a) (sz := 3) (rows := Ze xs) (by intro h0; simp [Ze] at h0; simp [h0] at hx) (fun b off he => ?_)
 subst he
 refine Zg (a := a2) (sz := 3) (rows := Ze ys) (by intro h0; simp [Ze] at h0; simp [h0] at hz) (fun b2 off2 he => ?_)
 subst he
 refine Z2 (Z0 (Z3 (sqt 2 rfl (pur 2 rfl (Z0 ?_)))))
 refine Zl [0, 0, 3, 7, 0, 0, 48, 112, 255] (tks 0 3 (.ld 3 (tks 4 3 (.ld 7 (.tk 8 .done))))) Zz (by kernel_rfl) ?_
 refine Zr 2 rfl (tk rfl (PE.indexAddr ZcI rfl rfl (by omega) (by omega)) rfl (ld rfl rfl (lfA Zaf (row := Z0w x) (by simp [Ze, hx]) rfl) rfl (Zr 2 rfl (tk rfl (PE.indexAddr ZcI rfl rfl (by omega) (by omega)) rfl (ld rfl rfl (lfA Zaf (row := Z0w z) (by simp [Ze, hz]) rfl) rfl (tk rfl (PE.neqS (Z0w x) (Z0w z) [false, false, true] (by kernel_rfl) ZfV rfl rfl rfl rfl) rfl ?_))))))
 refine Z1 rfl ?_ ?_ <;> intro hc2
 have hne : xs ≠ ys := fun e => by subst e; rw [hx] at hz; cases hz; simp [Zac, scE, Z0w] at hc2
 refine sqt 1 rfl (pur 1 rfl (Z5 ?_))
 exact rtA rfl rfl rfl ⟨by first | (simp only [ZE]; rw [dT heq]; done) | (simp only [ZE]; rw [dF hne]), rfl, rfl⟩ idH
 have hxz : x = z := by cases x; cases z; simpa [Zac, scE, Z0w, and_assoc] using hc2
 refine Z2 (sqr 2 rfl (sp rfl (PE.add rfl rfl (by omega)) rfl (pur 1 rfl ?_)))
 exact Zb ⟨k + 1, by omega, by rw [List.take_add_one, List.take_add_one, hn, hx, hz, hxz]⟩ idH
 simp only [cS] at hc1
 obtain rfl : k = xs.length := by omega
 have heq : xs = ys := by
   rw [List.take_length] at hn
   exact hn.trans (by rw [hle]; exact List.take_length)
 refine Z8 (Za (Za (Zm (sqt 1 rfl (pur 1 rfl (Z5 ?_))))))
 exact rtA rfl rfl rfl ⟨by first | (simp only [ZE]; rw [dT heq]; done) | (simp only [ZE]; rw [dF hne]), rfl, rfl⟩ idH
theorem Zap (xs ys : List Gp) (a a2 : Option Addr) (c c2 : Nat) (hl : xs.length ≤ 9223372036854775807) (hl2 : ys.length ≤ 9223372036854775807) (H : Zc) (R : Z6) [hR : MemRows a 2 (Zf xs) R] [hR2 : MemRows a2 2 (Zf ys) R] :
    FnV Tryz.prog 87 [.slice a xs.length c, .slice a2 ys.length c2] H R (.bool (decide (xs = ys))) := by
 refine Zi Tryz.func87 rfl Tryz.ntmps87 rfl ?_
 refine sqt 1 rfl (pur 1 rfl (sqt 4 rfl (pur 2 rfl ?_)))
 refine clV rfl ZdY rfl rfl (ZaV xs ys a a2 c c2 hl hl2 _ _) ?_
 refine pur 1 rfl (Z5 ?_)
 exact rtA rfl rfl rfl ⟨rfl, rfl, rfl⟩ drp
theorem Za4 (xs ys : List Sgt) (a a2 : Option Addr) (c c2 : Nat) (hl : xs.length ≤ 9223372036854775807) (hl2 : ys.length ≤ 9223372036854775807) (H : Zc) (R : Z6) [hR : MemRows a 3 (Ze xs) R] [hR2 : MemRows a2 3 (Ze ys) R] :
    FnV Tryz.prog 88 [.slice a xs.length c, .slice a2 ys.length c2] H R (.bool (decide (xs = ys))) := by
 refine Zi Tryz.func88 rfl Tryz.ntmps88 rfl ?_
 refine sqt 1 rfl (pur 1 rfl (sqt 4 rfl (pur 2 rfl ?_)))
 refine clV rfl ZdU rfl rfl (Zb1 xs ys a a2 c c2 hl hl2 _ _) ?_
 refine pur 1 rfl (Z5 ?_)
 exact rtA rfl rfl rfl ⟨rfl, rfl, rfl⟩ drp
theorem ZcF (h : Hse) (ag as_ : Option Addr) (cg cs : Nat) (hlg : h.gaps.length ≤ 9223372036854775807) (hls : h.sights.length ≤ 9223372036854775807) (H : Zc) (R : Z6) :
    FnV Tryz.prog 28 [h.v (h.sg ag cg) (h.ss as_ cs)] H R (.bool (Zdz h)) := by
 refine Zi Tryz.func28 rfl Tryz.ntmps28 rfl ?_
 refine sqt 2 rfl (bx rfl rfl rfl (fun b1 => pur 1 rfl (sqt 11 rfl (sp rfl (PE.fA Z0e rfl) rfl (spL rfl rfl (lh Z58 rfl rfl) rfl (sp rfl (PE.lenSl Z2w rfl) rfl (pur 2 rfl ?_)))))))
 refine Zo 7 rfl ?_ ?_ <;> intro g7
 refine pur 6 rfl (Z5 ?_)
 exact rtA rfl rfl rfl ⟨congrArg Value.bool (show true = Zdz h by unfold Zdz; rw [dT (by have := of_decide_eq_true g7; omega)]; rfl), rfl, rfl⟩ (fun w h9 => h9.del b1)
 refine spG rfl rfl rfl rfl (PE.fA Z04 rfl) rfl ?_
 refine Z0I rfl rfl rfl rfl rfl (lh Z3X rfl rfl) rfl ?_
 refine spG rfl rfl rfl rfl (PE.lenSl Z31 rfl) rfl ?_
 refine pur 3 rfl (Z5 ?_)
 exact rtA rfl rfl rfl ⟨congrArg Value.bool (show _ = Zdz h by unfold Zdz; rw [dF (show ¬ 14 < h.gaps.length by have := of_decide_eq_false g7; omega), Bool.false_or]; exact decide_eq_decide.2 (by omega)), rfl, rfl⟩ (fun w h9 => h9.del b1)
set_option maxHeartbeats 400000 in
theorem ZaD (h : Hse) (ag as_ : Option Addr) (cg cs : Nat) (hlg : h.gaps.length ≤ 1000000) (hls : h.sights.length ≤ 1000000) (H : Zc) (R : Z6) [hG : MemRows ag 2 (Zf h.gaps) R] [hS : MemRows as_ 3 (Ze h.sights) R] :
    Fn Tryz.prog 13 [h.v (h.sg ag cg) (h.ss as_ cs)] H R (fun v H' R' => ∃ (ax ay : Option Addr) (cx cy : Nat), v = h.v (h.sg ax cx) (h.ss ay cy) ∧ H' = H ∧ R' = RowsA ay 3 (Ze h.sights) :: RowsA ax 2 (Zf h.gaps) :: R) := by
 refine Zi Tryz.func13 rfl Tryz.ntmps13 rfl ?_
 refine sqt 2 rfl (bx rfl rfl rfl (fun b1 => alc rfl Zfw rfl (fun b2 => sqt 5 rfl (sp rfl (PE.fA Z1t rfl) rfl (spL rfl rfl (lh (v := .int .i64 h.bins) sc3 rfl rfl) rfl (sp rfl (PE.build (out := htl h (.slice none 0 0) (.slice none 0 0)) ZgS Zfw rfl rfl) rfl (alc rfl Zfw rfl (fun b3 => ?_))))))))
 refine ZN (l' := htl h (.slice none 0 0) (.slice none 0 0)) rfl rfl rfl Zgo rfl rfl rfl rfl (nl rfl) ?_
 refine Z0 (sqt 4 rfl (sp rfl (PE.fA Z0e rfl) rfl (spL rfl rfl (lh Z58 rfl rfl) rfl (sp rfl (PE.lenSl Z2w rfl) rfl (pur 1 rfl (Z3 ?_))))))
 refine Zd (ι := (k : {k : Nat // k ≤ h.gaps.length}) × OSl 110 2 (Zf (h.gaps.take k.1))) (fun x => ⟨[(1, .pointer (some ⟨b1, 0, none⟩)), (2, .pointer (some ⟨b2, 0, none⟩)), (3, .pointer (some ⟨b3, 0, none⟩)), (12, h.sg ag cg), (13, .int .i64 h.gaps.length), (14, .int .i64 x.1.1)], x.2.G ++ ((b3, cel 35 (htl h x.2.fs (.slice none 0 0))) :: (b2, cel 35 (htl ⟨0, [], []⟩ (.slice none 0 0) (.slice none 0 0))) :: (b1, cel 25 (htl h (h.sg ag cg) (h.ss as_ cs))) :: H), R⟩) (fun x => h.gaps.length - x.1.1) ⟨⟨0, by omega⟩, OSl.nil _ _⟩ ?_ (fun x => ?_)
 exact Zk idH
 obtain ⟨⟨k, hk⟩, o⟩ := x
 dsimp only at hk o ⊢
 refine sqt 1 rfl (pur 1 rfl (Z0 ?_))
 refine Z1 rfl ?_ ?_ <;> intro hc0 <;> try simp only [cS] at hc0
 obtain ⟨x, hx⟩ : ∃ x, h.gaps[k]? = some x := ⟨_, List.getElem?_eq_getElem (by omega)⟩
 refine Zg (a := ag) (sz := 2) (rows := Zf h.gaps) (ne0 (by rw [Z0J]; omega)) (fun ba oa he => ?_)
 subst he
 refine Z2 (Z0 (Z3 (sqt 4 rfl (sp rfl (PE.indexAddr Z7V rfl rfl (by omega) (by omega)) rfl (spL rfl rfl (lfA Z7A (row := grow x) (Z1r hx) rfl) rfl (alc rfl Z5J rfl (fun b5 => ?_)))))))
 refine ZN (l' := grow x) rfl rfl rfl Zdx rfl rfl rfl rfl (nl rfl) ?_
 refine sqr 7 rfl (sp rfl (PE.fA Z3G rfl) rfl (spL rfl rfl (lh Zdv rfl rfl) rfl (spL rfl rfl (lhA (grow x) Z7A rfl rfl rfl) rfl ?_)))
 refine bsl (out := [_, _]) rfl Zh2 Zc7 rfl rfl rfl rfl rfl rfl (fun b21 => ?_)
 refine apO (o) rfl Zh0 rfl rfl (Z0l (row := grow x) rfl) rfl rfl ((by rw [Z0J, List.length_take]; simp only [List.length_singleton]; omega)) rfl (fun o22 => ?_)
 refine sp rfl (PE.fA Z3G rfl) rfl ?_
 refine ZN (l' := htl h o22.fs (.slice none 0 0)) rfl rfl rfl ZgT rfl (by rw [o22.cells.1]; first | done | rfl) (by rw [o22.cells.1]; simp [o22.cells.2]) (by rw [o22.cells.1]; first | done | rfl) (by rw [o22.cells.1]; first | done | exact Nat.le_of_ble_eq_true rfl) ?_
 refine sqr 2 rfl (sp rfl (PE.add rfl rfl (by omega)) rfl (pur 1 rfl ?_))
 exact Zb ⟨⟨k + 1, by omega⟩, o22.cast (by rw [Z6e hx, Zey]; rfl)⟩ (fun w h9 => (h9.del b21).del b5)
 obtain rfl : k = h.gaps.length := by omega
 obtain ⟨ax, cx, he, hcx, hf⟩ := (o.cast (show _ = Zf h.gaps by rw [List.take_length])).freezeC
 rw [Z0J] at hcx
 rw [show o.fs = _ from he, Z0J]
 refine Sy.heap (fun w h9 => hf h9) ?_
 clear he hf
 refine Z8 (Za (Za (Zm (Z0 (sqt 4 rfl (sp rfl (PE.fA Z04 rfl) rfl (spL rfl rfl (lh Z3X rfl rfl) rfl (sp rfl (PE.lenSl Z31 rfl) rfl (pur 1 rfl (Z3 ?_))))))))))
 refine Zd (ι := (k : {k : Nat // k ≤ h.sights.length}) × OSl 111 3 (Ze (h.sights.take k.1))) (fun x => ⟨[(1, .pointer (some ⟨b1, 0, none⟩)), (2, .pointer (some ⟨b2, 0, none⟩)), (3, .pointer (some ⟨b3, 0, none⟩)), (26, h.ss as_ cs), (27, .int .i64 h.sights.length), (28, .int .i64 x.1.1)], x.2.G ++ ((b3, cel 35 (htl h (.slice ax h.gaps.length cx) x.2.fs)) :: (b2, cel 35 (htl ⟨0, [], []⟩ (.slice none 0 0) (.slice none 0 0))) :: (b1, cel 25 (htl h (h.sg ag cg) (h.ss as_ cs))) :: H), RowsA ax 2 (Zf h.gaps) :: R⟩) (fun x => h.sights.length - x.1.1) ⟨⟨0, by omega⟩, OSl.nil _ _⟩ ?_ (fun x => ?_)
 exact Zk idH
 obtain ⟨⟨k, hk⟩, o⟩ := x
 dsimp only at hk o ⊢
 refine sqt 1 rfl (pur 1 rfl (Z0 ?_))
 refine Z1 rfl ?_ ?_ <;> intro hc1 <;> try simp only [cS] at hc1
 obtain ⟨x, hx⟩ : ∃ x, h.sights[k]? = some x := ⟨_, List.getElem?_eq_getElem (by omega)⟩
 refine Zg (a := as_) (sz := 3) (rows := Ze h.sights) (ne0 (by rw [Z0x]; omega)) (fun bs os he => ?_)
 subst he
 refine Z2 (Z0 (Z3 (sqt 4 rfl (sp rfl (PE.indexAddr ZcI rfl rfl (by omega) (by omega)) rfl (spL rfl rfl (lfA Zaf (row := Z0w x) (Z1w hx) rfl) rfl (alc rfl Zb7 rfl (fun b7 => ?_)))))))
 refine ZN (l' := Z0w x) rfl rfl rfl ZgE rfl rfl rfl rfl (nl rfl) ?_
 refine sqr 7 rfl (sp rfl (PE.fA Z0D rfl) rfl (spL rfl rfl (lh Z5X rfl rfl) rfl (spL rfl rfl (lhA (Z0w x) Zaf rfl rfl rfl) rfl ?_)))
 refine bsl (out := [_, _, _]) rfl ZgR ZaS rfl rfl rfl rfl rfl rfl (fun b35 => ?_)
 refine apO (o) rfl ZgM rfl rfl (Z0l (row := Z0w x) rfl) rfl rfl ((by rw [Z0x, List.length_take]; simp only [List.length_singleton]; omega)) rfl (fun o36 => ?_)
 refine sp rfl (PE.fA Z0D rfl) rfl ?_
 refine ZN (l' := htl h (.slice ax h.gaps.length cx) o36.fs) rfl rfl rfl Zh3 rfl (by rw [o36.cells.1]; first | done | rfl) (by rw [o36.cells.1]; simp [o36.cells.2]) (by rw [o36.cells.1]; first | done | rfl) (by rw [o36.cells.1]; first | done | exact Nat.le_of_ble_eq_true rfl) ?_
 refine sqr 2 rfl (sp rfl (PE.add rfl rfl (by omega)) rfl (pur 1 rfl ?_))
 exact Zb ⟨⟨k + 1, by omega⟩, o36.cast (by rw [Z6e hx, ZeA]; rfl)⟩ (fun w h9 => (h9.del b35).del b7)
 obtain rfl : k = h.sights.length := by omega
 obtain ⟨ay, cy, he, hcy, hf⟩ := (o.cast (show _ = Ze h.sights by rw [List.take_length])).freezeC
 rw [Z0x] at hcy
 rw [show o.fs = _ from he, Z0x]
 refine Sy.heap (fun w h9 => hf h9) ?_
 clear he hf
 refine Z8 (Za (Za (Zm (sqt 2 rfl (spL rfl rfl (lhA (htl h (.slice ax h.gaps.length cx) (.slice ay h.sights.length cy)) Z57 rfl rfl rfl) rfl ?_)))))
 refine ZN (l' := htl h (.slice ax h.gaps.length cx) (.slice ay h.sights.length cy)) rfl rfl rfl Zgo rfl rfl rfl rfl (nl rfl) ?_
 refine Z5 ?_
 exact Zs (vs := [_]) rfl (.cons (RV.cell rfl (lhA (htl h (.slice ax h.gaps.length cx) (.slice ay h.sights.length cy)) Z57 rfl rfl rfl)) .nil) rfl ⟨ax, ay, cx, cy, rfl, rfl, rfl⟩ (fun w h9 => ((h9.del b3).del b2).del b1)
theorem ZdX (h q : Hse) (ag as_ ax ay : Option Addr) (cg cs cx cy : Nat) (hlg : h.gaps.length ≤ 9223372036854775807) (hls : h.sights.length ≤ 9223372036854775807) (hqg : q.gaps.length ≤ 9223372036854775807) (hqs : q.sights.length ≤ 9223372036854775807) (H : Zc) (R : Z6) [hG : MemRows ag 2 (Zf h.gaps) R] [hS : MemRows as_ 3 (Ze h.sights) R] [hX : MemRows ax 2 (Zf q.gaps) R] [hY : MemRows ay 3 (Ze q.sights) R] :
    FnV Tryz.prog 25 [h.v (h.sg ag cg) (h.ss as_ cs), q.v (q.sg ax cx) (q.ss ay cy)] H R (.bool (Z7H h q)) := by
 refine Zi Tryz.func25 rfl Tryz.ntmps25 rfl ?_
 refine sqt 3 rfl (bx rfl rfl rfl (fun b2 => bx rfl rfl rfl (fun b3 => pur 1 rfl (sqt 20 rfl (sp rfl (PE.fA Z1t rfl) rfl (spL rfl rfl (lh (v := .int .i64 h.bins) sc3 rfl rfl) rfl (sp rfl (PE.fA Z1t rfl) rfl (spL rfl rfl (lh (v := .int .i64 q.bins) sc3 rfl rfl) rfl (pur 2 rfl ?_)))))))))
 refine Zo 10 rfl ?_ ?_ <;> intro g10
 refine spG rfl rfl rfl rfl (PE.fA Z0e rfl) rfl ?_
 refine Z0I rfl rfl rfl rfl rfl (lh Z58 rfl rfl) rfl ?_
 refine spG rfl rfl rfl rfl (PE.fA Z0e rfl) rfl ?_
 refine Z0I rfl rfl rfl rfl rfl (lh Z58 rfl rfl) rfl ?_
 refine Z2t rfl rfl rfl rfl Zgy rfl rfl (Zap h.gaps q.gaps ag ax cg cx hlg hqg _ _) ?_
 refine pur 2 rfl ?_
 refine Zo 17 rfl ?_ ?_ <;> intro g17
 refine spG rfl rfl rfl rfl (PE.fA Z04 rfl) rfl ?_
 refine Z0I rfl rfl rfl rfl rfl (lh Z3X rfl rfl) rfl ?_
 refine spG rfl rfl rfl rfl (PE.fA Z04 rfl) rfl ?_
 refine Z0I rfl rfl rfl rfl rfl (lh Z3X rfl rfl) rfl ?_
 refine Z2t rfl rfl rfl rfl Zg0 rfl rfl (Za4 h.sights q.sights as_ ay cs cy hls hqs _ _) ?_
 refine pur 2 rfl (Z5 ?_)
 exact rtA rfl rfl rfl ⟨by simp only [ZE, Z7H]; first | (rw [g10, g17]; rfl) | (rw [g10]; rfl), rfl, rfl⟩ (fun w h9 => (h9.del b3).del b2)
 refine pur 7 rfl (Z5 ?_)
 exact rtA rfl rfl rfl ⟨by simp only [ZE, Z7H]; first | (rw [g10, g17]; rfl) | (rw [g10]; rfl), rfl, rfl⟩ (fun w h9 => (h9.del b3).del b2)
 refine pur 14 rfl (Z5 ?_)
 exact rtA rfl rfl rfl ⟨by simp only [ZE, Z7H]; first | (rw [g10, g17]; rfl) | (rw [g10]; rfl), rfl, rfl⟩ (fun w h9 => (h9.del b3).del b2)
theorem Z3N (n : Nat) (hn : n ≤ 20) (H : Zc) (R : Z6) :
    FnV Tryz.prog 74 [.int .i64 (n : Int)] H R (.int .i64 ((2 ^ n : Nat) : Int)) := by
 refine Zi Tryz.func74 rfl Tryz.ntmps74 rfl ?_
 refine sqt 1 rfl (pur 1 rfl (sqt 1 rfl (pur 1 rfl (Z0 (sqt 1 rfl (pur 1 rfl (Z3 ?_)))))))
 refine Zd (ι := {k : Nat // k ≤ n}) (fun k => ⟨[(0, .int .i64 (n : Int)), (3, .int .i64 ((2 ^ k.1 : Nat) : Int)), (4, .int .i64 (k.1 : Int))], H, R⟩) (fun k => n - k.1) ⟨0, Nat.zero_le _⟩ ?_ (fun k => ?_)
 exact Zk idH
 obtain ⟨k, hk⟩ := k
 dsimp only at hk ⊢
 have hp := Nat.pow_le_pow_right (show 0 < 2 by decide) (show k ≤ 20 by omega)
 have h20 : (2 : Nat) ^ 20 = 1048576 := rfl
 have hps := Nat.pow_succ 2 k
 refine Z0 (sqt 3 rfl (pur 3 rfl ?_))
 refine Z1 rfl ?_ ?_ <;> intro hc0 <;> try simp only [cS] at hc0
 refine Z2 (Z0 (Z3 (sqr 3 rfl (pur 1 rfl (sp rfl (PE.mul rfl rfl (by omega)) rfl (pur 1 rfl (sqr 3 rfl (pur 1 rfl (sp rfl (PE.add rfl rfl (by omega)) rfl (pur 1 rfl ?_))))))))))
 rw [show (2 : Int) * ((2 ^ k : Nat) : Int) = ((2 ^ (k + 1) : Nat) : Int) by omega]
 exact Zb ⟨k + 1, by omega⟩ idH
 obtain rfl : k = n := by omega
 refine Z8 (Za (Za (Zm (sqt 2 rfl (pur 2 rfl (Z5 ?_))))))
 exact rtA rfl rfl rfl ⟨rfl, rfl, rfl⟩ drp
theorem Z4A (s : Nat) (hs : s < 2 ^ 10) (H : Zc) (R : Z6) :
    Fn Tryz.prog 75 [.int .i64 (s : Int)] H R (fun v H' R' => ∃ o : OSl 3 1 (Z4 (Zp s)), v = o.fs ∧ H' = o.G ++ H ∧ R' = R) := by
 refine Zi Tryz.func75 rfl Tryz.ntmps75 rfl ?_
 refine sqt 1 rfl ?_
 have h10 : (2 : Nat) ^ 10 = 1024 := rfl
 rw [show (s : Int) = ((s >>> 0 : Nat) : Int) from rfl]
 refine pur 1 rfl (sqt 1 rfl (pur 1 rfl (Z0 (sqt 1 rfl (pur 1 rfl (Z3 ?_))))))
 refine Zd (ι := (k : {k : Nat // k ≤ 10}) × OSl 3 1 (Z4 (Z7R s k.1))) (fun x => ⟨[(0, .int .i64 ((s >>> x.1.1 : Nat) : Int)), (3, x.2.fs), (4, .int .i64 (x.1.1 : Int))], x.2.G ++ H, R⟩) (fun x => 10 - x.1.1) ⟨⟨0, by omega⟩, OSl.nil _ _⟩ ?_ (fun x => ?_)
 exact Zk idH
 obtain ⟨⟨k, hk⟩, o⟩ := x
 dsimp only at hk o ⊢
 have hml := Z51 s k
 have hsk : s >>> k ≤ s := Nat.shiftRight_le _ _
 refine Z0 (sqt 2 rfl (pur 2 rfl ?_))
 refine Z1 rfl ?_ ?_ <;> intro hc0 <;> try simp only [cS] at hc0
 have hk4 := ZcH hs hc0
 refine Z2 (Z0 (Z3 (Z0 (sqt 3 rfl (pur 1 rfl (sp rfl (PE.rem rfl rfl ⟨Int.natCast_nonneg _, by decide⟩) rfl (pur 1 rfl ?_)))))))
 refine Z1 rfl ?_ ?_ <;> intro hc1
 rw [Z60] at hc1
 have eb := Z81 (of_decide_eq_true hc1)
 refine sqr 5 rfl (pur 2 rfl ?_)
 refine bsl (out := [_]) rfl Z0j zl3 rfl rfl rfl rfl rfl rfl (fun b14 => ?_)
 refine apO (o) rfl Z2j rfl rfl (Z0l (row := [.int .i64 (k : Int)]) rfl) rfl rfl ((by rw [irl]; simp only [List.length_singleton]; omega)) rfl (fun o15 => ?_)
 refine pur 1 rfl (sqr 3 rfl (pur 1 rfl (sp rfl (PE.quo rfl rfl ⟨Int.natCast_nonneg _, by omega, by decide⟩) rfl ?_)))
 rw [Z2g]
 refine pur 1 rfl (sqr 3 rfl (pur 1 rfl (sp rfl (PE.add rfl rfl (by omega)) rfl (pur 1 rfl ?_))))
 first
   | exact Z9 ⟨⟨k + 1, by omega⟩, o15.cast (by rw [eb]; simp [Z4])⟩ (by dsimp only; omega) (fun w h => h.del b14)
   | exact Z9 ⟨⟨k + 1, by omega⟩, o.cast (by rw [eb])⟩ (by dsimp only; omega) idH
 rw [Z60] at hc1
 have eb := Z4r (of_decide_eq_false hc1)
 refine Z2 (sqr 3 rfl (pur 1 rfl (sp rfl (PE.quo rfl rfl ⟨Int.natCast_nonneg _, by omega, by decide⟩) rfl ?_)))
 rw [Z2g]
 refine pur 1 rfl (sqr 3 rfl (pur 1 rfl (sp rfl (PE.add rfl rfl (by omega)) rfl (pur 1 rfl ?_))))
 first
   | exact Z9 ⟨⟨k + 1, by omega⟩, o15.cast (by rw [eb]; simp [Z4])⟩ (by dsimp only; omega) (fun w h => h.del b14)
   | exact Z9 ⟨⟨k + 1, by omega⟩, o.cast (by rw [eb])⟩ (by dsimp only; omega) idH
 have hz : s / 2 ^ k = 0 := by
   have h5 : s >>> k = 0 := Nat.le_zero.1 (Int.ofNat_le.1 hc0)
   rw [Nat.shiftRight_eq_div_pow] at h5; exact h5
 refine Z8 (Za (Za (Zm (sqt 2 rfl (pur 2 rfl (Z5 ?_))))))
 exact rtA rfl rfl rfl ⟨o.cast (by rw [Z9M hz (by omega)]), rfl, rfl, rfl⟩ idH
set_option maxHeartbeats 400000 in
theorem Zbp (h : Hse) (ag as_ : Option Addr) (cg cs : Nat) (hok : h.ok) (fr : List Int) (af : Option Addr) (cf : Nat) (hfr : ZS h.bins fr = 0) (set : Nat) (hst : set < 2 ^ 10) (H : Zc) (R : Z6) [hG : MemRows ag 2 (Zf h.gaps) R] [hS : MemRows as_ 3 (Ze h.sights) R] [hF : MemRows af 1 (Z4 fr) R] :
    FnV Tryz.prog 106 [h.v (h.sg ag cg) (h.ss as_ cs), .slice af fr.length cf, .int .i64 (set : Int)] H R (.bool (Z8H h (msk fr) set)) := by
 refine Zi Tryz.func106 rfl Tryz.ntmps106 rfl ?_
 refine sqt 2 rfl ?_
 have hbn := hok.bins
 have hsl := hok.sl
 obtain ⟨B, hB⟩ : ∃ B : Nat, h.bins = B := ⟨h.bins.toNat, by omega⟩
 have hBt : h.bins.toNat = B := by omega
 have h10 : (2 : Nat) ^ 10 = 1024 := rfl
 rw [show (set : Int) = ((set >>> 0 : Nat) : Int) from rfl]
 refine Sy.heap (fun w h9 => St.norows (sz := 1) h9) ?_
 refine bx rfl rfl rfl (fun b3 => pur 1 rfl (sqt 4 rfl (spL rfl rfl (lhA (htl h (h.sg ag cg) (h.ss as_ cs)) Z57 rfl rfl rfl) rfl (pur 1 rfl ?_))))
 refine cl rfl Z9J rfl rfl (Z2p h ag as_ cg cs hok fr [] af none cf 0 hfr (fun x hx => by cases hx) (by decide) _ _) ?_
 rintro _ _ R1 ⟨aw, cw, rfl, rfl, hR1⟩
 obtain rfl := hR1.symm
 clear hR1
 rw [hBt]
 refine pur 1 rfl (Z0 (sqt 1 rfl ?_))
 rw [show msk [] = 0 from rfl]
 refine pur 1 rfl (Z3 ?_)
 refine Zd (ι := {k : Nat // k ≤ h.sights.length ∧ ∀ i, i < k → ∀ s, h.sights[i]? = some s → (!(set.testBit i) || exS h.gaps (msk fr) s) = true}) (fun k => ⟨[(2, .int .i64 ((set >>> k.1 : Nat) : Int)), (3, .pointer (some ⟨b3, 0, none⟩)), (7, .slice aw B cw), (8, .int .i64 (k.1 : Int))], (b3, cel 35 (htl h (h.sg ag cg) (h.ss as_ cs))) :: H, RowsA aw 1 (Z4 (wkL h.gaps 0 (msk fr) B)) :: RowsA none 1 [] :: R⟩) (fun k => h.sights.length - k.1) ⟨0, Nat.zero_le _, fun i hi => absurd hi (Nat.not_lt_zero _)⟩ ?_ (fun k => ?_)
 exact Zk idH
 obtain ⟨k, hk, hall⟩ := k
 dsimp only at hk hall ⊢
 have hsk : set >>> k ≤ set := Nat.shiftRight_le _ _
 refine Z0 (sqt 5 rfl (pur 1 rfl (sp rfl (PE.fA Z0D rfl) rfl (spL rfl rfl (lh Z5X rfl rfl) rfl (sp rfl (PE.lenSl Z5L rfl) rfl (pur 1 rfl ?_))))))
 refine Z1 rfl ?_ ?_ <;> intro hc0 <;> try simp only [cS] at hc0
 obtain ⟨x, hx⟩ : ∃ x, h.sights[k]? = some x := ⟨_, List.getElem?_eq_getElem (by omega)⟩
 have hso := hok.sights x (List.mem_of_getElem? hx)
 have hex : exS h.gaps (msk fr) x = (decide (wk h.gaps 0 (msk fr) x.bin.toNat ≤ x.week) == x.seen) := rfl
 have hxb : x.bin.toNat < B := by have := hso.2; omega
 have hgw := Z0U (l := (wkL h.gaps 0 (msk fr) B)) (k := x.bin.toNat) (by rw [Z1j]; exact hxb)
 rw [Z5e hxb] at hgw
 have hwc := Z9z (gs := h.gaps) (m := (msk fr)) (k := x.bin.toNat) hso.1.2
 have hgw2 : (Z4 (wkL h.gaps 0 (msk fr) B))[x.bin.toNat]? = some [.int .i64 (wkC h.gaps 0 (msk fr) x.bin.toNat)] := ZB hgw
 generalize wkC h.gaps 0 (msk fr) x.bin.toNat = wx at *
 refine Zg (a := aw) (sz := 1) (rows := Z4 (wkL h.gaps 0 (msk fr) B)) (by intro h0; have := congrArg List.length h0; rw [irl, Z1j] at this; simp only [List.length_nil] at this; omega) (fun bw ow hew => ?_)
 subst hew
 refine Zg (a := as_) (sz := 3) (rows := Ze h.sights) (ne0 (by rw [Z0x]; omega)) (fun bs os he => ?_)
 subst he
 refine Z2 (Z0 (Z3 (sqt 7 rfl (sp rfl (PE.fA Z0D rfl) rfl (spL rfl rfl (lh Z5X rfl rfl) rfl (pur 1 rfl (sp rfl (PE.indexAddr Zdw rfl rfl (by omega) (by omega)) rfl (spL rfl rfl (lfA ZaP (row := Z0w x) (Z1w hx) rfl) rfl (alc rfl ZaS rfl (fun b9 => ?_))))))))))
 refine ZN (l' := Z0w x) rfl rfl rfl Zdo rfl rfl rfl rfl (nl rfl) ?_
 refine Z0 (Z0 ?_)
 refine Zl [0, 1, 3, 7, 15, 31, 15, 15, 143, 463, 975, 1999, 4047, 8143, 8143, 24527, 65487, 131023, 8143, 270287, 1048527, 2097103, 4194303, 8388607] (tks 0 5 (.ld 5 (.tk 6 (.tk 7 (.ld 8 (.tk 9 (.ld 10 (tks 11 4 (.ld 15 (.tk 16 (.ld 17 (.tk 18 (.ld 19 (tks 20 4 .done)))))))))))))) Zz (by kernel_rfl) ?_
 refine Zr 1 rfl (tk rfl (PE.rem rfl rfl ⟨Int.natCast_nonneg _, by decide⟩) rfl (Zr 2 rfl ?_))
 refine Zo 28 rfl ?_ ?_ <;> intro g28
 rw [Z9h] at g28
 refine tkG rfl rfl rfl rfl (PE.fA Z65 rfl) rfl ?_
 refine ldG rfl rfl rfl rfl rfl (lh sc4 rfl rfl) rfl (Zr 1 rfl ?_)
 refine tkG rfl rfl rfl rfl (PE.fA Z26 rfl) rfl ?_
 refine ldG rfl rfl rfl rfl rfl (lh sc3 rfl rfl) rfl ?_
 skip
 refine tkG rfl rfl rfl rfl (PE.indexAddr Z0a rfl rfl (by omega) (by omega)) rfl ?_
 refine ldG rfl rfl rfl rfl rfl (lf0 sc3 hgw2 rfl) rfl (Zr 2 rfl ?_)
 refine Zo 37 rfl ?_ ?_ <;> intro g37
 refine Zr 1 rfl ?_
 refine tkG rfl rfl rfl rfl (PE.fA Z26 rfl) rfl ?_
 refine ldG rfl rfl rfl rfl rfl (lh sc3 rfl rfl) rfl ?_
 refine tkG rfl rfl rfl rfl (PE.indexAddr Z0a rfl rfl (by omega) (by omega)) rfl ?_
 refine ldG rfl rfl rfl rfl rfl (lf0 sc3 hgw2 rfl) rfl ?_
 refine tkG rfl rfl rfl rfl (PE.fA Z52 rfl) rfl ?_
 refine ldG rfl rfl rfl rfl rfl (lh sc3 rfl rfl) rfl (Zr 2 rfl ?_)
 refine tkG rfl rfl rfl rfl (PE.neqBool ub4 rfl rfl) rfl ?_
 refine Zr 1 rfl ?_
 refine Z1 rfl ?_ ?_ <;> intro hc1
 refine sqt 1 rfl (pur 1 rfl (Z5 ?_))
 exact rtA rfl rfl rfl ⟨by
   simp only [ZE]
   have he0 : exS h.gaps (msk fr) x = false := by
     rw [hex, ← hwc]
     first
       | (rw [g37, Bool.true_and]; cases hs9 : x.seen <;> rw [hs9] at hc1 <;> simp_all)
       | (rw [g37, Bool.false_and]; cases hs9 : x.seen <;> rw [hs9] at hc1 <;> simp_all)
   rw [Zbv hx g28 he0], rfl, rfl⟩ (fun w h9 => St.sub ((h9.del b9).del b3))
 have hk1 : (!(set.testBit k) || exS h.gaps (msk fr) x) = true := by
   rw [hex, ← hwc]
   first
     | (rw [g28]; rfl)
     | (rw [g28, g37, Bool.true_and]; cases hs9 : x.seen <;> rw [hs9] at hc1 <;> simp_all)
     | (rw [g28, g37, Bool.false_and]; cases hs9 : x.seen <;> rw [hs9] at hc1 <;> simp_all)
 refine Z2 (sqr 3 rfl (pur 1 rfl (sp rfl (PE.quo rfl rfl ⟨Int.natCast_nonneg _, by omega, by decide⟩) rfl ?_)))
 rw [Z2g]
 refine pur 1 rfl (sqr 3 rfl (pur 1 rfl (sp rfl (PE.add rfl rfl (by omega)) rfl (pur 1 rfl ?_))))
 exact Z7 ⟨k + 1, by omega, fun i hi s hs => by
   rcases Nat.lt_or_ge i k with h1 | h1
   · exact hall i h1 s hs
   · obtain rfl : i = k := by omega
     rw [hx] at hs
     obtain rfl := Option.some.inj hs
     exact hk1⟩ (by dsimp only; omega) (by repeat' first | exact Sub.nil | apply Sub.cons | rfl | (simp [lk]; omega)) (fun w h9 => h9.del b9)
 refine Zr 2 rfl ?_
 refine ldN rfl rfl rfl rfl rfl rfl rfl rfl ?_
 refine Zr 1 rfl ?_
 refine ldN rfl rfl rfl rfl rfl rfl rfl rfl ?_
 refine Zr 1 rfl ?_
 refine ldN rfl rfl rfl rfl rfl rfl rfl rfl ?_
 refine Zr 2 rfl ?_
 refine tkG rfl rfl rfl rfl (PE.neqBool ub4 rfl rfl) rfl ?_
 refine Zr 1 rfl ?_
 refine Z1 rfl ?_ ?_ <;> intro hc1
 refine sqt 1 rfl (pur 1 rfl (Z5 ?_))
 exact rtA rfl rfl rfl ⟨by
   simp only [ZE]
   have he0 : exS h.gaps (msk fr) x = false := by
     rw [hex, ← hwc]
     first
       | (rw [g37, Bool.true_and]; cases hs9 : x.seen <;> rw [hs9] at hc1 <;> simp_all)
       | (rw [g37, Bool.false_and]; cases hs9 : x.seen <;> rw [hs9] at hc1 <;> simp_all)
   rw [Zbv hx g28 he0], rfl, rfl⟩ (fun w h9 => St.sub ((h9.del b9).del b3))
 have hk1 : (!(set.testBit k) || exS h.gaps (msk fr) x) = true := by
   rw [hex, ← hwc]
   first
     | (rw [g28]; rfl)
     | (rw [g28, g37, Bool.true_and]; cases hs9 : x.seen <;> rw [hs9] at hc1 <;> simp_all)
     | (rw [g28, g37, Bool.false_and]; cases hs9 : x.seen <;> rw [hs9] at hc1 <;> simp_all)
 refine Z2 (sqr 3 rfl (pur 1 rfl (sp rfl (PE.quo rfl rfl ⟨Int.natCast_nonneg _, by omega, by decide⟩) rfl ?_)))
 rw [Z2g]
 refine pur 1 rfl (sqr 3 rfl (pur 1 rfl (sp rfl (PE.add rfl rfl (by omega)) rfl (pur 1 rfl ?_))))
 exact Z7 ⟨k + 1, by omega, fun i hi s hs => by
   rcases Nat.lt_or_ge i k with h1 | h1
   · exact hall i h1 s hs
   · obtain rfl : i = k := by omega
     rw [hx] at hs
     obtain rfl := Option.some.inj hs
     exact hk1⟩ (by dsimp only; omega) (by repeat' first | exact Sub.nil | apply Sub.cons | rfl | (simp [lk]; omega)) (fun w h9 => h9.del b9)
 rw [Z9h] at g28
 have hk1 : (!(set.testBit k) || exS h.gaps (msk fr) x) = true := by rw [g28]; rfl
 refine Zr 1 rfl ?_
 refine ldN rfl rfl rfl rfl rfl rfl rfl rfl ?_
 refine Zr 2 rfl ?_
 refine ldN rfl rfl rfl rfl rfl rfl rfl rfl ?_
 refine Zr 1 rfl ?_
 refine ldN rfl rfl rfl rfl rfl rfl rfl rfl ?_
 refine Zr 2 rfl ?_
 repeat refine tkU rfl rfl rfl rfl rfl rfl rfl ?_
 refine ldU rfl rfl rfl rfl rfl rfl rfl ?_
 refine tkU rfl rfl rfl rfl rfl rfl rfl ?_
 refine ldU rfl rfl rfl rfl rfl rfl rfl ?_
 refine tkU rfl rfl rfl rfl rfl rfl rfl ?_
 refine ldU rfl rfl rfl rfl rfl rfl rfl ?_
 refine tkU rfl rfl rfl rfl rfl rfl rfl ?_
 refine Zr 3 rfl ?_
 refine Zv rfl ?_
 refine Z2 (sqr 3 rfl (pur 1 rfl (sp rfl (PE.quo rfl rfl ⟨Int.natCast_nonneg _, by omega, by decide⟩) rfl ?_)))
 rw [Z2g]
 refine pur 1 rfl (sqr 3 rfl (pur 1 rfl (sp rfl (PE.add rfl rfl (by omega)) rfl (pur 1 rfl ?_))))
 exact Z7 ⟨k + 1, by omega, fun i hi s hs => by
   rcases Nat.lt_or_ge i k with h1 | h1
   · exact hall i h1 s hs
   · obtain rfl : i = k := by omega
     rw [hx] at hs
     obtain rfl := Option.some.inj hs
     exact hk1⟩ (by dsimp only; omega) (by repeat' first | exact Sub.nil | apply Sub.cons | rfl | (simp [lk]; omega)) (fun w h9 => h9.del b9)
 have hrx := Zct (h := h) (by omega) hall
 refine Z8 (Za (Za (Zm (sqt 1 rfl (pur 1 rfl (Z5 ?_))))))
 exact rtA rfl rfl rfl ⟨by simp only [ZE]; rw [hrx], rfl, rfl⟩ (fun w h9 => St.sub (h9.del b3))
theorem Z5Y (h : Hse) (ag as_ : Option Addr) (cg cs : Nat) (hok : h.ok) (fr : List Int) (af : Option Addr) (cf : Nat) (hfr : ZS h.bins fr = 0) (H : Zc) (R : Z6) [hG : MemRows ag 2 (Zf h.gaps) R] [hS : MemRows as_ 3 (Ze h.sights) R] [hF : MemRows af 1 (Z4 fr) R] :
    FnV Tryz.prog 39 [h.v (h.sg ag cg) (h.ss as_ cs), .slice af fr.length cf] H R (.bool (Z1s h.gaps (msk fr) h.sights)) := by
 refine Zi Tryz.func39 rfl Tryz.ntmps39 rfl ?_
 refine sqt 2 rfl ?_
 have hsl := hok.sl
 have hp := Nat.pow_le_pow_right (show 0 < 2 by decide) (show h.sights.length ≤ 8 by omega)
 have h8 : (2 : Nat) ^ 8 = 256 := rfl
 have hpp := Nat.two_pow_pos h.sights.length
 refine bx rfl rfl rfl (fun b2 => pur 1 rfl (Z0 ?_))
 refine Zl [0, 0, 0, 4, 12, 28, 60, 127, 255] (.ld 0 (.tk 1 (.tk 2 (.ld 3 (.tk 4 (.big 5 (.tk 6 (.big 7 (.tk 8 .done))))))))) Zz (by kernel_rfl) ?_
 refine ld rfl rfl (lhA (htl h (h.sg ag cg) (h.ss as_ cs)) Z57 rfl rfl rfl) rfl (Zr 1 rfl (tk rfl (PE.fA Z0D rfl) rfl (ld rfl rfl (lh Z5X rfl rfl) rfl (tk rfl (PE.lenSl Z5L rfl) rfl ?_))))
 refine clV rfl Z8p rfl rfl (Z3N h.sights.length (by omega) _ _) ?_
 refine bg (fun w hs => ⟨trivial, (lhA (htl h (h.sg ag cg) (h.ss as_ cs)) Z57 rfl rfl rfl) w hs, trivial⟩) ?_
 refine tk rfl (PE.sub rfl rfl (by omega)) rfl ?_
 rw [show ((2 ^ h.sights.length : Nat) : Int) - 1 = ((2 ^ h.sights.length - 1 : Nat) : Int) by omega]
 refine clV rfl ZbF rfl rfl (Zbp h ag as_ cg cs hok fr af cf hfr (2 ^ h.sights.length - 1) (by omega) _ _) ?_
 refine bgT (Zr 1 rfl (Z5 ?_))
 exact rtA rfl rfl rfl ⟨by simp only [ZE]; rw [ZbY], rfl, rfl⟩ (fun w h9 => h9.del b2)
set_option maxHeartbeats 600000 in
theorem Z7M (h : Hse) (ag as_ : Option Addr) (cg cs : Nat) (hok : h.ok) (H : Zc) (R : Z6) [hG : MemRows ag 2 (Zf h.gaps) R] [hS : MemRows as_ 3 (Ze h.sights) R] :
    Fn Tryz.prog 40 [h.v (h.sg ag cg) (h.ss as_ cs)] H R (fun v H' R' => ∃ (a : Option Addr) (c : Nat), v = .slice a h.clrR.1.length c ∧ H' = H ∧ R' = RowsA a 1 (Z4 h.clrR.1) :: R) := by
 refine Zi Tryz.func40 rfl Tryz.ntmps40 rfl ?_
 refine sqt 2 rfl ?_
 have hbn := hok.bins
 have hsl := hok.sl
 obtain ⟨B, hB⟩ : ∃ B : Nat, h.bins = B := ⟨h.bins.toNat, by omega⟩
 have hBt : h.bins.toNat = B := by omega
 have hcr := Zdk hok
 rw [hBt] at hcr
 rw [hcr]
 refine Sy.heap (fun w h9 => St.norows (sz := 1) h9) ?_
 refine bx rfl rfl rfl (fun b1 => pur 1 rfl (sqt 1 rfl (pur 1 rfl (Z0 (sqt 1 rfl (pur 1 rfl (Z3 ?_)))))))
 refine Zd (ι := (k : {k : Nat // k ≤ B}) × OSl 3 1 (Z4 (Z15 (fun k => Z2r h k h.sights.length) k.1))) (fun y => ⟨[(1, .pointer (some ⟨b1, 0, none⟩)), (3, y.2.fs), (4, .int .i64 (y.1.1 : Int))], y.2.G ++ ((b1, cel 35 (htl h (h.sg ag cg) (h.ss as_ cs))) :: H), RowsA none 1 [] :: R⟩) (fun y => B - y.1.1) ⟨⟨0, Nat.zero_le _⟩, OSl.nil _ _⟩ ?_ (fun y => ?_)
 exact Zk idH
 obtain ⟨⟨k, hk⟩, o⟩ := y
 dsimp only at hk o ⊢
 have hfl := Z0r (fun k => Z2r h k h.sights.length) k
 refine Z0 (sqt 4 rfl (pur 1 rfl (sp rfl (PE.fA Z0n rfl) rfl (spL rfl rfl (lh (v := .int .i64 h.bins) sc3 rfl rfl) rfl ?_))))
 rw [hB]
 refine pur 1 rfl ?_
 refine Z1 rfl ?_ ?_ <;> intro hc0 <;> try simp only [cS] at hc0
 have hkl : ZS h.bins [(k : Int)] = 0 := Z3i (fun x hx => by rw [List.mem_singleton.1 hx]; omega) (by simp)
 refine Z2 (Z0 (Z3 (sqt 6 rfl (spL rfl rfl (lhA (htl h (h.sg ag cg) (h.ss as_ cs)) Z57 rfl rfl rfl) rfl (pur 1 rfl ?_)))))
 refine bsl (out := [_]) rfl Z0j zl3 rfl rfl rfl rfl rfl rfl (fun b17 => ?_)
 refine Sy.heap (fun w h9 => St.rows (sz := 1) (rows := Z4 [(k : Int)]) (rest := []) (h9.pull b17) (by simp)) ?_
 refine cl rfl Z9J rfl rfl (Z2p h ag as_ cg cs hok [(k : Int)] [] (some ⟨b17, 0, none⟩) none 1 0 hkl (fun x hx => by cases hx) (by decide) _ _) ?_
 rintro _ _ R1 ⟨aw, cw, rfl, rfl, hR1⟩
 obtain rfl := hR1.symm
 clear hR1
 rw [hBt]
 refine pur 2 rfl (Z0 (sqt 1 rfl ?_))
 rw [show msk [] = 0 from rfl, Z4X]
 refine pur 1 rfl (Z3 ?_)
 refine Zd (ι := {i : Nat // i ≤ h.sights.length}) (fun i => ⟨[(1, .pointer (some ⟨b1, 0, none⟩)), (3, o.fs), (4, .int .i64 (k : Int)), (5, .slice aw B cw), (6, .bool (Z2r h k i.1)), (7, .int .i64 (i.1 : Int))], o.G ++ ((b1, cel 35 (htl h (h.sg ag cg) (h.ss as_ cs))) :: H), RowsA aw 1 (Z4 (wkL h.gaps 0 (2 ^ k) B)) :: RowsA none 1 [] :: R⟩) (fun i => h.sights.length - i.1) ⟨0, Nat.zero_le _⟩ ?_ (fun i => ?_)
 exact Zk (fun w h9 => h9.facts (fun g hg => by simp only [List.mem_cons] at hg ⊢; rcases hg with h8 | h8 | h8 <;> simp [h8]))
 obtain ⟨i, hi⟩ := i
 dsimp only at hi ⊢
 refine Z0 (sqt 5 rfl (pur 1 rfl (sp rfl (PE.fA Z0D rfl) rfl (spL rfl rfl (lh Z5X rfl rfl) rfl (sp rfl (PE.lenSl Z5L rfl) rfl (pur 1 rfl ?_))))))
 refine Z1 rfl ?_ ?_ <;> intro hc1 <;> try simp only [cS] at hc1
 obtain ⟨x, hx⟩ : ∃ x, h.sights[i]? = some x := ⟨_, List.getElem?_eq_getElem (by omega)⟩
 have hso := hok.sights x (List.mem_of_getElem? hx)
 have hcs : Z2r h k (i + 1) = (Z2r h k i || (!x.seen && decide (wk h.gaps 0 (2 ^ k) x.bin.toNat ≤ x.week))) := Z37 hx
 have hxb : x.bin.toNat < B := by have := hso.2; omega
 have hgw := Z0U (l := (wkL h.gaps 0 (2 ^ k) B)) (k := x.bin.toNat) (by rw [Z1j]; exact hxb)
 rw [Z5e hxb] at hgw
 have hwc := Z9z (gs := h.gaps) (m := (2 ^ k)) (k := x.bin.toNat) hso.1.2
 have hgw2 : (Z4 (wkL h.gaps 0 (2 ^ k) B))[x.bin.toNat]? = some [.int .i64 (wkC h.gaps 0 (2 ^ k) x.bin.toNat)] := ZB hgw
 generalize wkC h.gaps 0 (2 ^ k) x.bin.toNat = wx at *
 refine Zg (a := aw) (sz := 1) (rows := Z4 (wkL h.gaps 0 (2 ^ k) B)) (by intro h0; have := congrArg List.length h0; rw [irl, Z1j] at this; simp only [List.length_nil] at this; omega) (fun bw ow hew => ?_)
 subst hew
 rw [← hwc] at hcs
 refine Zg (a := as_) (sz := 3) (rows := Ze h.sights) (ne0 (by rw [Z0x]; omega)) (fun bs os he => ?_)
 subst he
 refine Z2 (Z0 (Z3 (sqt 7 rfl (sp rfl (PE.fA Z0D rfl) rfl (spL rfl rfl (lh Z5X rfl rfl) rfl (pur 1 rfl (sp rfl (PE.indexAddr Zdw rfl rfl (by omega) (by omega)) rfl (spL rfl rfl (lfA ZaP (row := Z0w x) (Z1w hx) rfl) rfl (alc rfl ZaS rfl (fun b8 => ?_))))))))))
 refine ZN (l' := Z0w x) rfl rfl rfl Zdo rfl rfl rfl rfl (nl rfl) ?_
 refine Zl [0, 1, 3, 7, 15, 31, 63, 63, 191, 511, 1023, 2047, 4095, 8191, 16383, 16383, 49151, 131071, 262143, 16383, 540671, 2097151, 4194303, 8388607, 16777215] (tks 0 3 (.ld 3 (tks 4 4 (.ld 8 (.tk 9 (.ld 10 (tks 11 5 (.ld 16 (.tk 17 (.ld 18 (.tk 19 (.ld 20 (tks 21 4 .done))))))))))))) Zz (by kernel_rfl) ?_
 refine Zr 2 rfl ?_
 refine Zo 32 rfl ?_ ?_ <;> intro g32
 refine Zr 1 rfl ?_
 refine ldN rfl rfl rfl rfl rfl rfl rfl rfl ?_
 refine Zr 2 rfl ?_
 repeat refine tkU rfl rfl rfl rfl rfl rfl rfl ?_
 refine ldU rfl rfl rfl rfl rfl rfl rfl ?_
 refine tkU rfl rfl rfl rfl rfl rfl rfl ?_
 refine ldU rfl rfl rfl rfl rfl rfl rfl ?_
 refine tkU rfl rfl rfl rfl rfl rfl rfl ?_
 refine Zr 2 rfl ?_
 repeat refine tkU rfl rfl rfl rfl rfl rfl rfl ?_
 refine ldU rfl rfl rfl rfl rfl rfl rfl ?_
 refine tkU rfl rfl rfl rfl rfl rfl rfl ?_
 refine ldU rfl rfl rfl rfl rfl rfl rfl ?_
 refine tkU rfl rfl rfl rfl rfl rfl rfl ?_
 refine ldU rfl rfl rfl rfl rfl rfl rfl ?_
 refine tkU rfl rfl rfl rfl rfl rfl rfl ?_
 refine Zr 3 rfl (sqr 3 rfl (pur 1 rfl (sp rfl (PE.add rfl rfl (by omega)) rfl (pur 1 rfl ?_))))
 first
   | exact absurd g44 (by decide)
   | (have hn9 : Z2r h k (i + 1) = true := by rw [hcs, g32]; rfl
      exact Z7 ⟨i + 1, by omega⟩ (by dsimp only; omega) (by rw [hn9]; exact (by repeat' first | exact Sub.nil | apply Sub.cons | rfl | (simp [lk]; omega))) (fun w h9 => h9.del b8))
   | (have hn9 : Z2r h k (i + 1) = false := by rw [hcs, g32, g36]; rfl
      exact Z7 ⟨i + 1, by omega⟩ (by dsimp only; omega) (by rw [hn9]; exact (by repeat' first | exact Sub.nil | apply Sub.cons | rfl | (simp [lk]; omega))) (fun w h9 => h9.del b8))
   | (have hn9 : Z2r h k (i + 1) = false := by rw [hcs, g32, g36, g44]; rfl
      exact Z7 ⟨i + 1, by omega⟩ (by dsimp only; omega) (by rw [hn9]; exact (by repeat' first | exact Sub.nil | apply Sub.cons | rfl | (simp [lk]; omega))) (fun w h9 => h9.del b8))
   | (have hn9 : Z2r h k (i + 1) = decide (wx ≤ x.week) := by rw [hcs, g32, g36, g44]; rfl
      exact Z7 ⟨i + 1, by omega⟩ (by dsimp only; omega) (by rw [hn9]; exact (by repeat' first | exact Sub.nil | apply Sub.cons | rfl | (simp [lk]; omega))) (fun w h9 => h9.del b8))
 refine tkG rfl rfl rfl rfl (PE.fA Z65 rfl) rfl ?_
 refine ldG rfl rfl rfl rfl rfl (lh sc4 rfl rfl) rfl (Zr 2 rfl ?_)
 refine Zo 36 rfl ?_ ?_ <;> intro g36
 refine Zr 1 rfl ?_
 refine tkG rfl rfl rfl rfl (PE.fA Z26 rfl) rfl ?_
 refine ldG rfl rfl rfl rfl rfl (lh sc3 rfl rfl) rfl ?_
 refine tkG rfl rfl rfl rfl (PE.indexAddr Z0a rfl rfl (by omega) (by omega)) rfl ?_
 refine ldG rfl rfl rfl rfl rfl (lf0 sc3 hgw2 rfl) rfl (Zr 3 rfl ?_)
 refine Zo 44 rfl ?_ ?_ <;> intro g44
 refine Zr 1 rfl ?_
 refine tkG rfl rfl rfl rfl (PE.fA Z26 rfl) rfl ?_
 refine ldG rfl rfl rfl rfl rfl (lh sc3 rfl rfl) rfl ?_
 refine tkG rfl rfl rfl rfl (PE.indexAddr Z0a rfl rfl (by omega) (by omega)) rfl ?_
 refine ldG rfl rfl rfl rfl rfl (lf0 sc3 hgw2 rfl) rfl ?_
 refine tkG rfl rfl rfl rfl (PE.fA Z52 rfl) rfl ?_
 refine ldG rfl rfl rfl rfl rfl (lh sc3 rfl rfl) rfl (Zr 4 rfl (sqr 3 rfl (pur 1 rfl (sp rfl (PE.add rfl rfl (by omega)) rfl (pur 1 rfl ?_)))))
 first
   | exact absurd g44 (by decide)
   | (have hn9 : Z2r h k (i + 1) = true := by rw [hcs, g32]; rfl
      exact Z7 ⟨i + 1, by omega⟩ (by dsimp only; omega) (by rw [hn9]; exact (by repeat' first | exact Sub.nil | apply Sub.cons | rfl | (simp [lk]; omega))) (fun w h9 => h9.del b8))
   | (have hn9 : Z2r h k (i + 1) = false := by rw [hcs, g32, g36]; rfl
      exact Z7 ⟨i + 1, by omega⟩ (by dsimp only; omega) (by rw [hn9]; exact (by repeat' first | exact Sub.nil | apply Sub.cons | rfl | (simp [lk]; omega))) (fun w h9 => h9.del b8))
   | (have hn9 : Z2r h k (i + 1) = false := by rw [hcs, g32, g36, g44]; rfl
      exact Z7 ⟨i + 1, by omega⟩ (by dsimp only; omega) (by rw [hn9]; exact (by repeat' first | exact Sub.nil | apply Sub.cons | rfl | (simp [lk]; omega))) (fun w h9 => h9.del b8))
   | (have hn9 : Z2r h k (i + 1) = decide (wx ≤ x.week) := by rw [hcs, g32, g36, g44]; rfl
      exact Z7 ⟨i + 1, by omega⟩ (by dsimp only; omega) (by rw [hn9]; exact (by repeat' first | exact Sub.nil | apply Sub.cons | rfl | (simp [lk]; omega))) (fun w h9 => h9.del b8))
 refine Zr 2 rfl ?_
 refine ldN rfl rfl rfl rfl rfl rfl rfl rfl ?_
 refine Zr 1 rfl ?_
 refine ldN rfl rfl rfl rfl rfl rfl rfl rfl ?_
 refine Zr 1 rfl ?_
 refine ldN rfl rfl rfl rfl rfl rfl rfl rfl ?_
 refine Zr 4 rfl (sqr 3 rfl (pur 1 rfl (sp rfl (PE.add rfl rfl (by omega)) rfl (pur 1 rfl ?_))))
 first
   | exact absurd g44 (by decide)
   | (have hn9 : Z2r h k (i + 1) = true := by rw [hcs, g32]; rfl
      exact Z7 ⟨i + 1, by omega⟩ (by dsimp only; omega) (by rw [hn9]; exact (by repeat' first | exact Sub.nil | apply Sub.cons | rfl | (simp [lk]; omega))) (fun w h9 => h9.del b8))
   | (have hn9 : Z2r h k (i + 1) = false := by rw [hcs, g32, g36]; rfl
      exact Z7 ⟨i + 1, by omega⟩ (by dsimp only; omega) (by rw [hn9]; exact (by repeat' first | exact Sub.nil | apply Sub.cons | rfl | (simp [lk]; omega))) (fun w h9 => h9.del b8))
   | (have hn9 : Z2r h k (i + 1) = false := by rw [hcs, g32, g36, g44]; rfl
      exact Z7 ⟨i + 1, by omega⟩ (by dsimp only; omega) (by rw [hn9]; exact (by repeat' first | exact Sub.nil | apply Sub.cons | rfl | (simp [lk]; omega))) (fun w h9 => h9.del b8))
   | (have hn9 : Z2r h k (i + 1) = decide (wx ≤ x.week) := by rw [hcs, g32, g36, g44]; rfl
      exact Z7 ⟨i + 1, by omega⟩ (by dsimp only; omega) (by rw [hn9]; exact (by repeat' first | exact Sub.nil | apply Sub.cons | rfl | (simp [lk]; omega))) (fun w h9 => h9.del b8))
 refine Zr 2 rfl ?_
 refine ldN rfl rfl rfl rfl rfl rfl rfl rfl ?_
 refine Zr 1 rfl ?_
 refine ldN rfl rfl rfl rfl rfl rfl rfl rfl ?_
 refine Zr 5 rfl ?_
 refine ldN rfl rfl rfl rfl rfl rfl rfl rfl ?_
 refine Zr 1 rfl ?_
 refine ldN rfl rfl rfl rfl rfl rfl rfl rfl ?_
 refine Zr 1 rfl ?_
 refine ldN rfl rfl rfl rfl rfl rfl rfl rfl ?_
 refine Zr 4 rfl (sqr 3 rfl (pur 1 rfl (sp rfl (PE.add rfl rfl (by omega)) rfl (pur 1 rfl ?_))))
 first
   | exact absurd g44 (by decide)
   | (have hn9 : Z2r h k (i + 1) = true := by rw [hcs, g32]; rfl
      exact Z7 ⟨i + 1, by omega⟩ (by dsimp only; omega) (by rw [hn9]; exact (by repeat' first | exact Sub.nil | apply Sub.cons | rfl | (simp [lk]; omega))) (fun w h9 => h9.del b8))
   | (have hn9 : Z2r h k (i + 1) = false := by rw [hcs, g32, g36]; rfl
      exact Z7 ⟨i + 1, by omega⟩ (by dsimp only; omega) (by rw [hn9]; exact (by repeat' first | exact Sub.nil | apply Sub.cons | rfl | (simp [lk]; omega))) (fun w h9 => h9.del b8))
   | (have hn9 : Z2r h k (i + 1) = false := by rw [hcs, g32, g36, g44]; rfl
      exact Z7 ⟨i + 1, by omega⟩ (by dsimp only; omega) (by rw [hn9]; exact (by repeat' first | exact Sub.nil | apply Sub.cons | rfl | (simp [lk]; omega))) (fun w h9 => h9.del b8))
   | (have hn9 : Z2r h k (i + 1) = decide (wx ≤ x.week) := by rw [hcs, g32, g36, g44]; rfl
      exact Z7 ⟨i + 1, by omega⟩ (by dsimp only; omega) (by rw [hn9]; exact (by repeat' first | exact Sub.nil | apply Sub.cons | rfl | (simp [lk]; omega))) (fun w h9 => h9.del b8))
 obtain rfl : i = h.sights.length := by omega
 refine Z8 (Za (Za (Zm (sqt 1 rfl (pur 1 rfl ?_)))))
 refine Z1 rfl ?_ ?_ <;> intro hc2
 refine sqr 5 rfl (pur 2 rfl ?_)
 refine bsl (out := [_]) rfl Z0j zl3 rfl rfl rfl rfl rfl rfl (fun b58 => ?_)
 refine apO (o) rfl Z2j rfl rfl (Z0l (row := [.int .i64 (k : Int)]) rfl) rfl rfl ((by rw [irl]; simp only [List.length_singleton]; omega)) rfl (fun o59 => ?_)
 refine pur 1 rfl (sqr 3 rfl (pur 1 rfl (sp rfl (PE.add rfl rfl (by omega)) rfl (pur 1 rfl ?_))))
 first
   | exact Z9 ⟨⟨k + 1, by omega⟩, o59.cast (by rw [Z0k (p := fun k => Z2r h k h.sights.length) hc2]; simp [Z4])⟩ (by dsimp only; omega) (fun w h => (h.del b58).facts (fun g hg => by simp only [List.mem_cons] at hg ⊢; rcases hg with h8 | h8 <;> simp [h8]))
   | exact Z9 ⟨⟨k + 1, by omega⟩, o.cast (by rw [ZU (p := fun k => Z2r h k h.sights.length) hc2])⟩ (by dsimp only; omega) (fun w h => h.facts (fun g hg => by simp only [List.mem_cons] at hg ⊢; rcases hg with h8 | h8 <;> simp [h8]))
 refine Z2 (sqr 3 rfl (pur 1 rfl (sp rfl (PE.add rfl rfl (by omega)) rfl (pur 1 rfl ?_))))
 first
   | exact Z9 ⟨⟨k + 1, by omega⟩, o59.cast (by rw [Z0k (p := fun k => Z2r h k h.sights.length) hc2]; simp [Z4])⟩ (by dsimp only; omega) (fun w h => (h.del b58).facts (fun g hg => by simp only [List.mem_cons] at hg ⊢; rcases hg with h8 | h8 <;> simp [h8]))
   | exact Z9 ⟨⟨k + 1, by omega⟩, o.cast (by rw [ZU (p := fun k => Z2r h k h.sights.length) hc2])⟩ (by dsimp only; omega) (fun w h => h.facts (fun g hg => by simp only [List.mem_cons] at hg ⊢; rcases hg with h8 | h8 <;> simp [h8]))
 obtain rfl : k = B := by omega
 obtain ⟨ac, cc, he, hcc, hzz⟩ := o.freezeC
 rw [irl] at hcc
 rw [he, irl]
 refine Sy.heap (H' := _) (fun w h9 => hzz h9) ?_
 clear he hzz
 refine Z8 (Za (Za (Zm (sqt 2 rfl (pur 2 rfl (Z5 ?_))))))
 exact rtA rfl rfl rfl ⟨ac, cc, rfl, rfl, rfl⟩ (fun w h9 => (h9.del b1).facts (fun g hg => by simp only [List.mem_cons] at hg ⊢; rcases hg with h8 | h8 <;> simp [h8]))
end Go.Proofs.YthbjpnmclokinaaGreat
namespace Go.Proofs.YthbjpnmclokinaaGreat
set_option linter.unusedSimpArgs false
set_option linter.unusedVariables false
def Stp1 (gs : List Gp) (K sp m c l n : Nat) : Prop := l &&& c = 0 ∧ cnt gs.length l ≤ sp ∧ spr gs (c ||| l) m &&& K = 0 ∧ ((spr gs (c ||| l) m = m ∧ n = cnt gs.length l) ∨ (spr gs (c ||| l) m ≠ m ∧ ∃ k, n = cnt gs.length l + k ∧ Lst (Pl gs K sp (spr gs (c ||| l) m) (c ||| l)) k))
def FwQ (gs : List Gp) (K sp m c : Nat) (x : Int) : Prop := (∃ n : Nat, Lst (Pl gs K sp m c) n ∧ x = n) ∨ ((∀ n, ¬ Pl gs K sp m c n) ∧ x = -1)
structure FwI (gs : List Gp) (K sp m c s : Nat) (x : Int) : Prop where
  lo : ∀ l, l < s → ∀ n, Stp1 gs K sp m c l n → 0 ≤ x ∧ x ≤ n
  is : x = -1 ∨ ∃ l n : Nat, l < s ∧ Stp1 gs K sp m c l n ∧ x = n
theorem FwI.start (gs : List Gp) (K sp m c : Nat) : FwI gs K sp m c 0 (-1) := ⟨fun l hl => absurd hl (Nat.not_lt_zero _), .inl rfl⟩
theorem FwI.skip {gs : List Gp} {K sp m c s : Nat} {x : Int} (h : FwI gs K sp m c s x) (hn : ∀ n, ¬ Stp1 gs K sp m c s n) : FwI gs K sp m c (s + 1) x := by
  refine ⟨fun l hl n hs => ?_, h.is.imp id fun ⟨l, n, h1, h2⟩ => ⟨l, n, by omega, h2⟩⟩
  rcases Nat.lt_or_ge l s with h1 | h1
  · exact h.lo l h1 n hs
  · obtain rfl : l = s := by omega
    exact absurd hs (hn n)
theorem Stp1.unique {gs : List Gp} {K sp m c l n n' : Nat} (h : Stp1 gs K sp m c l n) (h' : Stp1 gs K sp m c l n') : n = n' := by
  obtain ⟨_, _, _, h4⟩ := h
  obtain ⟨_, _, _, h5⟩ := h'
  rcases h4 with ⟨h1, h2⟩ | ⟨h1, k, h2, h3⟩ <;> rcases h5 with ⟨g1, g2⟩ | ⟨g1, k', g2, g3⟩
  · omega
  · exact absurd h1 g1
  · exact absurd g1 h1
  · rw [h2, g2, h3.unique g3]
theorem FwI.take {gs : List Gp} {K sp m c s n : Nat} {x : Int} (h : FwI gs K sp m c s x) (hs : Stp1 gs K sp m c s n) (hx : x < 0 ∨ (n : Int) < x) : FwI gs K sp m c (s + 1) n := by
  refine ⟨fun l hl n' hs' => ?_, .inr ⟨s, n, by omega, hs, rfl⟩⟩
  rcases Nat.lt_or_ge l s with h1 | h1
  · have := h.lo l h1 n' hs'
    omega
  · obtain rfl : l = s := by omega
    rw [hs'.unique hs]; omega
theorem Stp1.pl {gs : List Gp} {K sp m c l n : Nat} (hl : l < 2 ^ gs.length) (h : Stp1 gs K sp m c l n) : Pl gs K sp m c n := by
  obtain ⟨h1, h2, h3, h4⟩ := h
  rcases h4 with ⟨h5, rfl⟩ | ⟨h5, k, rfl, h6⟩
  · exact .stay hl h1 h2 h5 (by rw [h5] at h3; exact h3)
  · exact .go hl h1 h2 h5 h3 h6.1
theorem FwI.done {gs : List Gp} {K sp m c : Nat} {x : Int} (h : FwI gs K sp m c (2 ^ gs.length) x) : FwQ gs K sp m c x := by
  have key : ∀ n, Pl gs K sp m c n → ∃ l n', l < 2 ^ gs.length ∧ n' ≤ n ∧ Stp1 gs K sp m c l n' := fun n hp => by
    obtain ⟨l, h1, h2, h3, h4, h5⟩ := hp.cons_inv
    rcases h5 with ⟨h6, h7⟩ | ⟨h6, k, h7, h8⟩
    · exact ⟨l, n, h1, Nat.le_refl _, h2, h3, h4, .inl ⟨h6, h7⟩⟩
    · obtain ⟨k', h9, h10⟩ := Lst.ex h8
      exact ⟨l, cnt gs.length l + k', h1, by omega, h2, h3, h4, .inr ⟨h6, k', rfl, h9⟩⟩
  rcases h.is with h1 | ⟨l, n, h1, h2, h3⟩
  · refine .inr ⟨fun n hp => ?_, h1⟩
    obtain ⟨l, n', h2, _, h4⟩ := key n hp
    have := h.lo l h2 n' h4
    omega
  · refine .inl ⟨n, ⟨h2.pl h1, fun k hp => ?_⟩, h3⟩
    obtain ⟨l', n', g1, g2, g3⟩ := key k hp
    have := h.lo l' g1 n' g3
    omega
structure CtI (gs : List Gp) (S K s b : Nat) : Prop where
  lo : ∀ l, l < s → Shut gs l S K → b ≤ cnt gs.length l
  is : b = gs.length ∨ ∃ l, l < s ∧ Shut gs l S K ∧ cnt gs.length l = b
  le : b ≤ gs.length
theorem CtI.start (gs : List Gp) (S K : Nat) : CtI gs S K 0 gs.length := ⟨fun l hl => absurd hl (Nat.not_lt_zero _), .inl rfl, Nat.le_refl _⟩
theorem CtI.skip {gs : List Gp} {S K s b : Nat} (h : CtI gs S K s b) (hn : b ≤ cnt gs.length s ∨ ¬ Shut gs s S K) : CtI gs S K (s + 1) b := by
  refine ⟨fun l hl hs => ?_, h.is.imp id fun ⟨l, h1, h2⟩ => ⟨l, by omega, h2⟩, h.le⟩
  rcases Nat.lt_or_ge l s with h1 | h1
  · exact h.lo l h1 hs
  · obtain rfl : l = s := by omega
    exact hn.resolve_right (fun h9 => h9 hs)
theorem CtI.take {gs : List Gp} {S K s b : Nat} (h : CtI gs S K s b) (hb : cnt gs.length s < b) (hs : Shut gs s S K) : CtI gs S K (s + 1) (cnt gs.length s) := by
  refine ⟨fun l hl hs' => ?_, .inr ⟨s, by omega, hs, rfl⟩, by have := h.le; omega⟩
  rcases Nat.lt_or_ge l s with h1 | h1
  · have := h.lo l h1 hs'; omega
  · obtain rfl : l = s := by omega
    exact Nat.le_refl _
theorem CtI.done {gs : List Gp} {S K b : Nat} (ht : Two gs S K) (h : CtI gs S K (2 ^ gs.length) b) : Cut gs S K b := by
  refine ⟨?_, fun n ⟨C, h1, h2, h3⟩ => by rw [← h3]; exact h.lo C h1 h2⟩
  rcases h.is with h1 | h1
  · have hp := Nat.two_pow_pos gs.length
    refine ⟨2 ^ gs.length - 1, by omega, Z7a ht, ?_⟩
    rw [h1]
    unfold cnt
    rw [List.countP_eq_length.2, List.length_range]
    intro k hk
    rw [Nat.testBit_two_pow_sub_one]
    exact decide_eq_true (List.mem_range.1 hk)
  · obtain ⟨l, g1, g2, g3⟩ := h1
    exact ⟨l, g1, g2, g3⟩
open Go
theorem Zgj : cal Tryz.prog 12 = true := by kernel_rfl
theorem ZgC : cal Tryz.prog 13 = true := by kernel_rfl
theorem Zg3 : cal Tryz.prog 16 = true := by kernel_rfl
theorem Zgu : cal Tryz.prog 25 = true := by kernel_rfl
theorem Zg7 : cal Tryz.prog 28 = true := by kernel_rfl
theorem Zgc : cal Tryz.prog 39 = true := by kernel_rfl
theorem ZfD : cal Tryz.prog 40 = true := by kernel_rfl
theorem Zb8 : cal Tryz.prog 75 = true := by kernel_rfl
theorem Lm.grow {l l2 : List Int} {gs : List Gp} {c m : Nat} (h1 : Lm l m) (h2 : Lm l2 (spr gs c m)) : l.length < l2.length ↔ spr gs c m ≠ m := by
  rw [h1.len, h2.len]
  constructor
  · intro h e; rw [e] at h; exact Nat.lt_irrefl _ h
  · intro h
    have hex : ∃ k, (spr gs c m).testBit k = true ∧ m.testBit k = false := Classical.byContradiction fun hn => h (ZM fun k => by
      cases hb : m.testBit k with
      | true => exact Z0g hb
      | false =>
        cases hb2 : (spr gs c m).testBit k with
        | false => rfl
        | true => exact absurd ⟨k, hb2, hb⟩ hn)
    obtain ⟨k, h3, h4⟩ := hex
    unfold cnt
    exact Z1u (fun x _ hx => Z0g hx) ⟨k, List.mem_range.2 (Z02 h2.lt h3), h3, h4⟩
theorem Zcj (s : Nat) : (Zp s).Nodup := by
  unfold Zp
  rw [List.nodup_iff_pairwise_ne, List.pairwise_map]
  exact (List.nodup_iff_pairwise_ne.1 (List.nodup_range.sublist List.filter_sublist)).imp fun h e => h (by omega)
def Ze4 (l : List Int) : List Int := l.map fun x => -x
theorem Zed (l : List Int) (i : Nat) : na (Ze4 l) i = -na l i := by
  unfold na Ze4
  rw [List.getD_eq_getElem?_getD, List.getD_eq_getElem?_getD, List.getElem?_map]
  cases l[i]? <;> simp
theorem Z9v (l : List Int) : (fun i => -na l i) = na (Ze4 l) := by funext i; rw [Zed]
theorem Stp.cg {gs : List Gp} {op op2 : Nat → Bool} {f : Nat → Int} (ho : ∀ i, i < gs.length → op i = op2 i) {u i v : Nat} : Stp gs op f u i v ↔ Stp gs op2 f u i v := by
  constructor
  · rintro ⟨g, h1, h2, h3⟩; exact ⟨g, h1, by rw [← ho i (List.getElem?_eq_some_iff.1 h1).1]; exact h2, h3⟩
  · rintro ⟨g, h1, h2, h3⟩; exact ⟨g, h1, by rw [ho i (List.getElem?_eq_some_iff.1 h1).1]; exact h2, h3⟩
theorem Srch.cg {gs : List Gp} {op op2 : Nat → Bool} {f : Nat → Int} {S K : Nat} {V : List (Nat × Int)} (ho : ∀ i, i < gs.length → op i = op2 i) (h : Srch gs op f S K V) : Srch gs op2 f S K V := ⟨h.nd, h.lt, h.from_, fun q x hx => (h.par q x hx).imp id fun ⟨h1, i, p, y, h2, h3, h4, h5, h6⟩ => ⟨h1, i, p, y, h2, h3, h4, h5, (Stp.cg ho).1 h6⟩⟩
theorem Shn.cg {gs : List Gp} {op op2 : Nat → Bool} {f : Nat → Int} {S K : Nat} {V : List (Nat × Int)} (ho : ∀ i, i < gs.length → op i = op2 i) (h : Shn gs op f S K V) : Shn gs op2 f S K V := ⟨h.s.cg ho, h.no, fun u v i h1 h2 => h.cl u v i h1 ((Stp.cg ho).2 h2)⟩
theorem Way.cg {gs : List Gp} {op op2 : Nat → Bool} {f : Nat → Int} {S K : Nat} (ho : ∀ i, i < gs.length → op i = op2 i) : ∀ {l : List (Nat × Nat)} {u w : Nat}, Way gs op f S K u l w → Way gs op2 f S K u l w
  | [], u, w, h => by cases h; exact .nil _
  | (i, v) :: l, u, w, h => by
    cases h with
    | cons hg ho9 hk hsv hs h =>
      exact .cons hg (by rw [← ho i (List.getElem?_eq_some_iff.1 hg).1]; exact ho9) hk hsv hs (Way.cg ho h)
theorem WayK.cg {gs : List Gp} {op op2 : Nat → Bool} {f : Nat → Int} {S K u w : Nat} {l : List (Nat × Nat)} (ho : ∀ i, i < gs.length → op i = op2 i) (h : WayK gs op f S K u l w) : WayK gs op2 f S K u l w := ⟨h.way.cg ho, h.nd, h.from_, h.to⟩
def WyK (gs : List Gp) (S K : Nat) (p : List Int) : Prop := ∃ (op : Nat → Bool) (f : Nat → Int) (u : Nat) (l : List (Nat × Nat)) (w : Nat), WayK gs op f S K u l w ∧ l ≠ [] ∧ p = l.map fun x => (x.1 : Int)
structure WysP (gs : List Gp) (S K : Nat) (pl : List PL) : Prop where
  rng : ∀ x ∈ (lls pl).flatten, 0 ≤ x ∧ x < (gs.length : Int)
  nd : (lls pl).flatten.Nodup
  wy : ∀ p ∈ lls pl, WyK gs S K p
structure WysI (gs : List Gp) (S K : Nat) (fl : List Int) (pl : List PL) (F : Int) : Prop where
  p : WysP gs S K pl
  len : fl.length = 10
  flw : Flw (na fl) S K gs
  cnt : Z0H (na fl) S gs + pl.length = F
  zr : ∀ x ∈ (lls pl).flatten, na fl x.toNat = 0
theorem Zd4 {f : Nat → Int} {l : List (Nat × Nat)} {i : Nat} (h : i ∈ l.map (·.1)) : Z7T f l i = 0 := by
  obtain ⟨x, hx, rfl⟩ := List.mem_map.1 h
  unfold Z7T
  rw [List.any_eq_true.2 ⟨x, hx, decide_eq_true rfl⟩]; rfl
theorem WysI.more {gs : List Gp} {S K : Nat} {fl fl2 : List Int} {pl : List PL} {F : Int} (h : WysI gs S K fl pl F) (ht : Two gs S K) {u w : Nat} {l : List (Nat × Nat)} (hw : WayK gs (fun i => decide (na fl i ≠ 0)) (na (Ze4 fl)) S K u l w) (hl : l ≠ []) (h2 : fl2.length = 10) (he : ∀ i, na fl2 i = Z7T (na fl) l i) {x : PL} (hx : x.l = l.map fun y => (y.1 : Int)) : WysI gs S K fl2 (pl ++ [x]) F := by
  have hw2 : WayK gs (fun i => decide (na fl i ≠ 0)) (fun i => -na fl i) S K u l w := by rw [Z9v]; exact hw
  obtain ⟨h3, h4⟩ := h.flw.less ht.no ht.ab hw2
  have hfe : na fl2 = Z7T (na fl) l := funext he
  have hfn : (lls (pl ++ [x])).flatten = (lls pl).flatten ++ l.map fun y => (y.1 : Int) := by rw [Z2I, List.flatten_append, List.flatten_singleton, hx]
  have hin : ∀ y ∈ l.map fun y : Nat × Nat => (y.1 : Int), ∃ i : Nat, y = i ∧ i < gs.length ∧ na fl i ≠ 0 ∧ i ∈ l.map (·.1) := fun y hy => by
    obtain ⟨z, hz, rfl⟩ := List.mem_map.1 hy
    obtain ⟨g, _, h5, h6, _⟩ := hw.way.mem z hz
    exact ⟨z.1, rfl, (List.getElem?_eq_some_iff.1 h5).1, of_decide_eq_true h6, List.mem_map.2 ⟨z, hz, rfl⟩⟩
  refine ⟨⟨fun y hy => ?_, ?_, fun p hp => ?_⟩, h2, by rw [hfe]; exact h3, ?_, fun y hy => ?_⟩
  · rw [hfn] at hy
    rcases List.mem_append.1 hy with h5 | h5
    · exact h.p.rng y h5
    · obtain ⟨i, rfl, h6, _⟩ := hin y h5; omega
  · rw [hfn]
    refine List.nodup_append.2 ⟨h.p.nd, ?_, fun a ha b hb e => ?_⟩
    · have h5 := hw.nd
      rw [List.nodup_iff_pairwise_ne, List.pairwise_map] at h5 ⊢
      exact h5.imp fun h6 h7 => h6 (by omega)
    · subst e
      obtain ⟨i, rfl, _, h6, _⟩ := hin a hb
      have h7 := h.zr _ ha
      rw [Int.toNat_natCast] at h7
      exact h6 h7
  · rw [Z2I] at hp
    rcases List.mem_append.1 hp with h5 | h5
    · exact h.p.wy p h5
    · rw [List.mem_singleton.1 h5, hx]
      exact ⟨_, _, u, l, w, hw, hl, rfl⟩
  · rw [hfe, h4, List.length_append, List.length_singleton]
    have := h.cnt; omega
  · rw [he]
    rw [hfn] at hy
    rcases List.mem_append.1 hy with h5 | h5
    · have h6 := h.zr y h5
      unfold Z7T
      rw [h6]
      cases l.any fun x => decide (x.1 = y.toNat) <;> rfl
    · obtain ⟨i, rfl, _, _, h6⟩ := hin y h5
      rw [Int.toNat_natCast]; exact Zd4 h6
theorem WysI.done {gs : List Gp} {S K : Nat} {fl : List Int} {pl : List PL} {F : Int} (h : WysI gs S K fl pl F) {V : List (Nat × Int)} (hs : Shn gs (fun i => decide (na fl i ≠ 0)) (na (Ze4 fl)) S K V) : (pl.length : Int) = F := by
  have h1 := Shn.empty (f := na fl) (by rw [Z9v]; exact hs) h.flw
  have := h.cnt; omega
theorem WysI.few {gs : List Gp} {S K : Nat} {fl : List Int} {pl : List PL} {F : Int} (h : WysI gs S K fl pl F) : (pl.length : Int) ≤ F := by
  have h1 := Z9b h.flw.drc
  have := h.cnt; omega
theorem Z7e : cal Tryz.prog 113 = true := by kernel_rfl
structure MinI (P : Nat → Bool) (k : Nat) (f : Bool) (b : List Int) : Prop where
  no : f = false → (∀ t, t < k → P t = false) ∧ b = []
  yes : f = true → (∃ t, t < k ∧ P t = true ∧ b = Zp t) ∧ ∀ t, t < k → P t = true → ahB (Zp t) b = false
theorem MinI.start (P : Nat → Bool) : MinI P 0 false [] := ⟨fun _ => ⟨fun t h1 => by omega, rfl⟩, (fun h => by cases h)⟩
theorem MinI.take {P : Nat → Bool} {k : Nat} {f : Bool} {b : List Int} (h : MinI P k f b) (h1 : f = false ∨ ahB (Zp k) b = true) (h2 : P k = true) : MinI P (k + 1) true (Zp k) := by
  refine ⟨(fun h => by cases h), fun _ => ⟨⟨k, by omega, h2, rfl⟩, fun t t2 t3 => ?_⟩⟩
  by_cases e : t = k
  · subst e; exact Z5T _
  · cases hf : f with
    | false => rw [(h.no hf).1 t (by omega)] at t3; cases t3
    | true =>
      have h3 := (h.yes hf).2 t (by omega) t3
      have h4 := h1.resolve_left (by rw [hf]; simp)
      exact Z6c (Z4Y h4 h3)
theorem MinI.skip {P : Nat → Bool} {k : Nat} {f : Bool} {b : List Int} (h : MinI P k f b) (h1 : P k = false ∨ (f = true ∧ ahB (Zp k) b = false)) : MinI P (k + 1) f b := by
  refine ⟨fun hf => ⟨fun t t2 => ?_, (h.no hf).2⟩, fun hf => ⟨?_, fun t t2 t3 => ?_⟩⟩
  · by_cases e : t = k
    · subst e
      rcases h1 with h1 | h1
      · exact h1
      · rw [h1.1] at hf; cases hf
    · exact (h.no hf).1 t (by omega)
  · obtain ⟨t, t2, t3⟩ := (h.yes hf).1
    exact ⟨t, by omega, t3⟩
  · by_cases e : t = k
    · subst e
      rcases h1 with h1 | h1
      · rw [h1] at t3; cases t3
      · exact h1.2
    · exact (h.yes hf).2 t (by omega) t3
theorem MinI.short {has : List Int → Bool} {n : Nat} {b : List Int} (hn : n ≤ 10) (h : MinI (fun t => has (Zp t)) (2 ^ n) true b) : ZW has n = some b := by
  obtain ⟨⟨t, t1, t2, rfl⟩, h2⟩ := h.yes rfl
  obtain ⟨y, y1, y2, y3⟩ := Z2n t
  have y4 : ∀ j ∈ y, j < n := fun j hj => Z02 t1 ((y3 j).1 hj).2
  obtain ⟨x, hx⟩ := Z2E (has := has) y2 y4 (by rw [← y1]; exact t2)
  obtain ⟨⟨t', t3, t4⟩, h3, h4⟩ := Z3I hn hx
  have h5 := h4 t t1 t2
  have h6 := h2 t' t3 (by rw [t4]; exact h3)
  rw [t4] at h6
  rw [hx, Z77 h6 h5]
def cP (p : Nat → Bool) (n : Nat) : Nat := (List.range n).countP p
theorem Zdi (p : Nat → Bool) : cP p 0 = 0 := rfl
theorem Z4Q (p : Nat → Bool) (n : Nat) : cP p (n + 1) = cP p n + (bif p n then 1 else 0) := by
  unfold cP
  rw [List.range_succ, List.countP_append, List.countP_singleton]
  cases p n <;> rfl
theorem Zd3 (p : Nat → Bool) (n : Nat) : cP p n ≤ n := by
  have := List.countP_le_length (p := p) (l := List.range n)
  rw [List.length_range] at this; exact this
theorem cP_pos {p : Nat → Bool} {n : Nat} : 0 < cP p n ↔ ∃ t, t < n ∧ p t = true := by
  unfold cP
  rw [List.countP_pos_iff]
  exact ⟨fun ⟨t, h1, h2⟩ => ⟨t, List.mem_range.1 h1, h2⟩, fun ⟨t, h1, h2⟩ => ⟨t, List.mem_range.2 h1, h2⟩⟩
theorem Ze5 {p q : Nat → Bool} {n : Nat} (h : ∀ t, q t = true → p t = true) : cP q n = cP p n ↔ ∀ t, t < n → p t = true → q t = true := by
  constructor
  · intro e t ht hp
    cases hq : q t with
    | true => rfl
    | false =>
      have : cP q n < cP p n := Z1u (fun x _ hx => h x hx) ⟨t, List.mem_range.2 ht, hp, hq⟩
      omega
  · intro h2
    unfold cP
    exact List.countP_congr fun t ht => ⟨h t, h2 t (List.mem_range.1 ht)⟩
def Z0o (f : Nat → Int) (n : Nat) : List Int := (List.range n).map f
theorem ZA (f : Nat → Int) (n : Nat) : (Z0o f n).length = n := by simp [Z0o]
theorem Z39 {f : Nat → Int} {n k : Nat} (h : k < n) : (Z0o f n)[k]? = some (f k) := by unfold Z0o; rw [List.getElem?_map, List.getElem?_range h]; rfl
theorem Z4n {f : Nat → Int} {n k : Nat} (h : k < n) : na (Z0o f n) k = f k := Z5W (Z39 h)
theorem Z6i {f g : Nat → Int} {n : Nat} (h : ∀ k, k < n → f k = g k) : Z0o f n = Z0o g n := List.map_congr_left fun k hk => h k (List.mem_range.1 hk)
theorem Z6N {f g : Nat → Int} {n k : Nat} {v : Int} (hv : g k = v) (h : ∀ j, j < n → j ≠ k → f j = g j) : (Z0o f n).set k v = Z0o g n := by
  refine List.ext_getElem? fun j => ?_
  rw [List.getElem?_set]
  by_cases e : k = j
  · subst e
    rw [if_pos rfl]
    by_cases hk : k < n
    · rw [if_pos (by rw [ZA]; exact hk), Z39 hk, hv]
    · rw [if_neg (by rw [ZA]; exact hk), List.getElem?_eq_none (by rw [ZA]; omega)]
  · rw [if_neg e]
    by_cases hj : j < n
    · rw [Z39 hj, Z39 hj, h j hj (fun e9 => e e9.symm)]
    · rw [List.getElem?_eq_none (by rw [ZA]; omega), List.getElem?_eq_none (by rw [ZA]; omega)]
theorem Z8q (n : Nat) : List.replicate n (0 : Int) = Z0o (fun _ => 0) n := by
  unfold Z0o
  rw [List.map_const', List.length_range]
def Z9X (gs : List Gp) (week : Int) (t k : Nat) : Bool := decide (0 ≤ wkC gs 0 t k) && decide (wkC gs 0 t k ≤ week)
def exB (h : Hse) (t : Nat) : Bool := Z1s h.gaps t h.sights
def erB (h : Hse) (week : Int) (k t : Nat) : Bool := exB h t && Z9X h.gaps week t k
def Z0S (h : Hse) (week : Int) (s i : Nat) : Nat → Int := fun k => (cP (erB h week k) (s + (bif decide (k < i) then 1 else 0)) : Nat)
def Z21 (h : Hse) (week : Int) (s i : Nat) : Nat → Int := fun k => bif decide (0 < cP (erB h week k) (s + (bif decide (k < i) then 1 else 0))) then 1 else 0
theorem Z0K (h : Hse) (week : Int) (s : Nat) : Z0S h week s 0 = (fun k => ((cP (erB h week k) s : Nat) : Int)) ∧ Z21 h week s 0 = fun k => bif decide (0 < cP (erB h week k) s) then 1 else 0 := by
  refine ⟨funext fun k => ?_, funext fun k => ?_⟩
  · unfold Z0S; rw [decide_eq_false (Nat.not_lt_zero k)]; rfl
  · unfold Z21; rw [decide_eq_false (Nat.not_lt_zero k)]; rfl
theorem idx_all {h : Hse} {week : Int} {s B : Nat} : Z0o (Z0S h week s B) B = Z0o (Z0S h week (s + 1) 0) B ∧ Z0o (Z21 h week s B) B = Z0o (Z21 h week (s + 1) 0) B := by
  refine ⟨Z6i fun k hk => ?_, Z6i fun k hk => ?_⟩
  · unfold Z0S; rw [decide_eq_true hk, decide_eq_false (Nat.not_lt_zero k)]; rfl
  · unfold Z21; rw [decide_eq_true hk, decide_eq_false (Nat.not_lt_zero k)]; rfl
theorem Zbl {h : Hse} {week : Int} {s : Nat} (he : exB h s = false) : Z0S h week (s + 1) 0 = Z0S h week s 0 ∧ Z21 h week (s + 1) 0 = Z21 h week s 0 := by
  have e : ∀ k, cP (erB h week k) (s + 1) = cP (erB h week k) s := fun k => by rw [Z4Q]; unfold erB; rw [he]; rfl
  rw [(Z0K h week (s + 1)).1, (Z0K h week s).1, (Z0K h week (s + 1)).2, (Z0K h week s).2]
  exact ⟨funext fun k => by rw [e k], funext fun k => by rw [e k]⟩
theorem Z0i {h : Hse} {week : Int} {s i : Nat} (he : Z9X h.gaps week s i = false) : Z0S h week s (i + 1) = Z0S h week s i ∧ Z21 h week s (i + 1) = Z21 h week s i := by
  have e : ∀ k, cP (erB h week k) (s + (bif decide (k < i + 1) then 1 else 0)) = cP (erB h week k) (s + (bif decide (k < i) then 1 else 0)) := fun k => by
    rcases Nat.lt_trichotomy k i with h1 | h1 | h1
    · rw [decide_eq_true h1, decide_eq_true (show k < i + 1 by omega)]
    · subst h1
      rw [decide_eq_true (Nat.lt_succ_self k), decide_eq_false (Nat.lt_irrefl k), cond_true, cond_false, Z4Q]
      unfold erB; rw [he, Bool.and_false]; rfl
    · rw [decide_eq_false (show ¬ k < i by omega), decide_eq_false (show ¬ k < i + 1 by omega)]
  exact ⟨funext fun k => by unfold Z0S; rw [e k], funext fun k => by unfold Z21; rw [e k]⟩
theorem Zbn {h : Hse} {week : Int} {s i B : Nat} (hx : exB h s = true) (he : Z9X h.gaps week s i = true) : (Z0o (Z0S h week s i) B).set i (Z0S h week s i i + 1) = Z0o (Z0S h week s (i + 1)) B ∧ (Z0o (Z21 h week s i) B).set i 1 = Z0o (Z21 h week s (i + 1)) B := by
  have e1 : cP (erB h week i) (s + 1) = cP (erB h week i) s + 1 := by rw [Z4Q]; unfold erB; rw [hx, he]; rfl
  have e2 : ∀ j, j ≠ i → decide (j < i) = decide (j < i + 1) := fun j hj => decide_eq_decide.2 (by omega)
  refine ⟨Z6N ?_ fun j _ hj => ?_, Z6N ?_ fun j _ hj => ?_⟩
  · unfold Z0S
    rw [decide_eq_true (Nat.lt_succ_self i), decide_eq_false (Nat.lt_irrefl i), cond_true, cond_false, e1]; rfl
  · unfold Z0S; rw [e2 j hj]
  · unfold Z21
    rw [decide_eq_true (Nat.lt_succ_self i), cond_true, e1, decide_eq_true (Nat.succ_pos _)]; rfl
  · unfold Z21; rw [e2 j hj]
theorem Z8f {h : Hse} {week : Int} {s i k : Nat} : 0 ≤ Z0S h week s i k ∧ Z0S h week s i k ≤ (s : Int) + 1 := by
  unfold Z0S
  have := Zd3 (erB h week k) (s + (bif decide (k < i) then 1 else 0))
  have h1 : (bif decide (k < i) then 1 else 0 : Nat) ≤ 1 := by cases decide (k < i) <;> decide
  omega
def Z2L (h : Hse) (week : Int) (k : Nat) : Bool := decide (0 < cP (exB h) (2 ^ h.bins.toNat)) && decide (cP (erB h week k) (2 ^ h.bins.toNat) = cP (exB h) (2 ^ h.bins.toNat))
def Z33 (h : Hse) (week : Int) (k : Nat) : Bool := decide (0 < cP (erB h week k) (2 ^ h.bins.toNat))
theorem Z7C {h : Hse} {week : Int} {k : Nat} : Z33 h week k = decide (Z21 h week (2 ^ h.bins.toNat) 0 k = 1) := by
  have e : Z21 h week (2 ^ h.bins.toNat) 0 k = bif decide (0 < cP (erB h week k) (2 ^ h.bins.toNat)) then 1 else 0 := by rw [(Z0K h week _).2]
  unfold Z33
  refine decide_eq_decide.2 ?_
  rw [e]
  exact ⟨fun h1 => by rw [decide_eq_true h1]; rfl, fun h1 => Classical.byContradiction fun h2 => by rw [decide_eq_false h2] at h1; cases h1⟩
theorem Z8G {h : Hse} {week : Int} {k : Nat} : Z2L h week k = (decide (0 < cP (exB h) (2 ^ h.bins.toNat)) && decide (Z0S h week (2 ^ h.bins.toNat) 0 k = ((cP (exB h) (2 ^ h.bins.toNat) : Nat) : Int))) := by
  rw [(Z0K h week _).1]
  unfold Z2L
  congr 1
  exact decide_eq_decide.2 (by dsimp only; omega)
theorem Z6u {h : Hse} (hk : h.ok) {week : Int} (hw : 0 ≤ week ∧ week ≤ 9) {t k : Nat} (ht : t < 2 ^ h.bins.toNat) : Z9X h.gaps week t k = (lv h.gaps 0 t week.toNat).testBit k := by
  have h7 : t < 2 ^ 7 := ZdN (by have := hk.bins; omega) ht
  have h1 := Z7K (gs := h.gaps) (cl := 0) (m := t) (k := k) hk.wth h7 (t := week.toNat) (by unfold far; omega)
  have h2 := Z6k h.gaps 0 t k
  rw [Bool.eq_iff_iff, ← h1]
  unfold Z9X wkC
  rw [Bool.and_eq_true, decide_eq_true_eq, decide_eq_true_eq]
  by_cases hf : far ≤ wk h.gaps 0 t k
  · rw [decide_eq_true hf, cond_true]
    unfold far at hf
    omega
  · rw [decide_eq_false hf, cond_false]
    omega
theorem Zds {h : Hse} (hk : h.ok) {week : Int} (hw : 0 ≤ week ∧ week ≤ 9) (ha : h.agr h.sights = true) {k : Nat} : Z2L h week k = h.surB week k := by
  have h1 := ZaR hk hk.sights (k := k) hw
  obtain ⟨m, m1, m2⟩ := (Z0m hk hk.sights).1 ha
  have h2 : 0 < cP (exB h) (2 ^ h.bins.toNat) := cP_pos.2 ⟨m, m1, m2⟩
  have h3 := Ze5 (p := exB h) (q := erB h week k) (n := 2 ^ h.bins.toNat) (fun t ht => (Bool.and_eq_true _ _ ▸ (show (exB h t && Z9X h.gaps week t k) = true from ht)).1)
  unfold Z2L Hse.surB
  rw [decide_eq_true h2, Bool.true_and, Bool.eq_iff_iff, decide_eq_true_eq, h3, Bool.not_eq_true', h1]
  refine forall_congr' fun t => ?_
  constructor
  · intro h4 h5 h6
    have h7 := h4 h5 h6
    unfold erB at h7
    rw [Bool.and_eq_true, Z6u hk hw h5] at h7
    exact h7.2
  · intro h4 h5 h6
    unfold erB
    rw [h6, Bool.true_and, Z6u hk hw h5]
    exact h4 h5 h6
theorem Zd9 {h : Hse} (hk : h.ok) {week : Int} (hw : 0 ≤ week ∧ week ≤ 9) (ha : h.agr h.sights = true) {k : Nat} : Z33 h week k = h.perB week k := by
  have h1 := ZaX hk hk.sights ha (k := k) (week := week)
  have h7 : msk (h.clr h.sights (-1) 0) < 2 ^ 7 := ZdN (by have := hk.bins; omega) (Z5z hk)
  have h2 := Z7K (gs := h.gaps) (cl := 0) (m := msk (h.clr h.sights (-1) 0)) (k := k) hk.wth h7 (t := week.toNat) (by unfold far; omega)
  rw [show ((week.toNat : Nat) : Int) = week by omega] at h2
  unfold Z33 Hse.perB
  rw [Bool.eq_iff_iff, decide_eq_true_eq, decide_eq_true_eq, h2, h1, cP_pos]
  refine exists_congr fun t => ?_
  constructor
  · rintro ⟨h3, h4⟩
    unfold erB at h4
    rw [Bool.and_eq_true, Z6u hk hw h3] at h4
    exact ⟨h3, h4.1, h4.2⟩
  · rintro ⟨h3, h4, h5⟩
    refine ⟨h3, ?_⟩
    unfold erB
    rw [Z6u hk hw h3, Bool.and_eq_true]
    exact ⟨h4, h5⟩
theorem Zbm {p q : Nat → Bool} {n : Nat} (h : ∀ k, k < n → p k = q k) : Z15 p n = Z15 q n := by
  unfold Z15
  rw [List.filter_congr fun k hk => h k (List.mem_range.1 hk)]
theorem Z41 {s B : Nat} (hB : B ≤ 10) (hs : s < 2 ^ B) : ZS (B : Int) (Zp s) = 0 := Z3i (fun x hx => by obtain ⟨k, _, h2, rfl⟩ := memL_bit.1 hx; have := Z02 hs h2; omega) (Zcj s)
theorem Z6P {a b : List Int} (hl : a.length = b.length) : ∀ {i : Nat}, a.take i = b.take i → Z27 a b = Z27 (a.drop i) (b.drop i)
  | 0, _ => rfl
  | i + 1, h => by
    have h1 : a.take i = b.take i := by
      have := congrArg (List.take i) h
      rw [List.take_take, List.take_take, show min i (i + 1) = i by omega] at this; exact this
    rw [Z6P hl h1]
    rcases Nat.lt_or_ge i a.length with h2 | h2
    · have h3 : i < b.length := by omega
      rw [List.drop_eq_getElem_cons h2, List.drop_eq_getElem_cons h3]
      have h4 : a[i] = b[i] := by
        have h8 := congrArg (fun z => z[i]?) h
        simp only [List.getElem?_take, show i < i + 1 by omega, if_true] at h8
        rw [List.getElem?_eq_getElem h2, List.getElem?_eq_getElem h3] at h8
        exact Option.some.inj h8
      show Z27 _ _ = _
      rw [Z27, h4, decide_eq_false (by simp)]; rfl
    · rw [List.drop_eq_nil_of_le h2, List.drop_eq_nil_of_le (show a.length ≤ i + 1 by omega)]; unfold Z27; rfl
theorem Zek {a b : List Int} {i : Nat} {x y : Int} (hl : a.length = b.length) (h : a.take i = b.take i) (hx : a[i]? = some x) (hy : b[i]? = some y) (hn : x ≠ y) : Z27 a b = decide (x < y) := by
  obtain ⟨h2, e2⟩ := List.getElem?_eq_some_iff.1 hx
  obtain ⟨h3, e3⟩ := List.getElem?_eq_some_iff.1 hy
  rw [Z6P hl h, List.drop_eq_getElem_cons h2, List.drop_eq_getElem_cons h3, e2, e3, Z27, decide_eq_true hn]; rfl
theorem Zb2 (a : List Int) : Z27 a a = false := by
  induction a with
  | nil => rfl
  | cons x a ih => unfold Z27; rw [decide_eq_false (by simp)]; exact ih
theorem Z9G {a b : List Int} {i : Nat} {x : Int} (h : a.take i = b.take i) (hx : a[i]? = some x) (hy : b[i]? = some x) : a.take (i + 1) = b.take (i + 1) := by
  rw [List.take_add_one, List.take_add_one, h, hx, hy]
theorem MinI.cg {P Q : Nat → Bool} {k : Nat} {f : Bool} {b : List Int} (h : MinI P k f b) (e : ∀ t, t < k → P t = Q t) : MinI Q k f b := by
  refine ⟨fun hf => ⟨fun t ht => by rw [← e t ht]; exact (h.no hf).1 t ht, (h.no hf).2⟩, fun hf => ?_⟩
  obtain ⟨⟨t, t1, t2, t3⟩, h2⟩ := h.yes hf
  exact ⟨⟨t, t1, by rw [← e t t1]; exact t2, t3⟩, fun t ht h3 => h2 t ht (by rw [e t ht]; exact h3)⟩
theorem Zb4 (h : Hse) (week : Int) (B : Nat) : Z0o (Z0S h week 0 0) B = List.replicate B 0 ∧ Z0o (Z21 h week 0 0) B = List.replicate B 0 := by
  rw [Z8q, (Z0K h week 0).1, (Z0K h week 0).2]
  exact ⟨rfl, Z6i fun k _ => by rw [Zdi]; rfl⟩
theorem Zbr {gs : List Gp} {week y : Int} {t k : Nat} (hy : y = wkC gs 0 t k) : (0 ≤ y → y ≤ week → Z9X gs week t k = true) ∧ (¬ 0 ≤ y → Z9X gs week t k = false) ∧ (¬ y ≤ week → Z9X gs week t k = false) := by
  unfold Z9X
  rw [← hy]
  refine ⟨fun h1 h2 => by rw [decide_eq_true h1, decide_eq_true h2]; rfl, fun h1 => by rw [decide_eq_false h1]; rfl, fun h1 => by rw [decide_eq_false h1, Bool.and_false]⟩
theorem cP_ex {h : Hse} {s : Nat} : (exB h s = true → cP (exB h) (s + 1) = cP (exB h) s + 1) ∧ (exB h s = false → cP (exB h) (s + 1) = cP (exB h) s) := by
  rw [Z4Q]
  exact ⟨fun e => by rw [e]; rfl, fun e => by rw [e]; rfl⟩
theorem Z3l (xs ys : List Int) (hx : xs.length ≤ 100) (hy : ys.length ≤ 100) (a1 a2 : Option Addr) (c1 c2 : Nat) (H : Zc) (R : Z6) [hA1 : MemRows a1 1 (Z4 xs) R] [hA2 : MemRows a2 1 (Z4 ys) R] :
    FnV Tryz.prog 113 [.slice a1 xs.length c1, .slice a2 ys.length c2] H R (.bool (ahB xs ys)) := by
 refine Zi Tryz.func113 rfl Tryz.ntmps113 rfl ?_
 refine sqt 1 rfl (pur 1 rfl (Z0 (sqt 5 rfl (pur 1 rfl (sp rfl (PE.lenSl Zx rfl) rfl (pur 1 rfl (sp rfl (PE.lenSl Zx rfl) rfl (pur 1 rfl ?_))))))))
 refine Z1 rfl ?_ ?_ <;> intro hc0 <;> try simp only [cS] at hc0
 have hres : ahB xs ys = decide (xs.length < ys.length) := by unfold ahB; rw [dT (show xs.length ≠ ys.length by omega)]; rfl
 refine sqt 6 rfl (pur 1 rfl (sp rfl (PE.lenSl Zx rfl) rfl (pur 1 rfl (sp rfl (PE.lenSl Zx rfl) rfl (pur 2 rfl (Z5 ?_))))))
 exact rtA rfl rfl rfl ⟨by simp only [ZE]; rw [hres]; congr 1; exact decide_eq_decide.2 (by omega), rfl, rfl⟩ drp
 have hle : xs.length = ys.length := by omega
 have hre : ahB xs ys = Z27 xs ys := by unfold ahB; rw [dF (by omega)]; rfl
 refine Z2 (Z0 (sqt 1 rfl (pur 1 rfl (Z3 ?_))))
 refine Zd (ι := {i : Nat // i ≤ xs.length ∧ xs.take i = ys.take i}) (fun i => ⟨[(0, .slice a1 xs.length c1), (1, .slice a2 ys.length c2), (5, .int .i64 i.1)], H, R⟩) (fun i => xs.length - i.1) ⟨0, by omega, rfl⟩ ?_ (fun i => ?_)
 exact Zk idH
 obtain ⟨i, hi, hsm⟩ := i
 dsimp only at hi hsm ⊢
 refine Z0 (sqt 4 rfl (pur 2 rfl (sp rfl (PE.lenSl Zx rfl) rfl (pur 1 rfl ?_))))
 refine Z1 rfl ?_ ?_ <;> intro hc1 <;> try simp only [cS] at hc1
 obtain ⟨x, hxx⟩ : ∃ x, xs[i]? = some x := ⟨_, List.getElem?_eq_getElem (by omega)⟩
 obtain ⟨y, hyy⟩ : ∃ y, ys[i]? = some y := ⟨_, List.getElem?_eq_getElem (by omega)⟩
 refine Zg (a := a1) (sz := 1) (rows := Z4 xs) (ne0 (by rw [irl]; omega)) (fun ba bo he => ?_)
 subst he
 refine Zg (a := a2) (sz := 1) (rows := Z4 ys) (ne0 (by rw [irl]; omega)) (fun bb ob he => ?_)
 subst he
 refine Z2 (Z0 (Z3 (Z0 ?_)))
 refine Zl [0, 0, 3, 7, 0, 0, 48, 112, 255] (tks 0 3 (.ld 3 (tks 4 3 (.ld 7 (.tk 8 .done))))) Zz (by kernel_rfl) ?_
 refine Zr 2 rfl (tk rfl (PE.indexAddr Z0a rfl rfl (by omega) (by omega)) rfl (ld rfl rfl (lf0 (x := .int .i64 x) sc3 (ZB hxx) rfl) rfl (Zr 2 rfl (tk rfl (PE.indexAddr Z0a rfl rfl (by omega) (by omega)) rfl (ld rfl rfl (lf0 (x := .int .i64 y) sc3 (ZB hyy) rfl) rfl (Zr 1 rfl ?_))))))
 refine Z1 rfl ?_ ?_ <;> intro hc2 <;> try simp only [cS] at hc2
 have hres : ahB xs ys = decide (x < y) := by rw [hre]; exact Zek hle hsm hxx hyy (by omega)
 refine Z0 ?_
 refine Zl [0, 0, 3, 7, 0, 0, 48, 112, 255, 511] (tks 0 3 (.ld 3 (tks 4 3 (.ld 7 (.tk 8 (.tk 9 .done)))))) Zz (by kernel_rfl) ?_
 refine Zr 2 rfl (tk rfl (PE.indexAddr Z0a rfl rfl (by omega) (by omega)) rfl (ld rfl rfl (lf0 (x := .int .i64 x) sc3 (ZB hxx) rfl) rfl (Zr 2 rfl (tk rfl (PE.indexAddr Z0a rfl rfl (by omega) (by omega)) rfl (ld rfl rfl (lf0 (x := .int .i64 y) sc3 (ZB hyy) rfl) rfl (Zr 2 rfl (Z5 ?_)))))))
 exact rtA rfl rfl rfl ⟨by simp only [ZE]; rw [hres], rfl, rfl⟩ drp
 obtain rfl : x = y := by omega
 refine Z2 (sqr 3 rfl (pur 1 rfl (sp rfl (PE.add rfl rfl (by omega)) rfl (pur 1 rfl ?_))))
 exact Zb ⟨i + 1, by omega, Z9G hsm hxx hyy⟩ idH
 obtain rfl : i = xs.length := by omega
 have hsame : xs = ys := by rw [List.take_length] at hsm; rw [hle, List.take_length] at hsm; exact hsm
 have hres : ahB xs ys = false := by rw [hre, ← hsame]; exact Zb2 xs
 refine Z8 (Za (Za (Zm (sqt 1 rfl (pur 1 rfl (Z5 ?_))))))
 exact rtA rfl rfl rfl ⟨by simp only [ZE]; rw [hres], rfl, rfl⟩ drp
set_option maxHeartbeats 800000 in
theorem Z7y (h : Hse) (ag as_ : Option Addr) (cg cs : Nat) (hok : h.ok) (week : Int) (H : Zc) (R : Z6) [hG : MemRows ag 2 (Zf h.gaps) R] [hS : MemRows as_ 3 (Ze h.sights) R] :
    Fn Tryz.prog 46 [h.v (h.sg ag cg) (h.ss as_ cs), .int .i64 week] H R (fun v H' R' => ∃ (f : Bool) (bs : List Int) (ab a1 a2 : Option Addr) (cb c1 c2 : Nat), MinI (exB h) (2 ^ h.bins.toNat) f bs ∧ v = .tuple #[.slice ab bs.length cb, .slice a1 (Z15 (Z2L h week) h.bins.toNat).length c1, .slice a2 (Z15 (Z33 h week) h.bins.toNat).length c2, .bool f] ∧ H' = H ∧ R' = RowsA a2 1 (Z4 (Z15 (Z33 h week) h.bins.toNat)) :: RowsA a1 1 (Z4 (Z15 (Z2L h week) h.bins.toNat)) :: RowsA ab 1 (Z4 bs) :: R) := by
 refine Zi Tryz.func46 rfl Tryz.ntmps46 rfl ?_
 refine sqt 5 rfl ?_
 have hbn := hok.bins
 have hgl := hok.gl
 obtain ⟨B, hB⟩ : ∃ B : Nat, h.bins = B := ⟨h.bins.toNat, by omega⟩
 have hBt : h.bins.toNat = B := by omega
 have hz := Zb4 h week B
 have hp7 := Nat.pow_le_pow_right (show 0 < 2 by decide) (show B ≤ 7 by omega)
 have h7 : (2 : Nat) ^ 7 = 128 := rfl
 refine bx rfl rfl rfl (fun b2 => pur 4 rfl (sqt 4 rfl (sp rfl (PE.fA Z0n rfl) rfl (spL rfl rfl (lh sc3 rfl rfl) rfl ?_))))
 rw [hB]
 refine mkS rfl Z2j zl3 rfl rfl (Nat.le_refl _) ⟨by omega, by omega⟩ rfl (fun b18 => ?_)
 rw [Zdd, ← hz.1]
 refine pur 1 rfl (sqt 4 rfl (sp rfl (PE.fA Z0n rfl) rfl (spL rfl rfl (lh sc3 rfl rfl) rfl ?_)))
 rw [hB]
 refine mkS rfl Z2j zl3 rfl rfl (Nat.le_refl _) ⟨by omega, by omega⟩ rfl (fun b21 => ?_)
 rw [Zdd, ← hz.2]
 refine pur 1 rfl (sqt 1 rfl (pur 1 rfl (Z0 (sqt 1 rfl (pur 1 rfl (Z3 ?_))))))
 refine Sy.heap (fun w h9 => St.norows (sz := 1) (St.norows (sz := 1) h9)) ?_
 refine Zd (ι := {y : Nat × Bool × List Int × Option Addr × Nat // y.1 ≤ 2 ^ B ∧ MinI (exB h) y.1 y.2.1 y.2.2.1 ∧ y.2.2.1.length ≤ 10}) (fun y => ⟨[(1, .int .i64 week), (2, .pointer (some ⟨b2, 0, none⟩)), (4, .slice y.1.2.2.2.1 y.1.2.2.1.length y.1.2.2.2.2), (5, .slice none 0 0), (6, .slice none 0 0), (7, .bool y.1.2.1), (8, .slice (some ⟨b18, 0, none⟩) B B), (9, .slice (some ⟨b21, 0, none⟩) B B), (10, .int .i64 ((cP (exB h) y.1.1 : Nat) : Int)), (11, .int .i64 ((y.1.1 : Nat) : Int))], (b21, cel 3 (Zq (Z0o (Z21 h week y.1.1 0) B))) :: (b18, cel 3 (Zq (Z0o (Z0S h week y.1.1 0) B))) :: (b2, cel 35 (htl h (h.sg ag cg) (h.ss as_ cs))) :: H, RowsA y.1.2.2.2.1 1 (Z4 y.1.2.2.1) :: RowsA none 1 (Z4 []) :: R⟩) (fun y => 2 ^ B - y.1.1) ⟨(0, false, [], none, 0), Nat.zero_le _, MinI.start _, by simp⟩ ?_ (fun y => ?_)
 exact Zk idH
 obtain ⟨⟨s, f, bs, ab, cb⟩, hs, hmi, hbl⟩ := y
 dsimp only at hs hmi hbl ⊢
 refine Z0 (sqt 5 rfl (pur 1 rfl (sp rfl (PE.fA Z0n rfl) rfl (spL rfl rfl (lh sc3 rfl rfl) rfl ?_))))
 rw [hB]
 refine clV rfl Z8p rfl rfl (Z3N B (by omega) _ _) ?_
 refine pur 1 rfl ?_
 refine Z1 rfl ?_ ?_ <;> intro hc0 <;> try simp only [cS] at hc0
 have hsl : s < 2 ^ B := by omega
 have hs10 : s < 2 ^ 10 := Nat.lt_of_lt_of_le hsl (Nat.pow_le_pow_right (by decide) (by omega))
 have hmm := Z2e hs10
 have hml := Z56 s
 have hfr : ZS h.bins (Zp s) = 0 := by rw [hB]; exact Z41 (by omega) hsl
 have hcl := Zd3 (exB h) s
 refine Z2 (Z0 (Z3 (sqt 3 rfl (pur 1 rfl ?_))))
 refine cl rfl Zb8 rfl rfl (Z4A s hs10 _ _) ?_
 rintro _ _ R1 ⟨o30, rfl, rfl, hR1⟩
 obtain rfl := hR1.symm
 clear hR1
 obtain ⟨al, cl9, he, hcl9, hzz⟩ := o30.freezeC
 rw [irl] at hcl9
 rw [he, irl]
 refine Sy.heap (H' := _) (fun w h9 => hzz h9) ?_
 clear he hzz
 refine pur 1 rfl (Z0 (sqt 4 rfl (spL rfl rfl (lhA (htl h (h.sg ag cg) (h.ss as_ cs)) Z57 rfl rfl rfl) rfl (pur 1 rfl ?_))))
 refine clV rfl Zgc rfl rfl (Z5Y h ag as_ cg cs hok (Zp s) al cl9 hfr _ _) ?_
 refine pur 1 rfl ?_
 refine Z1 rfl ?_ ?_ <;> intro hc1
 rw [hmm] at hc1
 have hex : exB h s = false := by unfold exB; rw [← Bool.not_eq_true']; exact hc1
 refine Z8 (Za (Zm (sqr 3 rfl (pur 1 rfl (sp rfl (PE.add rfl rfl (by omega)) rfl (pur 1 rfl ?_))))))
 exact Z7 ⟨(s + 1, f, bs, ab, cb), by dsimp only; omega, hmi.skip (.inl hex), hbl⟩ (by dsimp only; omega) (by dsimp only; rw [cP_ex.2 hex]; exact (by repeat' first | exact Sub.nil | apply Sub.cons | rfl | (simp [lk]; omega))) (fun w h9 => by dsimp only; rw [(Zbl hex).1, (Zbl hex).2]; exact h9.ftail)
 rw [hmm] at hc1
 have hex : exB h s = true := by unfold exB; rw [← Bool.not_eq_false']; exact hc1
 have hce := cP_ex.1 hex
 refine Z2 (Z0 (sqt 7 rfl (pur 3 rfl ?_)))
 refine Zo 37 rfl ?_ ?_ <;> intro g37
 have hf : f = false := by rw [← Bool.not_eq_true']; exact g37
 refine pur 4 rfl ?_
 refine Z23 (ι := {y : Bool × List Int × Option Addr × Nat // MinI (exB h) (s + 1) y.1 y.2.1 ∧ y.2.1.length ≤ 10}) (fun y => ⟨[(1, .int .i64 week), (2, .pointer (some ⟨b2, 0, none⟩)), (4, .slice y.1.2.2.1 y.1.2.1.length y.1.2.2.2), (5, .slice none 0 0), (6, .slice none 0 0), (7, .bool y.1.1), (8, .slice (some ⟨b18, 0, none⟩) B B), (9, .slice (some ⟨b21, 0, none⟩) B B), (10, .int .i64 ((cP (exB h) s : Nat) : Int)), (11, .int .i64 ((s : Nat) : Int)), (12, .slice al (Zp s).length cl9)], (b21, cel 3 (Zq (Z0o (Z21 h week s 0) B))) :: (b18, cel 3 (Zq (Z0o (Z0S h week s 0) B))) :: (b2, cel 35 (htl h (h.sg ag cg) (h.ss as_ cs))) :: H, RowsA y.1.2.2.1 1 (Z4 y.1.2.1) :: RowsA al 1 (Z4 (Zp s)) :: RowsA none 1 (Z4 []) :: R⟩) ?_ ?_
 refine ZC rfl ?_
 refine sqr 3 rfl (pur 3 rfl ?_)
 exact ZF ⟨(true, (Zp s), al, cl9), hmi.take (.inl hf) hex, hml⟩ (fun w h9 => h9.facts (fun g hg => by simp only [List.mem_cons] at hg ⊢; rcases hg with h8 | h8 | h8 | h8 <;> simp [h8]))
 rintro ⟨⟨f2, b2l, ab2, cb2⟩, hmi2, hbl2⟩
 dsimp only at hmi2 hbl2 ⊢
 refine sqt 3 rfl (pur 1 rfl (sp rfl (PE.add rfl rfl (by omega)) rfl ?_))
 rw [show ((cP (exB h) s : Nat) : Int) + 1 = ((cP (exB h) (s + 1) : Nat) : Int) by rw [hce]; omega]
 refine pur 1 rfl (sqt 4 rfl (spL rfl rfl (lhA (htl h (h.sg ag cg) (h.ss as_ cs)) Z57 rfl rfl rfl) rfl (pur 1 rfl ?_)))
 refine cl rfl Z9J rfl rfl (Z2p h ag as_ cg cs hok (Zp s) [] al none cl9 0 hfr (fun x hx => by cases hx) (by simp) _ _) ?_
 rintro _ _ R1 ⟨wa, wc, rfl, rfl, hR1⟩
 obtain rfl := hR1.symm
 clear hR1
 obtain ⟨W, hW⟩ : ∃ W, W = wkL h.gaps (msk []) (msk (Zp s)) h.bins.toNat := ⟨_, rfl⟩
 have hWl : W.length = B := by rw [hW, Z1j, hBt]
 rw [← hW, hBt]
 rw [hmm] at hW
 refine pur 1 rfl (sqt 1 rfl (pur 1 rfl (Z3 ?_)))
 refine Zd (ι := {i : Nat // i ≤ B}) (fun i => ⟨[(1, .int .i64 week), (2, .pointer (some ⟨b2, 0, none⟩)), (4, .slice ab2 b2l.length cb2), (5, .slice none 0 0), (6, .slice none 0 0), (7, .bool f2), (8, .slice (some ⟨b18, 0, none⟩) B B), (9, .slice (some ⟨b21, 0, none⟩) B B), (10, .int .i64 ((cP (exB h) (s + 1) : Nat) : Int)), (11, .int .i64 ((s : Nat) : Int)), (13, .slice wa B wc), (14, .int .i64 ((i.1 : Nat) : Int))], (b21, cel 3 (Zq (Z0o (Z21 h week s i.1) B))) :: (b18, cel 3 (Zq (Z0o (Z0S h week s i.1) B))) :: (b2, cel 35 (htl h (h.sg ag cg) (h.ss as_ cs))) :: H, RowsA wa 1 (Z4 W) :: RowsA ab2 1 (Z4 b2l) :: RowsA none 1 (Z4 []) :: R⟩) (fun i => B - i.1) ⟨0, Nat.zero_le _⟩ ?_ (fun i => ?_)
 exact Zk (fun w h9 => h9.facts (fun g hg => by simp only [List.mem_cons] at hg ⊢; rcases hg with h8 | h8 | h8 | h8 <;> simp [h8]))
 obtain ⟨i, hi⟩ := i
 dsimp only at hi ⊢
 refine Z0 (sqt 4 rfl (pur 1 rfl (sp rfl (PE.fA Z0n rfl) rfl (spL rfl rfl (lh sc3 rfl rfl) rfl ?_))))
 rw [hB]
 refine pur 1 rfl ?_
 refine Z1 rfl ?_ ?_ <;> intro hc3 <;> try simp only [cS] at hc3
 obtain ⟨y, hy⟩ : ∃ y, W[i]? = some y := ⟨_, List.getElem?_eq_getElem (by omega)⟩
 have hyc : y = wkC h.gaps 0 s i := by rw [← Z5W hy, hW]; exact Z5e (by omega)
 obtain ⟨r1, r2, r3⟩ := Zbr (week := week) hyc
 have hal := Z8f (h := h) (week := week) (s := s) (i := i) (k := i)
 have hla : na (Z0o (Z0S h week s i) B) i = Z0S h week s i i := Z4n (by omega)
 refine Zg (a := wa) (sz := 1) (rows := Z4 W) (ne0 (by rw [irl]; omega)) (fun bw ow he => ?_)
 subst he
 refine Z2 (Z0 (Z3 (sqt 13 rfl (pur 2 rfl (sp rfl (PE.indexAddr Z0a rfl rfl (by omega) (by omega)) rfl (spL rfl rfl (lf0 sc3 (ZB hy) rfl) rfl (pur 2 rfl ?_)))))))
 refine Zo 59 rfl ?_ ?_ <;> intro g59
 try simp only [cS] at g59
 refine pur 2 rfl ?_
 refine spG rfl rfl rfl rfl (PE.indexAddr Z0a rfl rfl (by omega) (by omega)) rfl ?_
 refine Z0I rfl rfl rfl rfl rfl (lf0 sc3 (ZB hy) rfl) rfl (pur 3 rfl ?_)
 refine Z1 rfl ?_ ?_ <;> intro hc4 <;> try simp only [cS] at hc4
 have hr := r1 (by omega) (by omega)
 have hio := Zbn (B := B) hex hr
 refine sqt 9 rfl (pur 4 rfl (sp rfl (PE.indexAddr Z0a rfl rfl (by omega) (by omega)) rfl (spL rfl rfl (lh sc3 rfl (Z0h (w := Z0o (Z0S h week s i) B) (k := i) (by rw [ZA]; omega) (by show 0 + ((i : Nat) : Int).toNat * 1 = i; omega))) rfl ?_)))
 rw [hla]
 refine sp rfl (PE.add rfl rfl (by omega)) rfl (sp rfl (PE.indexAddr Z0a rfl rfl (by omega) (by omega)) rfl ?_)
 refine ZN (l' := Zq ((Z0o (Z0S h week s i) B).set i (Z0S h week s i i + 1))) rfl rfl rfl cn3 rfl rfl rfl (Z0E (by rw [ZA]; omega) (by show 0 + ((i : Nat) : Int).toNat * 1 = i; omega)) (by rw [Zh, ZA]; show 0 + ((i : Nat) : Int).toNat * 1 + 1 ≤ _; omega) ?_
 refine sqr 4 rfl (pur 2 rfl (sp rfl (PE.indexAddr Z0a rfl rfl (by omega) (by omega)) rfl ?_))
 refine ZN (l' := Zq ((Z0o (Z21 h week s i) B).set i 1)) rfl rfl rfl cn3 rfl rfl rfl (Z0E (by rw [ZA]; omega) (by show 0 + ((i : Nat) : Int).toNat * 1 = i; omega)) (by rw [Zh, ZA]; show 0 + ((i : Nat) : Int).toNat * 1 + 1 ≤ _; omega) ?_
 refine sqr 3 rfl (pur 1 rfl (sp rfl (PE.add rfl rfl (by omega)) rfl (pur 1 rfl ?_)))
 first
   | exact Z9 ⟨i + 1, by omega⟩ (by dsimp only; omega) (fun w h9 => by dsimp only; rw [← hio.1, ← hio.2]; exact h9)
   | exact Z9 ⟨i + 1, by omega⟩ (by dsimp only; omega) (fun w h9 => by dsimp only; rw [(Z0i hr).1, (Z0i hr).2]; exact h9)
 have hr := r3 (by omega)
 refine Z2 (sqr 3 rfl (pur 1 rfl (sp rfl (PE.add rfl rfl (by omega)) rfl (pur 1 rfl ?_))))
 first
   | exact Z9 ⟨i + 1, by omega⟩ (by dsimp only; omega) (fun w h9 => by dsimp only; rw [← hio.1, ← hio.2]; exact h9)
   | exact Z9 ⟨i + 1, by omega⟩ (by dsimp only; omega) (fun w h9 => by dsimp only; rw [(Z0i hr).1, (Z0i hr).2]; exact h9)
 try simp only [cS] at g59
 have hr := r2 (by omega)
 refine pur 7 rfl ?_
 refine Zv rfl ?_
 refine Z2 (sqr 3 rfl (pur 1 rfl (sp rfl (PE.add rfl rfl (by omega)) rfl (pur 1 rfl ?_))))
 first
   | exact Z9 ⟨i + 1, by omega⟩ (by dsimp only; omega) (fun w h9 => by dsimp only; rw [← hio.1, ← hio.2]; exact h9)
   | exact Z9 ⟨i + 1, by omega⟩ (by dsimp only; omega) (fun w h9 => by dsimp only; rw [(Z0i hr).1, (Z0i hr).2]; exact h9)
 obtain rfl : i = B := by omega
 refine Z8 (Za (Za (Zm (sqr 3 rfl (pur 1 rfl (sp rfl (PE.add rfl rfl (by omega)) rfl (pur 1 rfl ?_)))))))
 exact Zb ⟨(s + 1, f2, b2l, ab2, cb2), by dsimp only; omega, hmi2, hbl2⟩ (fun w h9 => by dsimp only; rw [← idx_all.1, ← idx_all.2]; exact h9.ftail)
 have hf : f = true := by rw [← Bool.not_eq_false']; exact g37
 refine pur 2 rfl ?_
 refine Z2t rfl rfl rfl rfl Z7e rfl rfl (Z3l (Zp s) bs (by omega) (by omega) al ab cl9 cb _ _) ?_
 refine pur 1 rfl ?_
 refine Z23 (ι := {y : Bool × List Int × Option Addr × Nat // MinI (exB h) (s + 1) y.1 y.2.1 ∧ y.2.1.length ≤ 10}) (fun y => ⟨[(1, .int .i64 week), (2, .pointer (some ⟨b2, 0, none⟩)), (4, .slice y.1.2.2.1 y.1.2.1.length y.1.2.2.2), (5, .slice none 0 0), (6, .slice none 0 0), (7, .bool y.1.1), (8, .slice (some ⟨b18, 0, none⟩) B B), (9, .slice (some ⟨b21, 0, none⟩) B B), (10, .int .i64 ((cP (exB h) s : Nat) : Int)), (11, .int .i64 ((s : Nat) : Int)), (12, .slice al (Zp s).length cl9)], (b21, cel 3 (Zq (Z0o (Z21 h week s 0) B))) :: (b18, cel 3 (Zq (Z0o (Z0S h week s 0) B))) :: (b2, cel 35 (htl h (h.sg ag cg) (h.ss as_ cs))) :: H, RowsA y.1.2.2.1 1 (Z4 y.1.2.1) :: RowsA al 1 (Z4 (Zp s)) :: RowsA none 1 (Z4 []) :: R⟩) ?_ ?_
 refine Z1 rfl ?_ ?_ <;> intro hc2
 refine sqr 3 rfl (pur 3 rfl ?_)
 first | exact ZF ⟨(true, (Zp s), al, cl9), hmi.take (.inl hf) hex, hml⟩ (fun w h9 => h9.facts (fun g hg => by simp only [List.mem_cons] at hg ⊢; rcases hg with h8 | h8 | h8 | h8 <;> simp [h8])) | exact ZF ⟨(true, (Zp s), al, cl9), hmi.take (.inr hc2) hex, hml⟩ (fun w h9 => h9.facts (fun g hg => by simp only [List.mem_cons] at hg ⊢; rcases hg with h8 | h8 | h8 | h8 <;> simp [h8]))
 refine Z2 ?_
 exact ZF ⟨(f, bs, ab, cb), hmi.skip (.inr ⟨hf, hc2⟩), hbl⟩ (fun w h9 => h9.facts (fun g hg => by simp only [List.mem_cons] at hg ⊢; rcases hg with h8 | h8 | h8 | h8 <;> simp [h8]))
 rintro ⟨⟨f2, b2l, ab2, cb2⟩, hmi2, hbl2⟩
 dsimp only at hmi2 hbl2 ⊢
 refine sqt 3 rfl (pur 1 rfl (sp rfl (PE.add rfl rfl (by omega)) rfl ?_))
 rw [show ((cP (exB h) s : Nat) : Int) + 1 = ((cP (exB h) (s + 1) : Nat) : Int) by rw [hce]; omega]
 refine pur 1 rfl (sqt 4 rfl (spL rfl rfl (lhA (htl h (h.sg ag cg) (h.ss as_ cs)) Z57 rfl rfl rfl) rfl (pur 1 rfl ?_)))
 refine cl rfl Z9J rfl rfl (Z2p h ag as_ cg cs hok (Zp s) [] al none cl9 0 hfr (fun x hx => by cases hx) (by simp) _ _) ?_
 rintro _ _ R1 ⟨wa, wc, rfl, rfl, hR1⟩
 obtain rfl := hR1.symm
 clear hR1
 obtain ⟨W, hW⟩ : ∃ W, W = wkL h.gaps (msk []) (msk (Zp s)) h.bins.toNat := ⟨_, rfl⟩
 have hWl : W.length = B := by rw [hW, Z1j, hBt]
 rw [← hW, hBt]
 rw [hmm] at hW
 refine pur 1 rfl (sqt 1 rfl (pur 1 rfl (Z3 ?_)))
 refine Zd (ι := {i : Nat // i ≤ B}) (fun i => ⟨[(1, .int .i64 week), (2, .pointer (some ⟨b2, 0, none⟩)), (4, .slice ab2 b2l.length cb2), (5, .slice none 0 0), (6, .slice none 0 0), (7, .bool f2), (8, .slice (some ⟨b18, 0, none⟩) B B), (9, .slice (some ⟨b21, 0, none⟩) B B), (10, .int .i64 ((cP (exB h) (s + 1) : Nat) : Int)), (11, .int .i64 ((s : Nat) : Int)), (13, .slice wa B wc), (14, .int .i64 ((i.1 : Nat) : Int))], (b21, cel 3 (Zq (Z0o (Z21 h week s i.1) B))) :: (b18, cel 3 (Zq (Z0o (Z0S h week s i.1) B))) :: (b2, cel 35 (htl h (h.sg ag cg) (h.ss as_ cs))) :: H, RowsA wa 1 (Z4 W) :: RowsA ab2 1 (Z4 b2l) :: RowsA none 1 (Z4 []) :: R⟩) (fun i => B - i.1) ⟨0, Nat.zero_le _⟩ ?_ (fun i => ?_)
 exact Zk (fun w h9 => h9.facts (fun g hg => by simp only [List.mem_cons] at hg ⊢; rcases hg with h8 | h8 | h8 | h8 <;> simp [h8]))
 obtain ⟨i, hi⟩ := i
 dsimp only at hi ⊢
 refine Z0 (sqt 4 rfl (pur 1 rfl (sp rfl (PE.fA Z0n rfl) rfl (spL rfl rfl (lh sc3 rfl rfl) rfl ?_))))
 rw [hB]
 refine pur 1 rfl ?_
 refine Z1 rfl ?_ ?_ <;> intro hc3 <;> try simp only [cS] at hc3
 obtain ⟨y, hy⟩ : ∃ y, W[i]? = some y := ⟨_, List.getElem?_eq_getElem (by omega)⟩
 have hyc : y = wkC h.gaps 0 s i := by rw [← Z5W hy, hW]; exact Z5e (by omega)
 obtain ⟨r1, r2, r3⟩ := Zbr (week := week) hyc
 have hal := Z8f (h := h) (week := week) (s := s) (i := i) (k := i)
 have hla : na (Z0o (Z0S h week s i) B) i = Z0S h week s i i := Z4n (by omega)
 refine Zg (a := wa) (sz := 1) (rows := Z4 W) (ne0 (by rw [irl]; omega)) (fun bw ow he => ?_)
 subst he
 refine Z2 (Z0 (Z3 (sqt 13 rfl (pur 2 rfl (sp rfl (PE.indexAddr Z0a rfl rfl (by omega) (by omega)) rfl (spL rfl rfl (lf0 sc3 (ZB hy) rfl) rfl (pur 2 rfl ?_)))))))
 refine Zo 59 rfl ?_ ?_ <;> intro g59
 try simp only [cS] at g59
 refine pur 2 rfl ?_
 refine spG rfl rfl rfl rfl (PE.indexAddr Z0a rfl rfl (by omega) (by omega)) rfl ?_
 refine Z0I rfl rfl rfl rfl rfl (lf0 sc3 (ZB hy) rfl) rfl (pur 3 rfl ?_)
 refine Z1 rfl ?_ ?_ <;> intro hc4 <;> try simp only [cS] at hc4
 have hr := r1 (by omega) (by omega)
 have hio := Zbn (B := B) hex hr
 refine sqt 9 rfl (pur 4 rfl (sp rfl (PE.indexAddr Z0a rfl rfl (by omega) (by omega)) rfl (spL rfl rfl (lh sc3 rfl (Z0h (w := Z0o (Z0S h week s i) B) (k := i) (by rw [ZA]; omega) (by show 0 + ((i : Nat) : Int).toNat * 1 = i; omega))) rfl ?_)))
 rw [hla]
 refine sp rfl (PE.add rfl rfl (by omega)) rfl (sp rfl (PE.indexAddr Z0a rfl rfl (by omega) (by omega)) rfl ?_)
 refine ZN (l' := Zq ((Z0o (Z0S h week s i) B).set i (Z0S h week s i i + 1))) rfl rfl rfl cn3 rfl rfl rfl (Z0E (by rw [ZA]; omega) (by show 0 + ((i : Nat) : Int).toNat * 1 = i; omega)) (by rw [Zh, ZA]; show 0 + ((i : Nat) : Int).toNat * 1 + 1 ≤ _; omega) ?_
 refine sqr 4 rfl (pur 2 rfl (sp rfl (PE.indexAddr Z0a rfl rfl (by omega) (by omega)) rfl ?_))
 refine ZN (l' := Zq ((Z0o (Z21 h week s i) B).set i 1)) rfl rfl rfl cn3 rfl rfl rfl (Z0E (by rw [ZA]; omega) (by show 0 + ((i : Nat) : Int).toNat * 1 = i; omega)) (by rw [Zh, ZA]; show 0 + ((i : Nat) : Int).toNat * 1 + 1 ≤ _; omega) ?_
 refine sqr 3 rfl (pur 1 rfl (sp rfl (PE.add rfl rfl (by omega)) rfl (pur 1 rfl ?_)))
 first
   | exact Z9 ⟨i + 1, by omega⟩ (by dsimp only; omega) (fun w h9 => by dsimp only; rw [← hio.1, ← hio.2]; exact h9)
   | exact Z9 ⟨i + 1, by omega⟩ (by dsimp only; omega) (fun w h9 => by dsimp only; rw [(Z0i hr).1, (Z0i hr).2]; exact h9)
 have hr := r3 (by omega)
 refine Z2 (sqr 3 rfl (pur 1 rfl (sp rfl (PE.add rfl rfl (by omega)) rfl (pur 1 rfl ?_))))
 first
   | exact Z9 ⟨i + 1, by omega⟩ (by dsimp only; omega) (fun w h9 => by dsimp only; rw [← hio.1, ← hio.2]; exact h9)
   | exact Z9 ⟨i + 1, by omega⟩ (by dsimp only; omega) (fun w h9 => by dsimp only; rw [(Z0i hr).1, (Z0i hr).2]; exact h9)
 try simp only [cS] at g59
 have hr := r2 (by omega)
 refine pur 7 rfl ?_
 refine Zv rfl ?_
 refine Z2 (sqr 3 rfl (pur 1 rfl (sp rfl (PE.add rfl rfl (by omega)) rfl (pur 1 rfl ?_))))
 first
   | exact Z9 ⟨i + 1, by omega⟩ (by dsimp only; omega) (fun w h9 => by dsimp only; rw [← hio.1, ← hio.2]; exact h9)
   | exact Z9 ⟨i + 1, by omega⟩ (by dsimp only; omega) (fun w h9 => by dsimp only; rw [(Z0i hr).1, (Z0i hr).2]; exact h9)
 obtain rfl : i = B := by omega
 refine Z8 (Za (Za (Zm (sqr 3 rfl (pur 1 rfl (sp rfl (PE.add rfl rfl (by omega)) rfl (pur 1 rfl ?_)))))))
 exact Zb ⟨(s + 1, f2, b2l, ab2, cb2), by dsimp only; omega, hmi2, hbl2⟩ (fun w h9 => by dsimp only; rw [← idx_all.1, ← idx_all.2]; exact h9.ftail)
 obtain rfl : s = 2 ^ B := by omega
 have hcl := Zd3 (exB h) (2 ^ B)
 refine Z8 (Za (Za (Zm (Z0 (sqt 1 rfl (pur 1 rfl (Z3 ?_)))))))
 refine Zd (ι := (i : {i : Nat // i ≤ B}) × OSl 3 1 (Z4 (Z15 (Z2L h week) i.1)) × OSl 3 1 (Z4 (Z15 (Z33 h week) i.1))) (fun y => ⟨[(1, .int .i64 week), (2, .pointer (some ⟨b2, 0, none⟩)), (4, .slice ab bs.length cb), (5, y.2.1.fs), (6, y.2.2.fs), (7, .bool f), (8, .slice (some ⟨b18, 0, none⟩) B B), (9, .slice (some ⟨b21, 0, none⟩) B B), (10, .int .i64 ((cP (exB h) (2 ^ B) : Nat) : Int)), (15, .int .i64 ((y.1.1 : Nat) : Int))], y.2.1.G ++ (y.2.2.G ++ ((b21, cel 3 (Zq (Z0o (Z21 h week (2 ^ B) 0) B))) :: (b18, cel 3 (Zq (Z0o (Z0S h week (2 ^ B) 0) B))) :: (b2, cel 35 (htl h (h.sg ag cg) (h.ss as_ cs))) :: H)), RowsA ab 1 (Z4 bs) :: R⟩) (fun y => B - y.1.1) ⟨⟨0, Nat.zero_le _⟩, OSl.nil _ _, OSl.nil _ _⟩ ?_ (fun y => ?_)
 exact Zk (fun w h9 => h9.facts (fun g hg => by simp only [List.mem_cons] at hg ⊢; rcases hg with h8 | h8 <;> simp [h8]))
 obtain ⟨⟨i, hi⟩, oS, oP⟩ := y
 dsimp only at hi oS oP ⊢
 have hsn := Z0r (Z2L h week) i
 have hpn := Z0r (Z33 h week) i
 refine Z0 (sqt 4 rfl (pur 1 rfl (sp rfl (PE.fA Z0n rfl) rfl (spL rfl rfl (lh sc3 rfl rfl) rfl ?_))))
 rw [hB]
 refine pur 1 rfl ?_
 refine Z1 rfl ?_ ?_ <;> intro hc5 <;> try simp only [cS] at hc5
 have hla : na (Z0o (Z0S h week (2 ^ B) 0) B) i = Z0S h week (2 ^ B) 0 i := Z4n (by omega)
 have hls : na (Z0o (Z21 h week (2 ^ B) 0) B) i = Z21 h week (2 ^ B) 0 i := Z4n (by omega)
 have hsu := Z8G (h := h) (week := week) (k := i)
 have hpe := Z7C (h := h) (week := week) (k := i)
 rw [hBt] at hsu hpe
 refine Z2 (Z0 (Z3 (Z0 (sqt 10 rfl (pur 3 rfl ?_)))))
 refine Zo 86 rfl ?_ ?_ <;> intro g86
 try simp only [cS] at g86
 refine pur 2 rfl ?_
 refine spG rfl rfl rfl rfl (PE.indexAddr Z0a rfl rfl (by omega) (by omega)) rfl ?_
 refine Z0I rfl rfl rfl rfl rfl (lh sc3 rfl (Z0h (w := Z0o (Z0S h week (2 ^ B) 0) B) (k := i) (by rw [ZA]; omega) (by show 0 + ((i : Nat) : Int).toNat * 1 = i; omega))) rfl (pur 1 rfl ?_)
 try rw [hla]
 refine pur 2 rfl ?_
 refine Z23 (ι := OSl 3 1 (Z4 (Z15 (Z2L h week) (i + 1)))) (fun o => ⟨[(1, .int .i64 week), (2, .pointer (some ⟨b2, 0, none⟩)), (4, .slice ab bs.length cb), (5, o.fs), (6, oP.fs), (7, .bool f), (8, .slice (some ⟨b18, 0, none⟩) B B), (9, .slice (some ⟨b21, 0, none⟩) B B), (10, .int .i64 ((cP (exB h) (2 ^ B) : Nat) : Int)), (15, .int .i64 ((i : Nat) : Int))], o.G ++ (oP.G ++ ((b21, cel 3 (Zq (Z0o (Z21 h week (2 ^ B) 0) B))) :: (b18, cel 3 (Zq (Z0o (Z0S h week (2 ^ B) 0) B))) :: (b2, cel 35 (htl h (h.sg ag cg) (h.ss as_ cs))) :: H)), RowsA ab 1 (Z4 bs) :: R⟩) ?_ ?_
 refine Z1 rfl ?_ ?_ <;> intro hc6 <;> try simp only [cS] at hc6
 have hsv : Z2L h week i = true := by rw [hsu, dT (by omega), dT (by omega)]; rfl
 refine sqr 5 rfl (pur 2 rfl ?_)
 refine bsl (out := [_]) rfl Z0j zl3 rfl rfl rfl rfl rfl rfl (fun b96 => ?_)
 refine apO (oS) rfl Z2j rfl rfl (Z0l (row := [.int .i64 (i : Int)]) rfl) rfl rfl ((by rw [irl]; simp only [List.length_singleton]; omega)) rfl (fun o97 => ?_)
 refine pur 1 rfl ?_
 first | exact ZF (o97.cast (by rw [Z0k hsv]; simp [Z4])) (fun w h9 => h9.del b96) | exact ZF (oS.cast (by rw [ZU hsv])) idH
 have hsv : Z2L h week i = false := by rw [hsu, dF (show ¬ Z0S h week (2 ^ B) 0 i = ((cP (exB h) (2 ^ B) : Nat) : Int) by omega), Bool.and_false]
 refine Z2 ?_
 first | exact ZF (o97.cast (by rw [Z0k hsv]; simp [Z4])) (fun w h9 => h9.del b96) | exact ZF (oS.cast (by rw [ZU hsv])) idH
 intro o5
 dsimp only
 refine sqt 5 rfl (pur 2 rfl (sp rfl (PE.indexAddr Z0a rfl rfl (by omega) (by omega)) rfl (spL rfl rfl (lh sc3 rfl (Z0h (w := Z0o (Z21 h week (2 ^ B) 0) B) (k := i) (by rw [ZA]; omega) (by show 0 + ((i : Nat) : Int).toNat * 1 = i; omega))) rfl ?_)))
 rw [hls]
 refine pur 1 rfl ?_
 refine Z1 rfl ?_ ?_ <;> intro hc7 <;> try simp only [cS] at hc7
 have hpv : Z33 h week i = true := by rw [hpe, dT (by omega)]
 refine sqr 5 rfl (pur 2 rfl ?_)
 refine bsl (out := [_]) rfl Z0j zl3 rfl rfl rfl rfl rfl rfl (fun b105 => ?_)
 refine apO (oP) rfl Z2j rfl rfl (Z0l (row := [.int .i64 (i : Int)]) rfl) rfl rfl ((by rw [irl]; simp only [List.length_singleton]; omega)) rfl (fun o106 => ?_)
 refine pur 1 rfl (sqr 3 rfl (pur 1 rfl (sp rfl (PE.add rfl rfl (by omega)) rfl (pur 1 rfl ?_))))
 first | exact Z9 ⟨⟨i + 1, by omega⟩, o5, o106.cast (by rw [Z0k hpv]; simp [Z4])⟩ (by dsimp only; omega) (fun w h9 => h9.del b105) | exact Z9 ⟨⟨i + 1, by omega⟩, o5, oP.cast (by rw [ZU hpv])⟩ (by dsimp only; omega) idH
 have hpv : Z33 h week i = false := by rw [hpe, dF (by omega)]
 refine Z2 (sqr 3 rfl (pur 1 rfl (sp rfl (PE.add rfl rfl (by omega)) rfl (pur 1 rfl ?_))))
 first | exact Z9 ⟨⟨i + 1, by omega⟩, o5, o106.cast (by rw [Z0k hpv]; simp [Z4])⟩ (by dsimp only; omega) (fun w h9 => h9.del b105) | exact Z9 ⟨⟨i + 1, by omega⟩, o5, oP.cast (by rw [ZU hpv])⟩ (by dsimp only; omega) idH
 try simp only [cS] at g86
 have hsv : Z2L h week i = false := by rw [hsu, dF (by omega)]; rfl
 refine pur 7 rfl ?_
 refine Z23 (ι := OSl 3 1 (Z4 (Z15 (Z2L h week) (i + 1)))) (fun o => ⟨[(1, .int .i64 week), (2, .pointer (some ⟨b2, 0, none⟩)), (4, .slice ab bs.length cb), (5, o.fs), (6, oP.fs), (7, .bool f), (8, .slice (some ⟨b18, 0, none⟩) B B), (9, .slice (some ⟨b21, 0, none⟩) B B), (10, .int .i64 ((cP (exB h) (2 ^ B) : Nat) : Int)), (15, .int .i64 ((i : Nat) : Int))], o.G ++ (oP.G ++ ((b21, cel 3 (Zq (Z0o (Z21 h week (2 ^ B) 0) B))) :: (b18, cel 3 (Zq (Z0o (Z0S h week (2 ^ B) 0) B))) :: (b2, cel 35 (htl h (h.sg ag cg) (h.ss as_ cs))) :: H)), RowsA ab 1 (Z4 bs) :: R⟩) ?_ ?_
 refine Zv rfl ?_
 refine Z2 ?_
 first | exact ZF (o97.cast (by rw [Z0k hsv]; simp [Z4])) (fun w h9 => h9.del b96) | exact ZF (oS.cast (by rw [ZU hsv])) idH
 intro o5
 dsimp only
 refine sqt 5 rfl (pur 2 rfl (sp rfl (PE.indexAddr Z0a rfl rfl (by omega) (by omega)) rfl (spL rfl rfl (lh sc3 rfl (Z0h (w := Z0o (Z21 h week (2 ^ B) 0) B) (k := i) (by rw [ZA]; omega) (by show 0 + ((i : Nat) : Int).toNat * 1 = i; omega))) rfl ?_)))
 rw [hls]
 refine pur 1 rfl ?_
 refine Z1 rfl ?_ ?_ <;> intro hc7 <;> try simp only [cS] at hc7
 have hpv : Z33 h week i = true := by rw [hpe, dT (by omega)]
 refine sqr 5 rfl (pur 2 rfl ?_)
 refine bsl (out := [_]) rfl Z0j zl3 rfl rfl rfl rfl rfl rfl (fun b105 => ?_)
 refine apO (oP) rfl Z2j rfl rfl (Z0l (row := [.int .i64 (i : Int)]) rfl) rfl rfl ((by rw [irl]; simp only [List.length_singleton]; omega)) rfl (fun o106 => ?_)
 refine pur 1 rfl (sqr 3 rfl (pur 1 rfl (sp rfl (PE.add rfl rfl (by omega)) rfl (pur 1 rfl ?_))))
 first | exact Z9 ⟨⟨i + 1, by omega⟩, o5, o106.cast (by rw [Z0k hpv]; simp [Z4])⟩ (by dsimp only; omega) (fun w h9 => h9.del b105) | exact Z9 ⟨⟨i + 1, by omega⟩, o5, oP.cast (by rw [ZU hpv])⟩ (by dsimp only; omega) idH
 have hpv : Z33 h week i = false := by rw [hpe, dF (by omega)]
 refine Z2 (sqr 3 rfl (pur 1 rfl (sp rfl (PE.add rfl rfl (by omega)) rfl (pur 1 rfl ?_))))
 first | exact Z9 ⟨⟨i + 1, by omega⟩, o5, o106.cast (by rw [Z0k hpv]; simp [Z4])⟩ (by dsimp only; omega) (fun w h9 => h9.del b105) | exact Z9 ⟨⟨i + 1, by omega⟩, o5, oP.cast (by rw [ZU hpv])⟩ (by dsimp only; omega) idH
 obtain rfl : i = B := by omega
 obtain ⟨a1, c1, he, hc1, hzz⟩ := oS.freezeC
 rw [irl] at hc1
 rw [he, irl]
 refine Sy.heap (H' := _) (fun w h9 => hzz h9) ?_
 clear he hzz
 obtain ⟨a2, c2, he, hc2, hzz⟩ := oP.freezeC
 rw [irl] at hc2
 rw [he, irl]
 refine Sy.heap (H' := _) (fun w h9 => hzz h9) ?_
 clear he hzz
 refine Z8 (Za (Za (Zm (sqt 8 rfl (pur 8 rfl (Z5 ?_))))))
 exact Zs (vs := [_, _, _, _]) rfl (.cons (RV.tmp rfl) (.cons (RV.tmp rfl) (.cons (RV.tmp rfl) (.cons (RV.tmp rfl) .nil)))) rfl ⟨f, bs, ab, a1, a2, cb, c1, c2, by rw [Int.toNat_natCast]; exact hmi, by rw [Int.toNat_natCast] <;> rfl, rfl, by rw [Int.toNat_natCast] <;> rfl⟩ (fun w h9 => (((h9.del b21).del b18).del b2))
theorem MinI.start1 {P : Nat → Bool} (h : P 0 = false) : MinI P 1 false [] := ⟨fun _ => ⟨fun t h1 => by rw [show t = 0 by omega]; exact h, rfl⟩, (fun h => by cases h)⟩
def Z34 (h : Hse) (k s : Nat) : Bool := (List.range k).any fun m => Z8H h m s
theorem Z8R (h : Hse) (k s : Nat) : Z34 h (k + 1) s = (Z34 h k s || Z8H h k s) := by unfold Z34; rw [List.range_succ, List.any_append]; simp
theorem Z72 {h : Hse} {k n s : Nat} (hk : k ≤ n) (he : Z34 h k s = true) : Z34 h n s = true := by
  unfold Z34 at he ⊢
  rw [List.any_eq_true] at he ⊢
  obtain ⟨m, h1, h2⟩ := he
  exact ⟨m, List.mem_range.2 (by have := List.mem_range.1 h1; omega), h2⟩
theorem pick_iff {ss : List Sgt} {l : List Int} {s : Sgt} : s ∈ Z06 ss l ↔ ∃ i ∈ l, ss[i.toNat]? = some s := by unfold Z06; rw [List.mem_filterMap]
theorem Z71 {h : Hse} {m t : Nat} (ht : t < 2 ^ 10) (hl : h.sights.length ≤ 10) : Z8H h m t = Z1s h.gaps m (Z06 h.sights (Zp t)) := by
  unfold Z8H Z1s
  rw [Bool.eq_iff_iff, List.all_eq_true, List.all_eq_true]
  constructor
  · intro h1 s hs
    obtain ⟨i, h2, h3⟩ := pick_iff.1 hs
    obtain ⟨k, k1, k2, rfl⟩ := memL_bit.1 h2
    rw [Int.toNat_natCast] at h3
    have h4 := h1 k (List.mem_range.2 (List.getElem?_eq_some_iff.1 h3).1)
    rw [h3] at h4
    dsimp only at h4
    rw [k2] at h4; exact h4
  · intro h1 i hi
    have h2 := List.mem_range.1 hi
    rw [List.getElem?_eq_getElem h2]
    dsimp only
    cases hb : t.testBit i with
    | false => rfl
    | true =>
      rw [h1 _ (pick_iff.2 ⟨(i : Int), memL_bit.2 ⟨i, by omega, hb, rfl⟩, by rw [Int.toNat_natCast]; exact List.getElem?_eq_getElem h2⟩)]; rfl
theorem Z7d {h : Hse} (hk : h.ok) {t : Nat} (ht : t < 2 ^ 10) : Z34 h (2 ^ h.bins.toNat) t = h.agr (Z06 h.sights (Zp t)) := by
  rw [Bool.eq_iff_iff, Z0m hk (Z9i hk.sights _)]
  unfold Z34
  rw [List.any_eq_true]
  have hl := hk.sl
  constructor
  · rintro ⟨m, h1, h2⟩
    exact ⟨m, List.mem_range.1 h1, by rw [← Z71 ht (by omega)]; exact h2⟩
  · rintro ⟨m, h1, h2⟩
    exact ⟨m, List.mem_range.2 h1, by rw [Z71 ht (by omega)]; exact h2⟩
theorem Z9q {h : Hse} (hk : h.ok) : Z34 h (2 ^ h.bins.toNat) 0 = true := by
  rw [Z7d hk (by decide)]
  have : Zp 0 = [] := rfl
  rw [this]
  exact (Z0m hk (fun s hs => by cases hs)).2 ⟨0, Nat.two_pow_pos _, rfl⟩
theorem ZcG {s : Nat} (h1 : 1 ≤ s) (h2 : s < 2 ^ 10) : Zp s ≠ [] := fun e => by
  have := Z2e h2
  rw [e] at this
  have : (0 : Nat) = s := this
  omega
theorem Z3n {s : Nat} (h1 : 1 ≤ s) (h2 : s < 2 ^ 10) : 0 < (Zp s).length := List.length_pos_iff.2 (ZcG h1 h2)
theorem ZcC {h : Hse} (hk : h.ok) {f : Bool} {b : List Int} (hm : MinI (fun t => !Z34 h (2 ^ h.bins.toNat) t) (2 ^ h.sights.length) f b) : (h.agr h.sights = false → h.claS = some b) := fun ha => by
  have hl := hk.sl
  have hp := Nat.pow_le_pow_right (show 0 < 2 by decide) (show h.sights.length ≤ 10 by omega)
  have hm2 : MinI (fun t => (fun l => !h.agr (Z06 h.sights l)) (Zp t)) (2 ^ h.sights.length) f b := hm.cg fun t ht => by
    dsimp only
    rw [Z7d hk (by omega)]
  cases hf : f with
  | true => rw [hf] at hm2; exact hm2.short (by omega)
  | false =>
    rw [hf] at hm2
    cases hc : h.claS with
    | none => rw [(Z99 hk).1 hc] at ha; cases ha
    | some x =>
      obtain ⟨⟨t, t1, t2⟩, t3, _⟩ := Z3I (by omega) hc
      have := (hm2.no rfl).1 t t1
      dsimp only at this t3
      rw [t2] at this
      rw [this] at t3; cases t3
def Z1V (h : Hse) (i : Int) : Bool := match h.sights[i.toNat]? with
  | some s => s.seen
  | none => false
def Z40 (h : Hse) (k : Nat) (i : Int) : Bool := match h.sights[i.toNat]? with
  | some s => decide (wk h.gaps 0 (2 ^ k) s.bin.toNat ≤ s.week)
  | none => false
def okK (h : Hse) (l : List Int) (k : Nat) : Bool := decide (l.countP (Z40 h k) < 2) || ZH h.clrR.1 (k : Int)
def okN (h : Hse) (l : List Int) (k : Nat) : Bool := l.all (Z1V h) && (List.range k).all (okK h l)
theorem Zao (h : Hse) (l : List Int) : okN h l 0 = l.all (Z1V h) := by unfold okN; simp
theorem Za0 (h : Hse) (l : List Int) (k : Nat) : okN h l (k + 1) = (okN h l k && okK h l k) := by unfold okN; rw [List.range_succ, List.all_append, Bool.and_assoc]; simp
theorem Z8Z {p : Int → Bool} {l : List Int} {k : Nat} {x : Int} (h : l[k]? = some x) : (l.take (k + 1)).all p = ((l.take k).all p && p x) := by rw [List.take_add_one, h, List.all_append]; simp
theorem Z8P {p : Int → Bool} {l : List Int} {k : Nat} {x : Int} (h : l[k]? = some x) : (l.take (k + 1)).countP p = (l.take k).countP p + (bif p x then 1 else 0) := by
  rw [List.take_add_one, h, List.countP_append, Option.toList_some, List.countP_singleton]
  cases p x <;> rfl
theorem Z8X (p : Int → Bool) (l : List Int) (k : Nat) : (l.take k).countP p ≤ k := Nat.le_trans List.countP_le_length (by rw [List.length_take]; omega)
structure LonI (P : Nat → Bool) (k : Nat) (b : List Int) : Prop where
  is : b = [] ∨ ∃ t, 1 ≤ t ∧ t < k ∧ P t = true ∧ b = Zp t
  le : ∀ t, 1 ≤ t → t < k → P t = true → (Zp t).length < b.length ∨ ((Zp t).length = b.length ∧ ahB (Zp t) b = false)
theorem LonI.start (P : Nat → Bool) : LonI P 1 [] := ⟨.inl rfl, fun t h1 h2 => by omega⟩
theorem LonI.take {P : Nat → Bool} {k : Nat} {b : List Int} (h : LonI P k b) (hk : 1 ≤ k) (h1 : b.length < (Zp k).length ∨ ((Zp k).length = b.length ∧ ahB (Zp k) b = true)) (h2 : P k = true) : LonI P (k + 1) (Zp k) := by
  refine ⟨.inr ⟨k, hk, by omega, h2, rfl⟩, fun t t1 t2 t3 => ?_⟩
  by_cases e : t = k
  · subst e; exact .inr ⟨rfl, Z5T _⟩
  · have h3 := h.le t t1 (by omega) t3
    rcases h1 with h1 | ⟨h1, h4⟩
    · exact .inl (by omega)
    · rcases h3 with h3 | ⟨h3, h5⟩
      · exact .inl (by omega)
      · exact .inr ⟨by omega, Z6c (Z4Y h4 h5)⟩
theorem LonI.skip {P : Nat → Bool} {k : Nat} {b : List Int} (h : LonI P k b) (h1 : P k = false ∨ (¬ b.length < (Zp k).length ∧ ((Zp k).length = b.length → ahB (Zp k) b = false))) : LonI P (k + 1) b := by
  refine ⟨h.is.imp id fun ⟨t, t1, t2, t3⟩ => ⟨t, t1, by omega, t3⟩, fun t t1 t2 t3 => ?_⟩
  by_cases e : t = k
  · subst e
    rcases h1 with h1 | ⟨h1, h4⟩
    · rw [h1] at t3; cases t3
    · rcases Nat.lt_or_ge (Zp t).length b.length with h5 | h5
      · exact .inl h5
      · exact .inr ⟨by omega, h4 (by omega)⟩
  · exact h.le t t1 (by omega) t3
theorem Z9c {h : Hse} (hk : h.ok) : ∀ K, (h.aptK K = [] ∨ ∃ t, t < 2 ^ h.sights.length ∧ h.aptB [] (Zp t) = true ∧ h.aptK K = Zp t) ∧ ∀ t, t < 2 ^ h.sights.length → h.aptB [] (Zp t) = true → (Zp t).length < K → (Zp t).length < (h.aptK K).length ∨ ((Zp t).length = (h.aptK K).length ∧ ahB (Zp t) (h.aptK K) = false)
  | 0 => ⟨.inl rfl, fun t _ _ h9 => by omega⟩
  | K + 1 => by
    have hl := hk.sl
    obtain ⟨i1, i2⟩ := Z9c hk K
    unfold Hse.aptK
    cases hs : ZW (h.aptH K) h.sights.length with
    | none =>
      refine ⟨i1, fun t t1 t2 t3 => ?_⟩
      rcases Nat.lt_or_ge (Zp t).length K with h1 | h1
      · exact i2 t t1 t2 h1
      · exact absurd (Z7o hs t t1 (by unfold Hse.aptH; rw [t2, decide_eq_true (by omega)]; rfl) (by omega)) id
    | some x =>
      obtain ⟨⟨t', h1, h2⟩, h3, h4⟩ := Z3I (by omega) hs
      unfold Hse.aptH at h3
      rw [Bool.and_eq_true, decide_eq_true_eq] at h3
      dsimp only
      refine ⟨.inr ⟨t', h1, by rw [h2]; exact h3.2, h2.symm⟩, fun t t1 t2 t3 => ?_⟩
      rcases Nat.lt_or_ge (Zp t).length K with h5 | h5
      · exact .inl (by omega)
      · exact .inr ⟨by omega, h4 t t1 (by unfold Hse.aptH; rw [t2, decide_eq_true (by omega)]; rfl)⟩
theorem Z4I {t n : Nat} (hn : n ≤ 10) (ht : t < 2 ^ n) : (Zp t).length ≤ n := by
  have := Z4D ht hn
  have h2 := Z2l n t
  omega
theorem Zdb {h : Hse} (hk : h.ok) {P : Nat → Bool} {b : List Int} (hP : ∀ t, t < 2 ^ h.sights.length → P t = h.aptB [] (Zp t)) (hb : LonI P (2 ^ h.sights.length) b) : b = h.aptK (h.sights.length + 1) := by
  have hl := hk.sl
  have hp := Nat.pow_le_pow_right (show 0 < 2 by decide) (show h.sights.length ≤ 10 by omega)
  obtain ⟨i1, i2⟩ := Z9c hk (h.sights.length + 1)
  have hz : Zp 0 = [] := rfl
  have key : ∀ t, t < 2 ^ h.sights.length → h.aptB [] (Zp t) = true → h.aptK (h.sights.length + 1) = Zp t → 1 ≤ t → b = h.aptK (h.sights.length + 1) := fun t t1 t2 t3 t4 => by
    have h1 := hb.le t t4 t1 (by rw [hP t t1]; exact t2)
    have h2 := Z3n t4 (by omega)
    rcases hb.is with rfl | ⟨u, u1, u2, u3, rfl⟩
    · rw [List.length_nil] at h1; omega
    · have h3 := i2 u u2 (by rw [← hP u u2]; exact u3) (by have := Z4I (by omega) u2; omega)
      rw [t3] at h3 ⊢
      rcases h1 with h1 | ⟨h1, h4⟩
      · rcases h3 with h3 | ⟨h3, _⟩ <;> omega
      · rcases h3 with h3 | ⟨_, h5⟩
        · omega
        · exact Z77 h5 h4
  rcases i1 with h1 | ⟨t, t1, t2, t3⟩
  · rcases hb.is with h2 | ⟨u, u1, u2, u3, rfl⟩
    · rw [h1, h2]
    · have h3 := i2 u u2 (by rw [← hP u u2]; exact u3) (by have := Z4I (by omega) u2; omega)
      have h4 := Z3n u1 (by omega)
      rw [h1, List.length_nil] at h3
      omega
  · rcases Nat.eq_zero_or_pos t with rfl | h4
    · rw [hz] at t3
      rcases hb.is with h2 | ⟨u, u1, u2, u3, rfl⟩
      · rw [t3, h2]
      · have h3 := i2 u u2 (by rw [← hP u u2]; exact u3) (by have := Z4I (by omega) u2; omega)
        have h5 := Z3n u1 (by omega)
        rw [t3, List.length_nil] at h3
        omega
    · exact key t t1 t2 t3 h4
def byI (h : Hse) (k : Int) (i : Int) : Bool := match h.sights[i.toNat]? with
  | some s => ZH (h.byL s) k
  | none => false
theorem Z3v (p : Int → Bool) (i : Int) (l : List Int) : (i :: l).countP p = l.countP p + (bif p i then 1 else 0) := by
  rw [List.countP_cons]
  cases p i <;> rfl
theorem Z7g {h : Hse} : ∀ {l met : List Int}, h.aptB met l = true ↔ (∀ i ∈ l, Z1V h i = true) ∧ ∀ k, (k ∈ met → l.countP (byI h k) = 0) ∧ l.countP (byI h k) ≤ 1
  | [], met => ⟨fun _ => ⟨fun i hi => (List.not_mem_nil hi).elim, fun k => ⟨fun _ => rfl, Nat.zero_le _⟩⟩, fun _ => rfl⟩
  | i :: l, met => by
    unfold Hse.aptB
    cases hs : h.sights[i.toNat]? with
    | none =>
      dsimp only
      refine ⟨fun h1 => (by cases h1), fun h1 => ?_⟩
      have := h1.1 i (by simp)
      unfold Z1V at this
      rw [hs] at this; exact this
    | some s =>
      dsimp only
      have hsi : Z1V h i = s.seen := by unfold Z1V; rw [hs]
      have hbi : ∀ k, byI h k i = ZH (h.byL s) k := fun k => by unfold byI; rw [hs]
      rw [Bool.and_eq_true, Bool.and_eq_true, Bool.not_eq_true', List.any_eq_false, Z7g]
      constructor
      · rintro ⟨⟨h1, h2⟩, h3, h4⟩
        refine ⟨fun j hj => ?_, fun k => ?_⟩
        · rcases List.mem_cons.1 hj with rfl | hj
          · rw [hsi]; exact h1
          · exact h3 j hj
        · obtain ⟨h5, h6⟩ := h4 k
          rw [Z3v, hbi]
          cases hb : ZH (h.byL s) k with
          | false =>
            rw [cond_false]
            exact ⟨fun h7 => h5 (List.mem_append_left _ h7), h6⟩
          | true =>
            have h8 := h5 (List.mem_append_right _ (hasI_iff.1 hb))
            rw [cond_true]
            exact ⟨fun h7 => absurd (hasI_iff.2 h7) (h2 k (hasI_iff.1 hb)), by omega⟩
      · rintro ⟨h1, h2⟩
        refine ⟨⟨by rw [← hsi]; exact h1 i (by simp), fun k hk h9 => ?_⟩, fun j hj => h1 j (by simp [hj]), fun k => ?_⟩
        · have h3 := (h2 k).1 (hasI_iff.1 h9)
          rw [Z3v, hbi, hasI_iff.2 hk] at h3
          simp only [cond_true] at h3; omega
        · obtain ⟨h3, h4⟩ := h2 k
          rw [Z3v, hbi] at h3 h4
          refine ⟨fun h5 => ?_, by omega⟩
          rcases List.mem_append.1 h5 with h6 | h6
          · have := h3 h6; omega
          · rw [hasI_iff.2 h6] at h4
            simp only [cond_true] at h4; omega
theorem Z9t {p q : Int → Bool} {l : List Int} (h : ∀ x ∈ l, p x = q x) : l.countP p = l.countP q := List.countP_congr fun x hx => by rw [h x hx]
theorem Z83 {p : Int → Bool} {l : List Int} (h : ∀ x ∈ l, p x = false) : l.countP p = 0 := List.countP_eq_zero.2 fun x hx => by rw [h x hx]; decide
theorem Zd1 {h : Hse} {s : Sgt} (hs : s.seen = true) {k : Int} : ZH (h.byL s) k = (ZH (h.clr h.sights (-1) 0) k && decide (wk h.gaps 0 (msk [k]) s.bin.toNat ≤ s.week)) := by
  rw [Bool.eq_iff_iff, hasI_iff]
  unfold Hse.byL
  rw [List.mem_filter, Bool.and_eq_true, hasI_iff]
  refine and_congr Iff.rfl ?_
  unfold Hse.byP Z1s exS
  rw [List.all_cons, List.all_nil, Bool.and_true, Bool.not_not]
  rw [hs]
  cases decide (wk h.gaps 0 (msk [k]) s.bin.toNat ≤ s.week) <;> simp
theorem Zdg {h : Hse} (hk : h.ok) (l : List Int) : okN h l h.bins.toNat = h.aptB [] l := by
  have hck := hse_ok.2 hk
  rw [Bool.eq_iff_iff, Z7g]
  unfold okN
  rw [Bool.and_eq_true, List.all_eq_true, List.all_eq_true]
  have hcl : ∀ k : Nat, k < h.bins.toNat → ZH h.clrR.1 (k : Int) = !ZH (h.clr h.sights (-1) 0) k := fun k hkb => by
    have : h.clrR.1 = Z15 (fun k => !ZH (h.clr h.sights (-1) 0) k) h.bins.toNat := by unfold Hse.clrR; rw [hck]; rfl
    rw [this, Bool.eq_iff_iff, hasI_iff]
    unfold Z15
    rw [List.mem_map]
    constructor
    · rintro ⟨j, h1, h2⟩
      obtain rfl : j = k := by omega
      exact (List.mem_filter.1 h1).2
    · intro h1
      exact ⟨k, List.mem_filter.2 ⟨List.mem_range.2 hkb, h1⟩, rfl⟩
  refine and_congr_right fun hse => ?_
  have hby : ∀ (k : Int), ∀ i ∈ l, byI h k i = (ZH (h.clr h.sights (-1) 0) k && (match h.sights[i.toNat]? with | some s => decide (wk h.gaps 0 (msk [k]) s.bin.toNat ≤ s.week) | none => false)) := fun k i hi => by
    have h1 := hse i hi
    unfold Z1V at h1
    unfold byI
    cases hs : h.sights[i.toNat]? with
    | none => rw [Bool.and_false]
    | some s =>
      rw [hs] at h1
      exact Zd1 h1
  have hms : ∀ k : Nat, msk [(k : Int)] = 2 ^ k := Z4X
  constructor
  · intro h1 k
    refine ⟨fun h9 => (List.not_mem_nil h9).elim, ?_⟩
    cases hc : ZH (h.clr h.sights (-1) 0) k with
    | false => rw [Z83 fun i hi => by rw [hby k i hi, hc]; rfl]; exact Nat.zero_le _
    | true =>
      obtain ⟨j, j1, _, rfl⟩ := clr_mem.1 (hasI_iff.1 hc)
      have h2 := h1 j (List.mem_range.2 j1)
      unfold okK at h2
      rw [hcl j j1, hc, Bool.not_true, Bool.or_false, decide_eq_true_eq] at h2
      rw [Z9t (q := Z40 h j) fun i hi => by rw [hby _ i hi, hc, hms]; rfl]
      omega
  · intro h1 k hkb
    have hkb := List.mem_range.1 hkb
    unfold okK
    rw [hcl k hkb]
    cases hc : ZH (h.clr h.sights (-1) 0) (k : Int) with
    | false => rw [Bool.not_false, Bool.or_true]
    | true =>
      have h2 := (h1 k).2
      rw [Z9t (q := Z40 h k) fun i hi => by rw [hby _ i hi, hc, hms]; rfl] at h2
      rw [decide_eq_true (by omega)]; rfl
set_option maxHeartbeats 800000 in
theorem Zax (h : Hse) (ag as_ : Option Addr) (cg cs : Nat) (hok : h.ok) (H : Zc) (R : Z6) [hG : MemRows ag 2 (Zf h.gaps) R] [hS : MemRows as_ 3 (Ze h.sights) R] :
    Fn Tryz.prog 48 [h.v (h.sg ag cg) (h.ss as_ cs)] H R (fun v H' R' => ∃ (f : Bool) (bs : List Int) (ab : Option Addr) (cb : Nat), MinI (fun t => !Z34 h (2 ^ h.bins.toNat) t) (2 ^ h.sights.length) f bs ∧ v = .tuple #[.slice ab bs.length cb, .bool f] ∧ H' = H ∧ R' = RowsA ab 1 (Z4 bs) :: R) := by
 refine Zi Tryz.func48 rfl Tryz.ntmps48 rfl ?_
 refine sqt 3 rfl ?_
 have hbn := hok.bins
 have hsl := hok.sl
 obtain ⟨B, hB⟩ : ∃ B : Nat, h.bins = B := ⟨h.bins.toNat, by omega⟩
 have hBt : h.bins.toNat = B := by omega
 have hp8 := Nat.pow_le_pow_right (show 0 < 2 by decide) (show h.sights.length ≤ 8 by omega)
 have h8 : (2 : Nat) ^ 8 = 256 := rfl
 have hp7 := Nat.pow_le_pow_right (show 0 < 2 by decide) (show B ≤ 7 by omega)
 have h7 : (2 : Nat) ^ 7 = 128 := rfl
 have h10 : (2 : Nat) ^ 10 = 1024 := rfl
 have hpp := Nat.two_pow_pos h.sights.length
 have hz0 := Z9q hok
 rw [hBt] at hz0 ⊢
 refine bx rfl rfl rfl (fun b1 => pur 2 rfl (sqt 1 rfl (pur 1 rfl (Z0 (sqt 1 rfl (pur 1 rfl (Z3 ?_)))))))
 refine Sy.heap (fun w h9 => St.norows (sz := 1) h9) ?_
 refine Zd (ι := {y : Nat × List Int × Option Addr × Nat // 1 ≤ y.1 ∧ y.1 ≤ 2 ^ h.sights.length ∧ MinI (fun t => !Z34 h (2 ^ B) t) y.1 (!y.2.2.1.isNone) y.2.1 ∧ y.2.1.length ≤ 10}) (fun y => ⟨[(1, .pointer (some ⟨b1, 0, none⟩)), (4, .slice y.1.2.2.1 y.1.2.1.length y.1.2.2.2), (5, .int .i64 ((y.1.1 : Nat) : Int))], (b1, cel 35 (htl h (h.sg ag cg) (h.ss as_ cs))) :: H, RowsA y.1.2.2.1 1 (Z4 y.1.2.1) :: R⟩) (fun y => 2 ^ h.sights.length - y.1.1) ⟨(1, [], none, 0), Nat.le_refl _, by dsimp only; omega, MinI.start1 (by rw [hz0]; rfl), by simp⟩ ?_ (fun y => ?_)
 exact Zk idH
 obtain ⟨⟨s, bs, ab, cb⟩, hs1, hs, hmi, hbl⟩ := y
 dsimp only at hs1 hs hmi hbl ⊢
 refine Z0 (sqt 6 rfl (pur 1 rfl (sp rfl (PE.fA Z0D rfl) rfl (spL rfl rfl (lh Z5X rfl rfl) rfl (sp rfl (PE.lenSl Z5L rfl) rfl ?_)))))
 refine clV rfl Z8p rfl rfl (Z3N h.sights.length (by omega) _ _) ?_
 refine pur 1 rfl ?_
 refine Z1 rfl ?_ ?_ <;> intro hc0 <;> try simp only [cS] at hc0
 have hml := Z56 s
 have hmp := Z3n hs1 (show s < 2 ^ 10 by omega)
 refine Z2 (Z0 (Z3 (sqt 4 rfl (pur 1 rfl ?_))))
 refine cl rfl Zb8 rfl rfl (Z4A s (by omega) _ _) ?_
 rintro _ _ R1 ⟨o18, rfl, rfl, hR1⟩
 obtain rfl := hR1.symm
 clear hR1
 obtain ⟨al18, cl18, he, hcl18, hzz⟩ := o18.freezeC
 rw [irl] at hcl18
 rw [he, irl]
 refine Sy.heap (H' := _) (fun w h9 => hzz h9) ?_
 clear he hzz
 refine pur 2 rfl (Z0 (sqt 1 rfl (pur 1 rfl (Z3 ?_))))
 refine Zd (ι := {k : Nat // k ≤ 2 ^ B ∧ (∀ j, j + 1 ≤ k → j + 1 < k → Z8H h j s = false)}) (fun k => ⟨[(1, .pointer (some ⟨b1, 0, none⟩)), (4, .slice ab bs.length cb), (5, .int .i64 ((s : Nat) : Int)), (6, .slice al18 (Zp s).length cl18), (7, .bool (Z34 h k.1 s)), (8, .int .i64 (k.1 : Int))], (b1, cel 35 (htl h (h.sg ag cg) (h.ss as_ cs))) :: H, RowsA al18 1 (Z4 (Zp s)) :: RowsA ab 1 (Z4 bs) :: R⟩) (fun k => 2 ^ B - k.1) ⟨0, Nat.zero_le _, fun j h1 h2 => by omega⟩ ?_ (fun k => ?_)
 exact Zk idH
 obtain ⟨k, hk, hkn⟩ := k
 dsimp only at hk hkn ⊢
 refine Z0 (sqt 9 rfl (pur 1 rfl (sp rfl (PE.fA Z0n rfl) rfl (spL rfl rfl (lh (v := .int .i64 h.bins) sc3 rfl rfl) rfl ?_))))
 rw [hB]
 refine clV rfl Z8p rfl rfl (Z3N B (by omega) _ _) ?_
 refine pur 2 rfl ?_
 refine Zo 24 rfl ?_ ?_ <;> intro g24
 try simp only [cS] at g24
 refine pur 3 rfl ?_
 refine Z1 rfl ?_ ?_ <;> intro hc1
 have hkB : k < 2 ^ B := by omega
 have hnk : Z34 h k s = false := by rw [← Bool.not_eq_true']; exact hc1
 have hsc := Z8R h k s
 rw [hnk, Bool.false_or] at hsc
 refine Z2 (Z0 (Z3 ?_))
 refine Zl [0, 0, 2, 0, 15, 31] (.ld 0 (.tk 1 (.tk 3 (.big 2 (.big 4 (.tk 5 .done)))))) Zz (by kernel_rfl) ?_
 refine ld rfl rfl (lhA (htl h (h.sg ag cg) (h.ss as_ cs)) Z57 rfl rfl rfl) rfl (Zr 2 rfl ?_)
 refine cl rfl Zb8 rfl rfl (Z4A k (by omega) _ _) ?_
 rintro _ _ R1 ⟨o32, rfl, rfl, hR1⟩
 obtain rfl := hR1.symm
 clear hR1
 obtain ⟨al32, cl32, he, hcl32, hzz⟩ := o32.freezeC
 rw [irl] at hcl32
 rw [he, irl]
 refine Sy.heap (H' := _) (fun w h9 => hzz h9) ?_
 clear he hzz
 refine bg (fun w hs => ⟨(lhA (htl h (h.sg ag cg) (h.ss as_ cs)) Z57 rfl rfl rfl) w hs, trivial⟩) ?_
 refine clV rfl ZbF rfl rfl (Zbp h ag as_ cg cs hok (Zp k) al32 cl32 (by rw [hB]; exact Z41 (by omega) hkB) s (by omega) _ _) ?_
 refine bgT ?_
 rw [Z2e (show k < 2 ^ 10 by omega), ← hsc]
 refine Zr 1 rfl (sqr 3 rfl (pur 1 rfl (sp rfl (PE.add rfl rfl (by omega)) rfl (pur 1 rfl ?_))))
 exact Z7 ⟨k + 1, by omega, fun j h1 h2 => by
   cases hr : Z8H h j s with
   | false => rfl
   | true =>
     have h3 : Z34 h k s = true := List.any_eq_true.2 ⟨j, List.mem_range.2 (by omega), hr⟩
     rw [hnk] at h3; cases h3⟩ (by dsimp only; omega) (by repeat' first | exact Sub.nil | apply Sub.cons | rfl | (simp [lk]; omega)) (fun w h9 => h9.ftail)
 refine Z8 (Za (Za (Zm (sqt 11 rfl ?_))))
 have hany : Z34 h k s = Z34 h (2 ^ B) s := by
   rcases Nat.lt_or_ge k (2 ^ B) with h1 | h1
   · have h2 : Z34 h k s = true := by
       first
         | (focus (exfalso; omega))
         | (rw [← Bool.not_eq_false']; exact hc1)
     rw [h2, Z72 hk h2]
   · rw [show k = 2 ^ B by omega]
 rw [hany]
 refine pur 3 rfl ?_
 refine Zo 37 rfl ?_ ?_ <;> intro g37
 have hp : (!Z34 h (2 ^ B) s) = true := g37
 refine pur 1 rfl ?_
 refine spG rfl rfl rfl rfl (PE.eqlNil Zx rfl rfl) rfl ?_
 refine pur 1 rfl ?_
 refine Zo 40 rfl ?_ ?_ <;> intro g40
 refine Zg (a := al18) (sz := 1) (rows := Z4 (Zp s)) (ne0 (by rw [irl]; omega)) (fun ba bo he => ?_)
 subst he
 refine pur 5 rfl ?_
 refine ZC rfl ?_
 refine sqr 2 rfl (pur 2 rfl (sqr 3 rfl (pur 1 rfl (sp rfl (PE.add rfl rfl (by omega)) rfl (pur 1 rfl ?_)))))
 exact Zb ⟨(s + 1, (Zp s), some ⟨ba, bo, none⟩, cl18), by dsimp only; omega, by dsimp only; omega, hmi.take (.inl (by rw [g40]; rfl)) hp, hml⟩ (fun w h9 => h9.facts (fun g hg => by simp only [List.mem_cons] at hg ⊢; rcases hg with h8 | h8 <;> simp [h8]))
 refine pur 2 rfl ?_
 refine Z2t rfl rfl rfl rfl Z7e rfl rfl (Z3l (Zp s) bs (by omega) (by omega) al18 ab cl18 cb _ _) ?_
 refine pur 2 rfl ?_
 refine Z1 rfl ?_ ?_ <;> intro hc2
 refine Zg (a := al18) (sz := 1) (rows := Z4 (Zp s)) (ne0 (by rw [irl]; omega)) (fun ba bo he => ?_)
 subst he
 refine sqr 2 rfl (pur 2 rfl (sqr 3 rfl (pur 1 rfl (sp rfl (PE.add rfl rfl (by omega)) rfl (pur 1 rfl ?_)))))
 first
   | exact Z9 ⟨(s + 1, (Zp s), some ⟨ba, bo, none⟩, cl18), by dsimp only; omega, by dsimp only; omega, hmi.take (.inl (by rw [g40]; rfl)) hp, hml⟩ (by dsimp only; omega) (fun w h9 => h9.facts (fun g hg => by simp only [List.mem_cons] at hg ⊢; rcases hg with h8 | h8 <;> simp [h8]))
   | exact Z9 ⟨(s + 1, (Zp s), some ⟨ba, bo, none⟩, cl18), by dsimp only; omega, by dsimp only; omega, hmi.take (.inr hc2) hp, hml⟩ (by dsimp only; omega) (fun w h9 => h9.facts (fun g hg => by simp only [List.mem_cons] at hg ⊢; rcases hg with h8 | h8 <;> simp [h8]))
 refine Z2 (sqr 3 rfl (pur 1 rfl (sp rfl (PE.add rfl rfl (by omega)) rfl (pur 1 rfl ?_))))
 exact Zb ⟨(s + 1, bs, ab, cb), by dsimp only; omega, by dsimp only; omega, hmi.skip (.inr ⟨by rw [g40]; rfl, hc2⟩), hbl⟩ (fun w h9 => h9.ftail)
 have hp : (!Z34 h (2 ^ B) s) = false := g37
 refine pur 3 rfl ?_
 repeat refine spU rfl rfl rfl rfl rfl rfl rfl ?_
 refine pur 2 rfl ?_
 refine Zv rfl ?_
 refine Z2 (sqr 3 rfl (pur 1 rfl (sp rfl (PE.add rfl rfl (by omega)) rfl (pur 1 rfl ?_))))
 exact Zb ⟨(s + 1, bs, ab, cb), by dsimp only; omega, by dsimp only; omega, hmi.skip (.inl hp), hbl⟩ (fun w h9 => h9.ftail)
 try simp only [cS] at g24
 refine pur 3 rfl ?_
 refine Zv rfl ?_
 refine Z8 (Za (Za (Zm (sqt 11 rfl ?_))))
 have hany : Z34 h k s = Z34 h (2 ^ B) s := by
   rcases Nat.lt_or_ge k (2 ^ B) with h1 | h1
   · have h2 : Z34 h k s = true := by
       first
         | (focus (exfalso; omega))
         | (rw [← Bool.not_eq_false']; exact hc1)
     rw [h2, Z72 hk h2]
   · rw [show k = 2 ^ B by omega]
 rw [hany]
 refine pur 3 rfl ?_
 refine Zo 37 rfl ?_ ?_ <;> intro g37
 have hp : (!Z34 h (2 ^ B) s) = true := g37
 refine pur 1 rfl ?_
 refine spG rfl rfl rfl rfl (PE.eqlNil Zx rfl rfl) rfl ?_
 refine pur 1 rfl ?_
 refine Zo 40 rfl ?_ ?_ <;> intro g40
 refine Zg (a := al18) (sz := 1) (rows := Z4 (Zp s)) (ne0 (by rw [irl]; omega)) (fun ba bo he => ?_)
 subst he
 refine pur 5 rfl ?_
 refine ZC rfl ?_
 refine sqr 2 rfl (pur 2 rfl (sqr 3 rfl (pur 1 rfl (sp rfl (PE.add rfl rfl (by omega)) rfl (pur 1 rfl ?_)))))
 exact Zb ⟨(s + 1, (Zp s), some ⟨ba, bo, none⟩, cl18), by dsimp only; omega, by dsimp only; omega, hmi.take (.inl (by rw [g40]; rfl)) hp, hml⟩ (fun w h9 => h9.facts (fun g hg => by simp only [List.mem_cons] at hg ⊢; rcases hg with h8 | h8 <;> simp [h8]))
 refine pur 2 rfl ?_
 refine Z2t rfl rfl rfl rfl Z7e rfl rfl (Z3l (Zp s) bs (by omega) (by omega) al18 ab cl18 cb _ _) ?_
 refine pur 2 rfl ?_
 refine Z1 rfl ?_ ?_ <;> intro hc2
 refine Zg (a := al18) (sz := 1) (rows := Z4 (Zp s)) (ne0 (by rw [irl]; omega)) (fun ba bo he => ?_)
 subst he
 refine sqr 2 rfl (pur 2 rfl (sqr 3 rfl (pur 1 rfl (sp rfl (PE.add rfl rfl (by omega)) rfl (pur 1 rfl ?_)))))
 first
   | exact Z9 ⟨(s + 1, (Zp s), some ⟨ba, bo, none⟩, cl18), by dsimp only; omega, by dsimp only; omega, hmi.take (.inl (by rw [g40]; rfl)) hp, hml⟩ (by dsimp only; omega) (fun w h9 => h9.facts (fun g hg => by simp only [List.mem_cons] at hg ⊢; rcases hg with h8 | h8 <;> simp [h8]))
   | exact Z9 ⟨(s + 1, (Zp s), some ⟨ba, bo, none⟩, cl18), by dsimp only; omega, by dsimp only; omega, hmi.take (.inr hc2) hp, hml⟩ (by dsimp only; omega) (fun w h9 => h9.facts (fun g hg => by simp only [List.mem_cons] at hg ⊢; rcases hg with h8 | h8 <;> simp [h8]))
 refine Z2 (sqr 3 rfl (pur 1 rfl (sp rfl (PE.add rfl rfl (by omega)) rfl (pur 1 rfl ?_))))
 exact Zb ⟨(s + 1, bs, ab, cb), by dsimp only; omega, by dsimp only; omega, hmi.skip (.inr ⟨by rw [g40]; rfl, hc2⟩), hbl⟩ (fun w h9 => h9.ftail)
 have hp : (!Z34 h (2 ^ B) s) = false := g37
 refine pur 3 rfl ?_
 repeat refine spU rfl rfl rfl rfl rfl rfl rfl ?_
 refine pur 2 rfl ?_
 refine Zv rfl ?_
 refine Z2 (sqr 3 rfl (pur 1 rfl (sp rfl (PE.add rfl rfl (by omega)) rfl (pur 1 rfl ?_))))
 exact Zb ⟨(s + 1, bs, ab, cb), by dsimp only; omega, by dsimp only; omega, hmi.skip (.inl hp), hbl⟩ (fun w h9 => h9.ftail)
 obtain rfl : s = 2 ^ h.sights.length := by omega
 refine Z8 (Za (Za (Zm (sqt 5 rfl (pur 2 rfl (sp rfl (PE.neqNil Zx rfl rfl) rfl (pur 2 rfl (Z5 ?_))))))))
 exact rtB rfl rfl rfl rfl ⟨_, bs, ab, cb, hmi, rfl, rfl, rfl⟩ (fun w h9 => h9.del b1)
set_option maxHeartbeats 800000 in
theorem Zbf (h : Hse) (ag as_ : Option Addr) (cg cs : Nat) (hok : h.ok) (H : Zc) (R : Z6) [hG : MemRows ag 2 (Zf h.gaps) R] [hS : MemRows as_ 3 (Ze h.sights) R] :
    Fn Tryz.prog 47 [h.v (h.sg ag cg) (h.ss as_ cs)] H R (fun v H' R' => ∃ (bs : List Int) (ab : Option Addr) (cb : Nat), LonI (fun t => okN h (Zp t) h.bins.toNat) (2 ^ h.sights.length) bs ∧ v = .slice ab bs.length cb ∧ H' = H ∧ R' = RowsA ab 1 (Z4 bs) :: R) := by
 refine Zi Tryz.func47 rfl Tryz.ntmps47 rfl ?_
 refine sqt 2 rfl ?_
 have hbn := hok.bins
 have hsl := hok.sl
 obtain ⟨B, hB⟩ : ∃ B : Nat, h.bins = B := ⟨h.bins.toNat, by omega⟩
 have hBt : h.bins.toNat = B := by omega
 have hp8 := Nat.pow_le_pow_right (show 0 < 2 by decide) (show h.sights.length ≤ 8 by omega)
 have h8 : (2 : Nat) ^ 8 = 256 := rfl
 have hp7 := Nat.pow_le_pow_right (show 0 < 2 by decide) (show B ≤ 7 by omega)
 have h7 : (2 : Nat) ^ 7 = 128 := rfl
 have h10 : (2 : Nat) ^ 10 = 1024 := rfl
 have hpp := Nat.two_pow_pos h.sights.length
 rw [hBt]
 refine Sy.heap (fun w h9 => St.norows (sz := 1) h9) ?_
 refine bx rfl rfl rfl (fun b1 => pur 1 rfl (sqt 3 rfl (spL rfl rfl (lhA (htl h (h.sg ag cg) (h.ss as_ cs)) Z57 rfl rfl rfl) rfl ?_)))
 refine cl rfl ZfD rfl rfl (Z7M h ag as_ cg cs hok _ _) ?_
 rintro _ _ R1 ⟨ka, kc, rfl, rfl, hR1⟩
 obtain rfl := hR1.symm
 clear hR1
 have hcc9 : h.clrR.1.length ≤ 7 := by
   unfold Hse.clrR
   cases decide (h.check ≠ 0)
   · exact Nat.le_trans (Z0r _ _) (by omega)
   · exact Nat.zero_le _
 refine pur 1 rfl (sqt 1 rfl (pur 1 rfl (Z0 (sqt 1 rfl (pur 1 rfl (Z3 ?_))))))
 refine Sy.heap (fun w h9 => St.norows (sz := 1) h9) ?_
 refine Zd (ι := {y : Nat × List Int × Option Addr × Nat // 1 ≤ y.1 ∧ y.1 ≤ 2 ^ h.sights.length ∧ LonI (fun t => okN h (Zp t) B) y.1 y.2.1 ∧ y.2.1.length ≤ 10}) (fun y => ⟨[(1, .pointer (some ⟨b1, 0, none⟩)), (3, .slice ka h.clrR.1.length kc), (4, .slice y.1.2.2.1 y.1.2.1.length y.1.2.2.2), (5, .int .i64 ((y.1.1 : Nat) : Int))], (b1, cel 35 (htl h (h.sg ag cg) (h.ss as_ cs))) :: H, RowsA y.1.2.2.1 1 (Z4 y.1.2.1) :: RowsA ka 1 (Z4 h.clrR.1) :: RowsA none 1 [] :: R⟩) (fun y => 2 ^ h.sights.length - y.1.1) ⟨(1, [], none, 0), Nat.le_refl _, by dsimp only; omega, LonI.start _, by simp⟩ ?_ (fun y => ?_)
 exact Zk idH
 obtain ⟨⟨s, bs, ab, cb⟩, hs1, hs, hlo, hbl⟩ := y
 dsimp only at hs1 hs hlo hbl ⊢
 refine Z0 (sqt 6 rfl (pur 1 rfl (sp rfl (PE.fA Z0D rfl) rfl (spL rfl rfl (lh Z5X rfl rfl) rfl (sp rfl (PE.lenSl Z5L rfl) rfl ?_)))))
 refine clV rfl Z8p rfl rfl (Z3N h.sights.length (by omega) _ _) ?_
 refine pur 1 rfl ?_
 refine Z1 rfl ?_ ?_ <;> intro hc0 <;> try simp only [cS] at hc0
 have hsl9 : s < 2 ^ h.sights.length := by omega
 have hml := Z56 s
 refine Z2 (Z0 (Z3 (sqt 4 rfl (pur 1 rfl ?_))))
 refine cl rfl Zb8 rfl rfl (Z4A s (by omega) _ _) ?_
 rintro _ _ R1 ⟨o25, rfl, rfl, hR1⟩
 obtain rfl := hR1.symm
 clear hR1
 obtain ⟨al25, cl25, he, hcl25, hzz⟩ := o25.freezeC
 rw [irl] at hcl25
 rw [he, irl]
 refine Sy.heap (H' := _) (fun w h9 => hzz h9) ?_
 clear he hzz
 refine pur 2 rfl (Z0 (sqt 1 rfl (pur 1 rfl (Z3 ?_))))
 refine Zd (ι := {i : Nat // i ≤ (Zp s).length}) (fun i => ⟨[(1, .pointer (some ⟨b1, 0, none⟩)), (3, .slice ka h.clrR.1.length kc), (4, .slice ab bs.length cb), (5, .int .i64 ((s : Nat) : Int)), (6, .slice al25 (Zp s).length cl25), (7, .bool (((Zp s).take i.1).all (Z1V h))), (8, .int .i64 (i.1 : Int))], (b1, cel 35 (htl h (h.sg ag cg) (h.ss as_ cs))) :: H, RowsA al25 1 (Z4 (Zp s)) :: RowsA ab 1 (Z4 bs) :: RowsA ka 1 (Z4 h.clrR.1) :: RowsA none 1 [] :: R⟩) (fun i => (Zp s).length - i.1) ⟨0, Nat.zero_le _⟩ ?_ (fun i => ?_)
 exact Zk idH
 obtain ⟨i, hi⟩ := i
 dsimp only at hi ⊢
 refine Z0 (sqt 4 rfl (pur 2 rfl (sp rfl (PE.lenSl Zx rfl) rfl (pur 1 rfl ?_))))
 refine Z1 rfl ?_ ?_ <;> intro hc1 <;> try simp only [cS] at hc1
 obtain ⟨z, hz⟩ : ∃ z, (Zp s)[i]? = some z := ⟨_, List.getElem?_eq_getElem (by omega)⟩
 obtain ⟨u, _, hub, rfl⟩ := memL_bit.1 (List.mem_of_getElem? hz)
 have hun := Z02 hsl9 hub
 obtain ⟨x, hx⟩ : ∃ x, h.sights[u]? = some x := ⟨_, List.getElem?_eq_getElem hun⟩
 have hso := hok.sights x (List.mem_of_getElem? hx)
 have hsx : Z1V h (u : Int) = x.seen := by unfold Z1V; rw [Int.toNat_natCast, hx]
 have hst := Z8Z (p := Z1V h) hz
 rw [hsx] at hst
 refine Zg (a := al25) (sz := 1) (rows := Z4 (Zp s)) (ne0 (by rw [irl]; omega)) (fun bl9 ol9 he => ?_)
 subst he
 refine Zg (a := as_) (sz := 3) (rows := Ze h.sights) (ne0 (by rw [Z0x]; omega)) (fun bs9 os9 he => ?_)
 subst he
 refine Z2 (Z0 (Z3 ?_))
 refine Zl [0, 1, 3, 7, 3, 3, 51, 115, 255, 511, 1023, 2047, 4095] (tks 0 3 (.ld 3 (tks 4 3 (.ld 7 (.tk 8 (.tk 9 (.ld 10 (.tk 11 (.tk 12 .done))))))))) Zz (by kernel_rfl) ?_
 refine Zr 2 rfl ?_
 refine Zo 33 rfl ?_ ?_ <;> intro g33
 refine tkG rfl rfl rfl rfl (PE.fA Z0D rfl) rfl ?_
 refine ldG rfl rfl rfl rfl rfl (lh Z5X rfl rfl) rfl (Zr 2 rfl ?_)
 refine tkG rfl rfl rfl rfl (PE.indexAddr Z0a rfl rfl (by omega) (by omega)) rfl ?_
 refine ldG rfl rfl rfl rfl rfl (lf0 sc3 (ZB hz) rfl) rfl ?_
 refine tkG rfl rfl rfl rfl (PE.indexAddr Zdw rfl rfl (by omega) (by omega)) rfl ?_
 refine tkG rfl rfl rfl rfl (PE.fA Z65 rfl) rfl ?_
 refine ldG rfl rfl rfl rfl rfl (lf (j := 2) sc4 (Z1w hx) rfl) rfl (Zr 2 rfl (sqr 3 rfl (pur 1 rfl (sp rfl (PE.add rfl rfl (by omega)) rfl (pur 1 rfl ?_)))))
 first
   | (have f1 : ((Zp s).take (i + 1)).all (Z1V h) = x.seen := by rw [hst, g33]; rfl
      exact Z7 ⟨i + 1, by omega⟩ (by dsimp only; omega) (by rw [f1]; exact (by repeat' first | exact Sub.nil | apply Sub.cons | rfl | (simp [lk]; omega))) idH)
   | (have f1 : ((Zp s).take (i + 1)).all (Z1V h) = false := by rw [hst, g33]; rfl
      exact Z7 ⟨i + 1, by omega⟩ (by dsimp only; omega) (by rw [f1]; exact (by repeat' first | exact Sub.nil | apply Sub.cons | rfl | (simp [lk]; omega))) idH)
 refine Zr 1 rfl ?_
 refine ldN rfl rfl rfl rfl rfl rfl rfl rfl ?_
 refine Zr 3 rfl ?_
 refine ldN rfl rfl rfl rfl rfl rfl rfl rfl ?_
 refine Zr 2 rfl ?_
 refine ldN rfl rfl rfl rfl rfl rfl rfl rfl ?_
 refine Zr 2 rfl (sqr 3 rfl (pur 1 rfl (sp rfl (PE.add rfl rfl (by omega)) rfl (pur 1 rfl ?_))))
 first
   | (have f1 : ((Zp s).take (i + 1)).all (Z1V h) = x.seen := by rw [hst, g33]; rfl
      exact Z7 ⟨i + 1, by omega⟩ (by dsimp only; omega) (by rw [f1]; exact (by repeat' first | exact Sub.nil | apply Sub.cons | rfl | (simp [lk]; omega))) idH)
   | (have f1 : ((Zp s).take (i + 1)).all (Z1V h) = false := by rw [hst, g33]; rfl
      exact Z7 ⟨i + 1, by omega⟩ (by dsimp only; omega) (by rw [f1]; exact (by repeat' first | exact Sub.nil | apply Sub.cons | rfl | (simp [lk]; omega))) idH)
 obtain rfl : i = (Zp s).length := by omega
 rw [List.take_length, ← Zao h]
 refine Z8 (Za (Za (Zm (Z0 (sqt 1 rfl (pur 1 rfl (Z3 ?_)))))))
 refine Zd (ι := {k : Nat // k ≤ B}) (fun k => ⟨[(1, .pointer (some ⟨b1, 0, none⟩)), (3, .slice ka h.clrR.1.length kc), (4, .slice ab bs.length cb), (5, .int .i64 ((s : Nat) : Int)), (6, .slice al25 (Zp s).length cl25), (7, .bool (okN h (Zp s) k.1)), (9, .int .i64 (k.1 : Int))], (b1, cel 35 (htl h (h.sg ag cg) (h.ss as_ cs))) :: H, RowsA al25 1 (Z4 (Zp s)) :: RowsA ab 1 (Z4 bs) :: RowsA ka 1 (Z4 h.clrR.1) :: RowsA none 1 [] :: R⟩) (fun k => B - k.1) ⟨0, Nat.zero_le _⟩ ?_ (fun k => ?_)
 exact Zk idH
 obtain ⟨k, hk⟩ := k
 dsimp only at hk ⊢
 have hkk := Za0 h (Zp s) k
 refine Z0 (sqt 4 rfl (pur 1 rfl (sp rfl (PE.fA Z0n rfl) rfl (spL rfl rfl (lh (v := .int .i64 h.bins) sc3 rfl rfl) rfl ?_))))
 rw [hB]
 refine pur 1 rfl ?_
 refine Z1 rfl ?_ ?_ <;> intro hc2 <;> try simp only [cS] at hc2
 have hkl : ZS h.bins [(k : Int)] = 0 := Z3i (fun x hx => by rw [List.mem_singleton.1 hx]; omega) (by simp)
 refine Z2 (Z0 (Z3 (sqt 6 rfl (spL rfl rfl (lhA (htl h (h.sg ag cg) (h.ss as_ cs)) Z57 rfl rfl rfl) rfl (pur 1 rfl ?_)))))
 refine bsl (out := [_]) rfl Z0j zl3 rfl rfl rfl rfl rfl rfl (fun b52 => ?_)
 refine Sy.heap (fun w h9 => St.rows (sz := 1) (rows := Z4 [(k : Int)]) (rest := []) (h9.pull b52) (by simp)) ?_
 refine cl rfl Z9J rfl rfl (Z2p h ag as_ cg cs hok [(k : Int)] [] (some ⟨b52, 0, none⟩) none 1 0 hkl (fun x hx => by cases hx) (by decide) _ _) ?_
 rintro _ _ R1 ⟨aw, cw, rfl, rfl, hR1⟩
 obtain rfl := hR1.symm
 clear hR1
 rw [hBt]
 refine pur 2 rfl (Z0 (sqt 1 rfl ?_))
 rw [show msk [] = 0 from rfl, Z4X]
 refine pur 1 rfl (Z3 ?_)
 refine Zd (ι := {i : Nat // i ≤ (Zp s).length}) (fun i => ⟨[(1, .pointer (some ⟨b1, 0, none⟩)), (3, .slice ka h.clrR.1.length kc), (4, .slice ab bs.length cb), (5, .int .i64 ((s : Nat) : Int)), (6, .slice al25 (Zp s).length cl25), (7, .bool (okN h (Zp s) k)), (9, .int .i64 (k : Int)), (10, .slice aw B cw), (11, .int .i64 (((((Zp s).take i.1).countP (Z40 h k) : Nat)) : Int)), (12, .int .i64 (i.1 : Int))], (b1, cel 35 (htl h (h.sg ag cg) (h.ss as_ cs))) :: H, RowsA aw 1 (Z4 (wkL h.gaps 0 (2 ^ k) B)) :: RowsA al25 1 (Z4 (Zp s)) :: RowsA ab 1 (Z4 bs) :: RowsA ka 1 (Z4 h.clrR.1) :: RowsA none 1 [] :: R⟩) (fun i => (Zp s).length - i.1) ⟨0, Nat.zero_le _⟩ ?_ (fun i => ?_)
 exact Zk (fun w h9 => h9.facts (fun g hg => by simp only [List.mem_cons] at hg ⊢; rcases hg with h8 | h8 | h8 | h8 | h8 | h8 <;> simp [h8]))
 obtain ⟨i, hi⟩ := i
 dsimp only at hi ⊢
 have hct := Z8X (Z40 h k) (Zp s) i
 refine Z0 (sqt 4 rfl (pur 2 rfl (sp rfl (PE.lenSl Zx rfl) rfl (pur 1 rfl ?_))))
 refine Z1 rfl ?_ ?_ <;> intro hc3 <;> try simp only [cS] at hc3
 obtain ⟨z, hz⟩ : ∃ z, (Zp s)[i]? = some z := ⟨_, List.getElem?_eq_getElem (by omega)⟩
 obtain ⟨u, _, hub, rfl⟩ := memL_bit.1 (List.mem_of_getElem? hz)
 have hun := Z02 hsl9 hub
 obtain ⟨x, hx⟩ : ∃ x, h.sights[u]? = some x := ⟨_, List.getElem?_eq_getElem hun⟩
 have hso := hok.sights x (List.mem_of_getElem? hx)
 have hrx : Z40 h k (u : Int) = decide (wk h.gaps 0 (2 ^ k) x.bin.toNat ≤ x.week) := by unfold Z40; rw [Int.toNat_natCast, hx]
 have hst := Z8P (p := Z40 h k) hz
 rw [hrx] at hst
 have hxb : x.bin.toNat < B := by have := hso.2; omega
 have hgw := Z0U (l := (wkL h.gaps 0 (2 ^ k) B)) (k := x.bin.toNat) (by rw [Z1j]; exact hxb)
 rw [Z5e hxb] at hgw
 have hwc := Z9z (gs := h.gaps) (m := (2 ^ k)) (k := x.bin.toNat) hso.1.2
 have hgw2 : (Z4 (wkL h.gaps 0 (2 ^ k) B))[x.bin.toNat]? = some [.int .i64 (wkC h.gaps 0 (2 ^ k) x.bin.toNat)] := ZB hgw
 generalize wkC h.gaps 0 (2 ^ k) x.bin.toNat = wx at *
 refine Zg (a := aw) (sz := 1) (rows := Z4 (wkL h.gaps 0 (2 ^ k) B)) (by intro h0; have := congrArg List.length h0; rw [irl, Z1j] at this; simp only [List.length_nil] at this; omega) (fun bw ow hew => ?_)
 subst hew
 rw [← hwc] at hst
 refine Zg (a := al25) (sz := 1) (rows := Z4 (Zp s)) (ne0 (by rw [irl]; omega)) (fun bl9 ol9 he => ?_)
 subst he
 refine Zg (a := as_) (sz := 3) (rows := Ze h.sights) (ne0 (by rw [Z0x]; omega)) (fun bs9 os9 he => ?_)
 subst he
 refine Z2 (Z0 (Z3 (Z0 ?_)))
 refine Zl [0, 1, 0, 0, 12, 28, 63, 127, 0, 511] (.tk 0 (.ld 1 (tks 2 3 (.ld 5 (.tk 6 (.ld 7 (.big 8 (.big 9 .done)))))))) Zz (by kernel_rfl) ?_
 refine tk rfl (PE.fA Z0D rfl) rfl (ld rfl rfl (lh Z5X rfl rfl) rfl (Zr 2 rfl (tk rfl (PE.indexAddr Z0a rfl rfl (by omega) (by omega)) rfl (ld rfl rfl (lf0 sc3 (ZB hz) rfl) rfl (tk rfl (PE.indexAddr Zdw rfl rfl (by omega) (by omega)) rfl (ld rfl rfl (lfA ZaP (row := Z0w x) (Z1w hx) rfl) rfl (alc rfl ZaS rfl (fun b13 => ?_))))))))
 refine bg (fun w hs => ⟨(lfA ZaP (row := Z0w x) (Z1w hx) rfl) w hs, (lf0 sc3 (ZB hz) rfl) w hs, (lh Z5X rfl rfl) w hs, trivial⟩) ?_
 refine ZN (l' := Z0w x) rfl rfl rfl Zdo rfl rfl rfl rfl (nl rfl) ?_
 refine bgT (Z0 ?_)
 refine Zl [0, 0, 2, 7, 15, 31, 63, 127, 127, 383, 1023, 2047, 127, 4223, 16383, 32767] (.tk 0 (.tk 1 (.ld 2 (.tk 3 (.ld 4 (tks 5 4 (.ld 9 (.tk 10 (.ld 11 (.tk 12 (.ld 13 (.tk 14 (.tk 15 .done))))))))))))) Zz (by kernel_rfl) ?_
 refine Zr 1 rfl (tk rfl (PE.fA Z26 rfl) rfl (ld rfl rfl (lh sc3 rfl rfl) rfl (tk rfl (PE.indexAddr Z0a rfl rfl (by omega) (by omega)) rfl (ld rfl rfl (lf0 sc3 hgw2 rfl) rfl (Zr 2 rfl ?_)))))
 refine Zo 74 rfl ?_ ?_ <;> intro g74
 refine Zr 1 rfl ?_
 refine tkG rfl rfl rfl rfl (PE.fA Z26 rfl) rfl ?_
 refine ldG rfl rfl rfl rfl rfl (lh sc3 rfl rfl) rfl ?_
 refine tkG rfl rfl rfl rfl (PE.indexAddr Z0a rfl rfl (by omega) (by omega)) rfl ?_
 refine ldG rfl rfl rfl rfl rfl (lf0 sc3 hgw2 rfl) rfl ?_
 refine tkG rfl rfl rfl rfl (PE.fA Z52 rfl) rfl ?_
 refine ldG rfl rfl rfl rfl rfl (lh sc3 rfl rfl) rfl (Zr 2 rfl ?_)
 refine Z1 rfl ?_ ?_ <;> intro hc4
 have hn1 : ((Zp s).take (i + 1)).countP (Z40 h k) = ((Zp s).take i).countP (Z40 h k) + 1 := by rw [hst, g74, hc4]; rfl
 refine sqr 3 rfl (pur 1 rfl (sp rfl (PE.add rfl rfl (by omega)) rfl (pur 1 rfl (sqr 3 rfl (pur 1 rfl (sp rfl (PE.add rfl rfl (by omega)) rfl (pur 1 rfl ?_)))))))
 exact Z7 ⟨i + 1, by omega⟩ (by dsimp only; omega) (by rw [show (((((Zp s).take i).countP (Z40 h k) : Nat)) : Int) + 1 = (((((Zp s).take (i + 1)).countP (Z40 h k) : Nat)) : Int) by omega]; exact (by repeat' first | exact Sub.nil | apply Sub.cons | rfl | (simp [lk]; omega))) (fun w h9 => h9.del b13)
 have hn1 : ((Zp s).take (i + 1)).countP (Z40 h k) = ((Zp s).take i).countP (Z40 h k) := by rw [hst, g74, hc4]; rfl
 refine Z2 (sqr 3 rfl (pur 1 rfl (sp rfl (PE.add rfl rfl (by omega)) rfl (pur 1 rfl ?_))))
 first
   | exact Z7 ⟨i + 1, by omega⟩ (by dsimp only; omega) (by rw [hn1]; exact (by repeat' first | exact Sub.nil | apply Sub.cons | rfl | (simp [lk]; omega))) (fun w h9 => h9.del b13)
   | (have hn1 : ((Zp s).take (i + 1)).countP (Z40 h k) = ((Zp s).take i).countP (Z40 h k) := by rw [hst, g74]; rfl
      exact Z7 ⟨i + 1, by omega⟩ (by dsimp only; omega) (by rw [hn1]; exact (by repeat' first | exact Sub.nil | apply Sub.cons | rfl | (simp [lk]; omega))) (fun w h9 => h9.del b13))
 refine Zr 2 rfl ?_
 refine ldN rfl rfl rfl rfl rfl rfl rfl rfl ?_
 refine Zr 1 rfl ?_
 refine ldN rfl rfl rfl rfl rfl rfl rfl rfl ?_
 refine Zr 1 rfl ?_
 refine ldN rfl rfl rfl rfl rfl rfl rfl rfl ?_
 refine Zr 2 rfl ?_
 refine Zv rfl ?_
 refine Z2 (sqr 3 rfl (pur 1 rfl (sp rfl (PE.add rfl rfl (by omega)) rfl (pur 1 rfl ?_))))
 first
   | exact Z7 ⟨i + 1, by omega⟩ (by dsimp only; omega) (by rw [hn1]; exact (by repeat' first | exact Sub.nil | apply Sub.cons | rfl | (simp [lk]; omega))) (fun w h9 => h9.del b13)
   | (have hn1 : ((Zp s).take (i + 1)).countP (Z40 h k) = ((Zp s).take i).countP (Z40 h k) := by rw [hst, g74]; rfl
      exact Z7 ⟨i + 1, by omega⟩ (by dsimp only; omega) (by rw [hn1]; exact (by repeat' first | exact Sub.nil | apply Sub.cons | rfl | (simp [lk]; omega))) (fun w h9 => h9.del b13))
 obtain rfl : i = (Zp s).length := by omega
 rw [List.take_length]
 refine Z8 (Za (Za (Zm (sqr 11 rfl (pur 2 rfl ?_)))))
 refine Zo 87 rfl ?_ ?_ <;> intro g87
 refine pur 3 rfl ?_
 refine Zo 90 rfl ?_ ?_ <;> intro g90
 try simp only [cS] at g90
 have hd : decide ((Zp s).countP (Z40 h k) < 2) = true := dT (by omega)
 refine pur 6 rfl (sqr 3 rfl (pur 1 rfl (sp rfl (PE.add rfl rfl (by omega)) rfl (pur 1 rfl ?_))))
 first
   | (have f1 : okN h (Zp s) (k + 1) = true := by unfold okK at hkk; rw [hkk, g87, hd]; rfl
      exact Z7 ⟨k + 1, by omega⟩ (by dsimp only; omega) (by rw [f1]; exact (by repeat' first | exact Sub.nil | apply Sub.cons | rfl | (simp [lk]; omega))) (fun w h9 => h9.facts (fun g hg => by simp only [List.mem_cons] at hg ⊢; rcases hg with h8 | h8 | h8 | h8 | h8 <;> simp [h8])))
   | (have f1 : okN h (Zp s) (k + 1) = ZH h.clrR.1 (k : Int) := by unfold okK at hkk; rw [hkk, g87, hd]; rfl
      exact Z7 ⟨k + 1, by omega⟩ (by dsimp only; omega) (by rw [f1]; exact (by repeat' first | exact Sub.nil | apply Sub.cons | rfl | (simp [lk]; omega))) (fun w h9 => h9.facts (fun g hg => by simp only [List.mem_cons] at hg ⊢; rcases hg with h8 | h8 | h8 | h8 | h8 <;> simp [h8])))
   | (have f1 : okN h (Zp s) (k + 1) = false := by rw [hkk, g87]; rfl
      exact Z7 ⟨k + 1, by omega⟩ (by dsimp only; omega) (by rw [f1]; exact (by repeat' first | exact Sub.nil | apply Sub.cons | rfl | (simp [lk]; omega))) (fun w h9 => h9.facts (fun g hg => by simp only [List.mem_cons] at hg ⊢; rcases hg with h8 | h8 | h8 | h8 | h8 <;> simp [h8])))
 try simp only [cS] at g90
 have hd : decide ((Zp s).countP (Z40 h k) < 2) = false := dF (by omega)
 refine pur 2 rfl ?_
 refine Z2t rfl rfl rfl rfl Z5d rfl rfl (Z2T h.clrR.1 ka kc (k : Int) (by omega) _ _) ?_
 refine pur 3 rfl (sqr 3 rfl (pur 1 rfl (sp rfl (PE.add rfl rfl (by omega)) rfl (pur 1 rfl ?_))))
 first
   | (have f1 : okN h (Zp s) (k + 1) = true := by unfold okK at hkk; rw [hkk, g87, hd]; rfl
      exact Z7 ⟨k + 1, by omega⟩ (by dsimp only; omega) (by rw [f1]; exact (by repeat' first | exact Sub.nil | apply Sub.cons | rfl | (simp [lk]; omega))) (fun w h9 => h9.facts (fun g hg => by simp only [List.mem_cons] at hg ⊢; rcases hg with h8 | h8 | h8 | h8 | h8 <;> simp [h8])))
   | (have f1 : okN h (Zp s) (k + 1) = ZH h.clrR.1 (k : Int) := by unfold okK at hkk; rw [hkk, g87, hd]; rfl
      exact Z7 ⟨k + 1, by omega⟩ (by dsimp only; omega) (by rw [f1]; exact (by repeat' first | exact Sub.nil | apply Sub.cons | rfl | (simp [lk]; omega))) (fun w h9 => h9.facts (fun g hg => by simp only [List.mem_cons] at hg ⊢; rcases hg with h8 | h8 | h8 | h8 | h8 <;> simp [h8])))
   | (have f1 : okN h (Zp s) (k + 1) = false := by rw [hkk, g87]; rfl
      exact Z7 ⟨k + 1, by omega⟩ (by dsimp only; omega) (by rw [f1]; exact (by repeat' first | exact Sub.nil | apply Sub.cons | rfl | (simp [lk]; omega))) (fun w h9 => h9.facts (fun g hg => by simp only [List.mem_cons] at hg ⊢; rcases hg with h8 | h8 | h8 | h8 | h8 <;> simp [h8])))
 refine pur 3 rfl ?_
 repeat refine spU rfl rfl rfl rfl rfl rfl rfl ?_
 refine pur 3 rfl (sqr 3 rfl (pur 1 rfl (sp rfl (PE.add rfl rfl (by omega)) rfl (pur 1 rfl ?_))))
 first
   | (have f1 : okN h (Zp s) (k + 1) = true := by unfold okK at hkk; rw [hkk, g87, hd]; rfl
      exact Z7 ⟨k + 1, by omega⟩ (by dsimp only; omega) (by rw [f1]; exact (by repeat' first | exact Sub.nil | apply Sub.cons | rfl | (simp [lk]; omega))) (fun w h9 => h9.facts (fun g hg => by simp only [List.mem_cons] at hg ⊢; rcases hg with h8 | h8 | h8 | h8 | h8 <;> simp [h8])))
   | (have f1 : okN h (Zp s) (k + 1) = ZH h.clrR.1 (k : Int) := by unfold okK at hkk; rw [hkk, g87, hd]; rfl
      exact Z7 ⟨k + 1, by omega⟩ (by dsimp only; omega) (by rw [f1]; exact (by repeat' first | exact Sub.nil | apply Sub.cons | rfl | (simp [lk]; omega))) (fun w h9 => h9.facts (fun g hg => by simp only [List.mem_cons] at hg ⊢; rcases hg with h8 | h8 | h8 | h8 | h8 <;> simp [h8])))
   | (have f1 : okN h (Zp s) (k + 1) = false := by rw [hkk, g87]; rfl
      exact Z7 ⟨k + 1, by omega⟩ (by dsimp only; omega) (by rw [f1]; exact (by repeat' first | exact Sub.nil | apply Sub.cons | rfl | (simp [lk]; omega))) (fun w h9 => h9.facts (fun g hg => by simp only [List.mem_cons] at hg ⊢; rcases hg with h8 | h8 | h8 | h8 | h8 <;> simp [h8])))
 obtain rfl : k = B := by omega
 refine Z8 (Za (Za (Zm (sqt 20 rfl (pur 2 rfl ?_)))))
 refine Zo 97 rfl ?_ ?_ <;> intro g97
 refine pur 1 rfl ?_
 refine spG rfl rfl rfl rfl (PE.lenSl Zx rfl) rfl ?_
 refine pur 1 rfl ?_
 refine spG rfl rfl rfl rfl (PE.lenSl Zx rfl) rfl ?_
 refine pur 2 rfl ?_
 refine Zo 103 rfl ?_ ?_ <;> intro g103
 try simp only [cS] at g103
 refine pur 6 rfl ?_
 repeat refine spU rfl rfl rfl rfl rfl rfl rfl ?_
 refine pur 3 rfl ?_
 refine ZC rfl ?_
 refine sqr 2 rfl (pur 2 rfl (sqr 3 rfl (pur 1 rfl (sp rfl (PE.add rfl rfl (by omega)) rfl (pur 1 rfl ?_)))))
 first
   | exact Z9 ⟨(s + 1, (Zp s), al25, cl25), by dsimp only; omega, by dsimp only; omega, hlo.take hs1 (.inl (by omega)) g97, hml⟩ (by dsimp only; omega) (fun w h9 => h9.facts (fun g hg => by simp only [List.mem_cons] at hg ⊢; rcases hg with h8 | h8 | h8 | h8 <;> simp [h8]))
   | exact Z9 ⟨(s + 1, bs, ab, cb), by dsimp only; omega, by dsimp only; omega, hlo.skip (.inr ⟨by omega, fun h9 => absurd h9 (by omega)⟩), hbl⟩ (by dsimp only; omega) (fun w h9 => h9.facts (fun g hg => by simp only [List.mem_cons] at hg ⊢; rcases hg with h8 | h8 | h8 | h8 <;> simp [h8]))
 try simp only [cS] at g103
 refine pur 1 rfl ?_
 refine spG rfl rfl rfl rfl (PE.lenSl Zx rfl) rfl ?_
 refine pur 1 rfl ?_
 refine spG rfl rfl rfl rfl (PE.lenSl Zx rfl) rfl ?_
 refine pur 2 rfl ?_
 refine Zo 109 rfl ?_ ?_ <;> intro g109
 try simp only [cS] at g109
 refine pur 2 rfl ?_
 refine Z2t rfl rfl rfl rfl Z7e rfl rfl (Z3l (Zp s) bs (by omega) (by omega) al25 ab cl25 cb _ _) ?_
 refine pur 3 rfl ?_
 refine Z1 rfl ?_ ?_ <;> intro hc5
 refine sqr 2 rfl (pur 2 rfl (sqr 3 rfl (pur 1 rfl (sp rfl (PE.add rfl rfl (by omega)) rfl (pur 1 rfl ?_)))))
 exact Zb ⟨(s + 1, (Zp s), al25, cl25), by dsimp only; omega, by dsimp only; omega, hlo.take hs1 (.inr ⟨by omega, hc5⟩) g97, hml⟩ (fun w h9 => h9.facts (fun g hg => by simp only [List.mem_cons] at hg ⊢; rcases hg with h8 | h8 | h8 | h8 <;> simp [h8]))
 refine Z2 (sqr 3 rfl (pur 1 rfl (sp rfl (PE.add rfl rfl (by omega)) rfl (pur 1 rfl ?_))))
 exact Zb ⟨(s + 1, bs, ab, cb), by dsimp only; omega, by dsimp only; omega, hlo.skip (.inr ⟨by omega, fun _ => hc5⟩), hbl⟩ (fun w h9 => h9.facts (fun g hg => by simp only [List.mem_cons] at hg ⊢; rcases hg with h8 | h8 | h8 | h8 <;> simp [h8]))
 try simp only [cS] at g109
 refine pur 6 rfl ?_
 refine Zv rfl ?_
 refine Z2 (sqr 3 rfl (pur 1 rfl (sp rfl (PE.add rfl rfl (by omega)) rfl (pur 1 rfl ?_))))
 first
   | exact Z9 ⟨(s + 1, (Zp s), al25, cl25), by dsimp only; omega, by dsimp only; omega, hlo.take hs1 (.inl (by omega)) g97, hml⟩ (by dsimp only; omega) (fun w h9 => h9.facts (fun g hg => by simp only [List.mem_cons] at hg ⊢; rcases hg with h8 | h8 | h8 | h8 <;> simp [h8]))
   | exact Z9 ⟨(s + 1, bs, ab, cb), by dsimp only; omega, by dsimp only; omega, hlo.skip (.inr ⟨by omega, fun h9 => absurd h9 (by omega)⟩), hbl⟩ (by dsimp only; omega) (fun w h9 => h9.facts (fun g hg => by simp only [List.mem_cons] at hg ⊢; rcases hg with h8 | h8 | h8 | h8 <;> simp [h8]))
 refine pur 6 rfl ?_
 repeat refine spU rfl rfl rfl rfl rfl rfl rfl ?_
 refine pur 2 rfl ?_
 refine Zv rfl ?_
 refine Z2 (sqr 3 rfl (pur 1 rfl (sp rfl (PE.add rfl rfl (by omega)) rfl (pur 1 rfl ?_))))
 exact Zb ⟨(s + 1, bs, ab, cb), by dsimp only; omega, by dsimp only; omega, hlo.skip (.inl g97), hbl⟩ (fun w h9 => h9.facts (fun g hg => by simp only [List.mem_cons] at hg ⊢; rcases hg with h8 | h8 | h8 | h8 <;> simp [h8]))
 obtain rfl : s = 2 ^ h.sights.length := by omega
 refine Z8 (Za (Za (Zm (sqt 2 rfl (pur 2 rfl (Z5 ?_))))))
 exact rtA rfl rfl rfl ⟨bs, ab, cb, hlo, rfl, rfl, rfl⟩ (fun w h9 => (h9.del b1).facts (fun g hg => by simp only [List.mem_cons] at hg ⊢; rcases hg with h8 | h8 <;> simp [h8]))
theorem Zg9 : cal Tryz.prog 46 = true := by kernel_rfl
theorem ZfL : cal Tryz.prog 47 = true := by kernel_rfl
theorem Zgk : cal Tryz.prog 48 = true := by kernel_rfl
theorem ZgA : cal Tryz.prog 50 = true := by kernel_rfl
theorem ZfP : cal Tryz.prog 52 = true := by kernel_rfl
theorem Ze2 (h : Hse) (ag as_ : Option Addr) (cg cs : Nat) (hlg : h.gaps.length ≤ 1000000) (hls : h.sights.length ≤ 1000000) (H : Zc) (R : Z6) [hG : MemRows ag 2 (Zf h.gaps) R] [hS : MemRows as_ 3 (Ze h.sights) R] : Fn Tryz.prog 12 [h.v (h.sg ag cg) (h.ss as_ cs)] H R (fun v H' R' => ∃ (ax ay : Option Addr) (cx cy : Nat), v = h.v (h.sg ax cx) (h.ss ay cy) ∧ H' = H ∧ R' = RowsA ay 3 (Ze h.sights) :: RowsA ax 2 (Zf h.gaps) :: R) := fun w hw => by
  refine CallsIn.mono (ZfS h ag as_ cg cs hlg hls H R w hw) ?_
  rintro e' w' ⟨u, H', R', ⟨og, os, rfl, rfl, rfl⟩, he, hs'⟩
  obtain ⟨ay, cy, he2, hcy, hz2⟩ := os.freezeC
  obtain ⟨ax, cx, he1, hcx, hz1⟩ := og.freezeC
  rw [Z0x] at he2
  rw [Z0J] at he1
  have h2 := hz2 hs'
  have h3 := hz1 h2
  refine ⟨_, H, _, ⟨ax, ay, cx, cy, by rw [he1, he2]; rfl, rfl, rfl⟩, he, h3.facts (fun g hg => by simp only [List.mem_cons] at hg ⊢; rcases hg with h8 | h8 | h8 <;> simp [h8])⟩
theorem Zah {h : Hse} (hb : h.check = 0 → h.bins ≤ 7) : h.orgR.1.length ≤ 1000 := by
  unfold Hse.orgR
  by_cases hk : h.check = 0
  · rw [hk]
    cases h.agr h.sights with
    | false => exact Nat.zero_le _
    | true =>
      show ((ZW (fun l => Z1s h.gaps (msk l) h.sights) h.bins.toNat).getD []).length ≤ 1000
      cases hs : ZW (fun l => Z1s h.gaps (msk l) h.sights) h.bins.toNat with
      | none => exact Nat.zero_le _
      | some x => have h1 := Z3U hs; have h2 := hb hk; show x.length ≤ 1000; omega
  · rw [decide_eq_true hk]; exact Nat.zero_le _
theorem Zab {h : Hse} (hb : h.check = 0 → h.sights.length ≤ 8) : h.aptR.1.length ≤ 1000 := by
  unfold Hse.aptR
  by_cases hk : h.check = 0
  · rw [hk]
    cases h.agr h.sights with
    | false => exact Nat.zero_le _
    | true => have := Z6W h (h.sights.length + 1); have := hb hk; show (h.aptK (h.sights.length + 1)).length ≤ 1000; omega
  · rw [decide_eq_true hk]; exact Nat.zero_le _
theorem Z79 {h : Hse} {week : Int} (hb : h.check = 0 → h.bins ≤ 7) (he : h.wkE week = 0) : h.bins ≤ 7 := by
  refine hb (Classical.byContradiction fun hk => ?_)
  rw [Z4b hk] at he; exact hk he
theorem Za2 {h : Hse} {week : Int} (hb : h.check = 0 → h.bins ≤ 7) : (h.surR week).1.length ≤ 1000 := by
  unfold Hse.surR
  by_cases he : h.wkE week = 0
  · have := Z79 hb he
    rw [he]; exact Nat.le_trans (Z0r _ _) (by omega)
  · rw [decide_eq_false he]; exact Nat.zero_le _
theorem ZaL {h : Hse} {week : Int} (hb : h.check = 0 → h.bins ≤ 7) : (h.perR week).1.length ≤ 1000 := by
  unfold Hse.perR
  by_cases he : h.wkE week = 0
  · have := Z79 hb he
    rw [he]; exact Nat.le_trans (Z0r _ _) (by omega)
  · rw [decide_eq_false he]; exact Nat.zero_le _
theorem Za9 {h : Hse} (hb : h.check = 0 → h.sights.length ≤ 8) : h.claR.1.length ≤ 1000 := by
  unfold Hse.claR
  by_cases hk : h.check = 0
  · rw [hk]
    cases hs : h.claS with
    | none => exact Nat.zero_le _
    | some x => have := Z3U hs; have := hb hk; show x.length ≤ 1000; omega
  · rw [decide_eq_true hk]; exact Nat.zero_le _
theorem ZcK {h : Hse} {week : Int} (hk : h.check ≠ 0) : h.orgR = ([], h.check) ∧ h.aptR = ([], h.check) ∧ h.surR week = ([], h.check) ∧ h.perR week = ([], h.check) ∧ h.claR = ([], h.check) ∧ h.wkE week = h.check := by
  refine ⟨?_, ?_, Z2x (Z4b hk) hk, Z2u (Z4b hk) hk, ?_, Z4b hk⟩
  · unfold Hse.orgR; rw [decide_eq_true hk]; rfl
  · unfold Hse.aptR; rw [decide_eq_true hk]; rfl
  · unfold Hse.claR; rw [decide_eq_true hk]; rfl
theorem ZbV {h : Hse} {week : Int} {x : List Int} (hk : h.check = 0) (ha : h.agr h.sights = false) (hc : h.claS = some x) : h.orgR = ([], 7) ∧ h.aptR = ([], 7) ∧ h.claR = (x, 0) ∧ (inB week 0 9 = true → h.surR week = ([], 7) ∧ h.perR week = ([], 7)) := by
  refine ⟨?_, ?_, ?_, fun hi => ?_⟩
  · unfold Hse.orgR; rw [hk, ha]; rfl
  · unfold Hse.aptR; rw [hk, ha]; rfl
  · unfold Hse.claR; rw [hk, hc]; rfl
  · have he : h.wkE week = 7 := Z6G hk (by rw [hi]; rfl) ha
    exact ⟨Z2x he (by decide), Z2u he (by decide)⟩
theorem Z4W {h : Hse} {week : Int} (hk : h.check = 0) (hi : inB week 0 9 = false) : h.surR week = ([], 3) ∧ h.perR week = ([], 3) := by
  have he : h.wkE week = 3 := Z3E hk (by rw [hi]; rfl)
  exact ⟨Z2x he (by decide), Z2u he (by decide)⟩
theorem ZbX {h : Hse} {t : Nat} (ht : t < 2 ^ 10) : exB h t = (fun l => Z1s h.gaps (msk l) h.sights) (Zp t) := by
  dsimp only
  rw [Z2e ht]; rfl
theorem Zcm {h : Hse} (hk : h.ok) {f : Bool} {b : List Int} (hm : MinI (exB h) (2 ^ h.bins.toNat) f b) : (f = true → h.agr h.sights = true ∧ h.orgR = (b, 0) ∧ h.aptR = (h.aptK (h.sights.length + 1), 0) ∧ h.claR = ([], 6)) ∧ (f = false → h.agr h.sights = false ∧ b = []) := by
  have hck := hse_ok.2 hk
  have hbn := hk.bins
  have hp := Nat.pow_le_pow_right (show 0 < 2 by decide) (show h.bins.toNat ≤ 10 by omega)
  constructor
  · rintro rfl
    obtain ⟨⟨t, t1, t2, _⟩, _⟩ := hm.yes rfl
    have ha : h.agr h.sights = true := (Z0m hk hk.sights).2 ⟨t, t1, t2⟩
    have hs := MinI.short (has := fun l => Z1s h.gaps (msk l) h.sights) (n := h.bins.toNat) (b := b) (by omega) (hm.cg fun t ht => ZbX (t := t) (Nat.lt_of_lt_of_le ht hp))
    refine ⟨ha, ?_, ?_, ?_⟩
    · unfold Hse.orgR; rw [hck, ha, hs]; rfl
    · unfold Hse.aptR; rw [hck, ha]; rfl
    · unfold Hse.claR; rw [hck, (Z99 hk).2 ha]; rfl
  · rintro rfl
    refine ⟨?_, (hm.no rfl).2⟩
    cases ha : h.agr h.sights with
    | false => rfl
    | true =>
      obtain ⟨m, m1, m2⟩ := (Z0m hk hk.sights).1 ha
      have : exB h m = false := (hm.no rfl).1 m m1
      unfold exB at this
      rw [m2] at this; cases this
theorem Zc8 {h : Hse} : h.aptR.2 = h.orgR.2 := by
  unfold Hse.aptR Hse.orgR
  cases decide (h.check ≠ 0)
  · cases h.agr h.sights <;> rfl
  · rfl
set_option maxHeartbeats 1000000 in
theorem Z3O (h : Hse) (ag as_ : Option Addr) (cg cs : Nat) (hlg : h.gaps.length ≤ 9223372036854775807) (hls : h.sights.length ≤ 9223372036854775807) (week : Int) (H : Zc) (R : Z6) [hG : MemRows ag 2 (Zf h.gaps) R] [hS : MemRows as_ 3 (Ze h.sights) R] :
    Fn Tryz.prog 6 [h.v (h.sg ag cg) (h.ss as_ cs), .int .i64 week] H R (fun v H' R' => v = .bool true ∧ H' = H ∧ R' = R) := by
 refine Zi Tryz.func6 rfl Tryz.ntmps6 rfl ?_
 refine sqt 2 rfl (bx rfl rfl rfl (fun b2 => pur 1 rfl (Z0 (sqt 2 rfl (spL rfl rfl (lhA (htl h (h.sg ag cg) (h.ss as_ cs)) Z14 rfl rfl rfl) rfl ?_)))))
 refine clV rfl Zg7 rfl rfl (ZcF h ag as_ cg cs (by omega) (by omega) _ _) ?_
 refine Z1 rfl ?_ ?_ <;> intro hc0
 refine sqt 2 rfl ?_
 refine clV rfl ZdP rfl rfl (Z8B _ _) ?_
 refine pur 1 rfl (Z5 ?_)
 exact rtA rfl rfl rfl ⟨rfl, rfl, rfl⟩ (fun w h9 => St.sub (h9.del b2))
 have hsm : h.gaps.length ≤ 14 ∧ h.sights.length ≤ 12 := by
   unfold Zdz at hc0
   rw [Bool.or_eq_false_iff] at hc0
   have := of_decide_eq_false hc0.1; have := of_decide_eq_false hc0.2; omega
 obtain ⟨hsg14, hss12⟩ := hsm
 have hb7 : h.check = 0 → h.bins ≤ 7 := fun e => by have := (hse_ok.1 e).bins; omega
 have hs8 : h.check = 0 → h.sights.length ≤ 8 := fun e => (hse_ok.1 e).sl
 have z1 := Zah hb7
 have z2 := Zab hs8
 have z3 := Za2 (week := week) hb7
 have z4 := ZaL (week := week) hb7
 have z5 := Za9 hs8
 have hae := Zc8 (h := h)
 refine Z2 (Z0 ?_)
 refine ZcL [0, 1, 0, 7, 0, 0, 63, 127] [0, 1, 2, 3, 4, 5, 6, 7] Zz (by kernel_rfl) rfl (fun s L H1 R1 => ∃ (oa : Option Addr) (ob : Option Addr) (oc : Nat) (od : Nat) (xa : Option Addr) (xb : Option Addr) (xc : Nat) (xd : Nat) (b5 : Nat) (x5 : List Value) (b6 : Nat) (x6 : List Value), Sub [(1, .int .i64 week), (2, .pointer (some ⟨b2, 0, none⟩))] L ∧ (∀ f ∈ (R : Z6), f ∈ R1) ∧ (s 0 = true → lk L 30 = some (h.v (h.sg ag cg) (h.ss as_ cs))) ∧ (s 1 = true → lk L 31 = some (h.v (h.sg oa oc) (h.ss ob od)) ∧ (RowsA ob 3 (Ze h.sights)) ∈ R1 ∧ (RowsA oa 2 (Zf h.gaps)) ∈ R1) ∧ (s 2 = true → lk L 32 = some (h.v (h.sg ag cg) (h.ss as_ cs))) ∧ (s 3 = true → lk L 33 = some (h.v (h.sg xa xc) (h.ss xb xd)) ∧ (RowsA xb 3 (Ze h.sights)) ∈ R1 ∧ (RowsA xa 2 (Zf h.gaps)) ∈ R1) ∧ (s 4 = true → lk L 5 = some (.pointer (some ⟨b5, 0, none⟩)) ∧ (s 6 = false → x5 = [.int .i64 0, .slice none 0 0, .slice none 0 0])) ∧ (s 5 = true → lk L 6 = some (.pointer (some ⟨b6, 0, none⟩)) ∧ (s 7 = false → x6 = [.int .i64 0, .slice none 0 0, .slice none 0 0])) ∧ (s 6 = true → x5 = htl h (h.sg oa oc) (h.ss ob od)) ∧ (s 7 = true → x6 = htl h (h.sg xa xc) (h.ss xb xd)) ∧ ∀ w, St H1 R1 w → St ((bif s 5 then [(b6, cel 35 x6)] else []) ++ ((bif s 4 then [(b5, cel 25 x5)] else []) ++ ((b2, cel 25 (htl h (h.sg ag cg) (h.ss as_ cs))) :: H))) R1 w) ?_ ?_ ?_
 exact ⟨none, none, 0, 0, none, none, 0, 0, 0, [], 0, [], (by repeat' first | exact Sub.nil | apply Sub.cons | rfl | (simp [lk]; omega)), fun _ hf => hf, ff, ff, ff, ff, ff, ff, ff, ff, fun w y9 => y9⟩
 refine ⟨?_, ?_, ?_, ?_, ?_, ?_, ?_, ?_, trivial⟩
 intro s Lz Hz Rz hdn hs hpre hI K hK
 obtain ⟨oa, ob, oc, od, xa, xb, xc, xd, b5, x5, b6, x6, hL0, hR0, q0, q1, q2, q3, q4, q5, q6, q7, hH⟩ := hI
 refine Sy.heap hH ?_
 refine spL rfl (Sub.lk hL0 _ _ rfl) ((lhA (htl h (h.sg ag cg) (h.ss as_ cs)) Z14 rfl rfl rfl)) rfl ?_
 exact hK _ _ _ ⟨oa, ob, oc, od, xa, xb, xc, xd, b5, x5, b6, x6, Z16 rfl hL0, hR0, fun _ => Z2G, lm2 q1, lm1 q2, lm2 q3, lm2 q4, lm2 q5, q6, q7, fun w y9 => y9⟩
 intro s Lz Hz Rz hdn hs hpre hI K hK
 obtain ⟨oa, ob, oc, od, xa, xb, xc, xd, b5, x5, b6, x6, hL0, hR0, q0, q1, q2, q3, q4, q5, q6, q7, hH⟩ := hI
 have h0 : s 0 = true := hpre 0 rfl
 refine Sy.heap hH ?_
 haveI m0 : MemRows ag 2 (Zf h.gaps) Rz := ⟨hR0 _ (inferInstance : MemRows ag 2 (Zf h.gaps) (R)).mem⟩
 haveI m1 : MemRows as_ 3 (Ze h.sights) Rz := ⟨hR0 _ (inferInstance : MemRows as_ 3 (Ze h.sights) (R)).mem⟩
 refine cl rfl Zgj rfl (by simp only [evs, show ev Lz (.tmp 30) = _ from (q0 h0)]) (Ze2 h ag as_ cg cs (by omega) (by omega) _ _) ?_
 rintro _ _ R1 ⟨oa, ob, oc, od, rfl, rfl, hR1⟩
 obtain rfl := hR1.symm
 clear hR1
 exact hK _ _ _ ⟨oa, ob, oc, od, xa, xb, xc, xd, b5, x5, b6, x6, Z16 rfl hL0, Z3h (Z3h (hR0)), fun h => Z08 rfl (q0 h), fun _ => ⟨Z2G, (by simp), (by simp)⟩, fun h => Z08 rfl (q2 h), fun h => ⟨Z08 rfl (q3 h).1, List.mem_cons_of_mem _ (List.mem_cons_of_mem _ ((q3 h).2.1)), List.mem_cons_of_mem _ (List.mem_cons_of_mem _ ((q3 h).2.2))⟩, fun h => ⟨Z08 rfl (q4 h).1, (q4 h).2⟩, fun h => ⟨Z08 rfl (q5 h).1, (q5 h).2⟩, nof hdn hs 6, q7, fun w y9 => y9⟩
 intro s Lz Hz Rz hdn hs hpre hI K hK
 obtain ⟨oa, ob, oc, od, xa, xb, xc, xd, b5, x5, b6, x6, hL0, hR0, q0, q1, q2, q3, q4, q5, q6, q7, hH⟩ := hI
 refine Sy.heap hH ?_
 refine spL rfl (Sub.lk hL0 _ _ rfl) ((lhA (htl h (h.sg ag cg) (h.ss as_ cs)) Z14 rfl rfl rfl)) rfl ?_
 exact hK _ _ _ ⟨oa, ob, oc, od, xa, xb, xc, xd, b5, x5, b6, x6, Z16 rfl hL0, hR0, lm1 q0, lm2 q1, fun _ => Z2G, lm2 q3, lm2 q4, lm2 q5, q6, q7, fun w y9 => y9⟩
 intro s Lz Hz Rz hdn hs hpre hI K hK
 obtain ⟨oa, ob, oc, od, xa, xb, xc, xd, b5, x5, b6, x6, hL0, hR0, q0, q1, q2, q3, q4, q5, q6, q7, hH⟩ := hI
 obtain ⟨h0, h1, h2⟩ : s 0 = true ∧ s 1 = true ∧ s 2 = true := ⟨hpre 0 rfl, hpre 1 rfl, hpre 2 rfl⟩
 refine Sy.heap hH ?_
 haveI m0 : MemRows ag 2 (Zf h.gaps) Rz := ⟨hR0 _ (inferInstance : MemRows ag 2 (Zf h.gaps) (R)).mem⟩
 haveI m1 : MemRows as_ 3 (Ze h.sights) Rz := ⟨hR0 _ (inferInstance : MemRows as_ 3 (Ze h.sights) (R)).mem⟩
 refine cl rfl ZgC rfl (by simp only [evs, show ev Lz (.tmp 32) = _ from (q2 h2)]) (ZaD h ag as_ cg cs (by omega) (by omega) _ _) ?_
 rintro _ _ R1 ⟨xa, xb, xc, xd, rfl, rfl, hR1⟩
 obtain rfl := hR1.symm
 clear hR1
 exact hK _ _ _ ⟨oa, ob, oc, od, xa, xb, xc, xd, b5, x5, b6, x6, Z16 rfl hL0, Z3h (Z3h (hR0)), fun h => Z08 rfl (q0 h), fun h => ⟨Z08 rfl (q1 h).1, List.mem_cons_of_mem _ (List.mem_cons_of_mem _ ((q1 h).2.1)), List.mem_cons_of_mem _ (List.mem_cons_of_mem _ ((q1 h).2.2))⟩, fun h => Z08 rfl (q2 h), fun _ => ⟨Z2G, (by simp), (by simp)⟩, fun h => ⟨Z08 rfl (q4 h).1, (q4 h).2⟩, fun h => ⟨Z08 rfl (q5 h).1, (q5 h).2⟩, q6, nof hdn hs 7, fun w y9 => y9⟩
 intro s Lz Hz Rz hdn hs hpre hI K hK
 obtain ⟨oa, ob, oc, od, xa, xb, xc, xd, b5, x5, b6, x6, hL0, hR0, q0, q1, q2, q3, q4, q5, q6, q7, hH⟩ := hI
 refine Sy.heap hH ?_
 refine alc rfl Zfj rfl (fun b5 => ?_)
 exact hK _ _ _ ⟨oa, ob, oc, od, xa, xb, xc, xd, b5, [.int .i64 0, .slice none 0 0, .slice none 0 0], b6, x6, Z16 rfl hL0, hR0, lm1 q0, lm2 q1, lm1 q2, lm2 q3, fun _ => ⟨Z2G, fun _ => rfl⟩, lm2 q5, nof hdn hs 6, q7, fun w y9 => by rw [hs] at y9; exact y9.perm (List.perm_middle.symm.trans (List.Perm.append_left _ (.refl _)))⟩
 intro s Lz Hz Rz hdn hs hpre hI K hK
 obtain ⟨oa, ob, oc, od, xa, xb, xc, xd, b5, x5, b6, x6, hL0, hR0, q0, q1, q2, q3, q4, q5, q6, q7, hH⟩ := hI
 refine Sy.heap hH ?_
 refine alc rfl Zfw rfl (fun b6 => ?_)
 exact hK _ _ _ ⟨oa, ob, oc, od, xa, xb, xc, xd, b5, x5, b6, [.int .i64 0, .slice none 0 0, .slice none 0 0], Z16 rfl hL0, hR0, lm1 q0, lm2 q1, lm1 q2, lm2 q3, lm2 q4, fun _ => ⟨Z2G, fun _ => rfl⟩, q6, nof hdn hs 7, fun w y9 => by rw [hs] at y9; exact y9.perm (.refl _)⟩
 intro s Lz Hz Rz hdn hs hpre hI K hK
 obtain ⟨oa, ob, oc, od, xa, xb, xc, xd, b5, x5, b6, x6, hL0, hR0, q0, q1, q2, q3, q4, q5, q6, q7, hH⟩ := hI
 obtain ⟨h0, h1, h2, h3, h4, h5⟩ : s 0 = true ∧ s 1 = true ∧ s 2 = true ∧ s 3 = true ∧ s 4 = true ∧ s 5 = true := ⟨hpre 0 rfl, hpre 1 rfl, hpre 2 rfl, hpre 3 rfl, hpre 4 rfl, hpre 5 rfl⟩
 refine Sy.heap hH ?_
 obtain rfl := (q4 h4).2 hs
 refine Sy.heap (H' := (bif s 5 then [(b6, cel 35 x6)] else []) ++ ((b5, cel 25 [.int .i64 0, .slice none 0 0, .slice none 0 0]) :: ((b2, cel 25 (htl h (h.sg ag cg) (h.ss as_ cs))) :: H))) (fun w y9 => by rw [h4] at y9; exact y9) ?_
 refine ZN (l' := htl h (h.sg oa oc) (h.ss ob od)) rfl (q4 h4).1 (q1 h1).1 Zga rfl rfl rfl rfl (Nat.le_refl _) ?_
 exact hK _ _ _ ⟨oa, ob, oc, od, xa, xb, xc, xd, b5, htl h (h.sg oa oc) (h.ss ob od), b6, x6, hL0, hR0, q0, q1, q2, q3, fun h => ⟨(q4 h).1, fun h => by cases (show true = false from h)⟩, q5, fun _ => rfl, q7, fun w y9 => by show St ((bif s 5 then [(b6, cel 35 x6)] else []) ++ ((bif s 4 then [(b5, cel 25 (htl h (h.sg oa oc) (h.ss ob od)))] else []) ++ ((b2, cel 25 (htl h (h.sg ag cg) (h.ss as_ cs))) :: H))) Rz w; rw [h4]; exact y9⟩
 intro s Lz Hz Rz hdn hs hpre hI K hK
 obtain ⟨oa, ob, oc, od, xa, xb, xc, xd, b5, x5, b6, x6, hL0, hR0, q0, q1, q2, q3, q4, q5, q6, q7, hH⟩ := hI
 obtain ⟨h0, h1, h2, h3, h4, h5, h6⟩ : s 0 = true ∧ s 1 = true ∧ s 2 = true ∧ s 3 = true ∧ s 4 = true ∧ s 5 = true ∧ s 6 = true := ⟨hpre 0 rfl, hpre 1 rfl, hpre 2 rfl, hpre 3 rfl, hpre 4 rfl, hpre 5 rfl, hpre 6 rfl⟩
 refine Sy.heap hH ?_
 obtain rfl := (q5 h5).2 hs
 refine Sy.heap (H' := (b6, cel 35 [.int .i64 0, .slice none 0 0, .slice none 0 0]) :: ((bif s 4 then [(b5, cel 25 x5)] else []) ++ ((b2, cel 25 (htl h (h.sg ag cg) (h.ss as_ cs))) :: H))) (fun w y9 => by rw [h5] at y9; exact y9) ?_
 refine ZN (l' := htl h (h.sg xa xc) (h.ss xb xd)) rfl (q5 h5).1 (q3 h3).1 Zgo rfl rfl rfl rfl (Nat.le_refl _) ?_
 exact hK _ _ _ ⟨oa, ob, oc, od, xa, xb, xc, xd, b5, x5, b6, htl h (h.sg xa xc) (h.ss xb xd), hL0, hR0, q0, q1, q2, q3, q4, fun h => ⟨(q5 h).1, fun h => by cases (show true = false from h)⟩, q6, fun _ => rfl, fun w y9 => by show St ((bif s 5 then [(b6, cel 35 (htl h (h.sg xa xc) (h.ss xb xd)))] else []) ++ ((bif s 4 then [(b5, cel 25 x5)] else []) ++ ((b2, cel 25 (htl h (h.sg ag cg) (h.ss as_ cs))) :: H))) Rz w; rw [h5]; exact y9⟩
 intro Lz Hz Rz hI
 obtain ⟨oa, ob, oc, od, xa, xb, xc, xd, b5, x5, b6, x6, hL0, hR0, q0, q1, q2, q3, q4, q5, q6, q7, hH⟩ := hI
 obtain rfl := q7 rfl
 obtain rfl := q6 rfl
 refine Sy.weak (L' := [(6, .pointer (some ⟨b6, 0, none⟩)), (5, .pointer (some ⟨b5, 0, none⟩)), (1, .int .i64 week), (2, .pointer (some ⟨b2, 0, none⟩))]) (H' := (b6, cel 35 (htl h (h.sg xa xc) (h.ss xb xd))) :: (b5, cel 25 (htl h (h.sg oa oc) (h.ss ob od))) :: (b2, cel 25 (htl h (h.sg ag cg) (h.ss as_ cs))) :: H) (R' := RowsA xb 3 (Ze h.sights) :: RowsA xa 2 (Zf h.gaps) :: RowsA ob 3 (Ze h.sights) :: RowsA oa 2 (Zf h.gaps) :: R) ?_ (Sub.cons (q5 rfl).1 (Sub.cons (q4 rfl).1 hL0)).lk (fun w h => St.facts (hH w h) (Z3c (q3 rfl).2.1 (Z3c (q3 rfl).2.2 (Z3c (q1 rfl).2.1 (Z3c (q1 rfl).2.2 hR0)))))
 refine sqt 3 rfl (spL rfl rfl (lhA (htl h (h.sg xa xc) (h.ss xb xd)) Z57 rfl rfl rfl) rfl ?_)
 refine clV rfl Zg3 rfl rfl (Zbb h xa xb xc xd (by omega) (by omega) _ _) ?_
 refine pur 1 rfl (sqt 6 rfl (pur 6 rfl (sqt 5 rfl (pur 5 rfl (Z0 (sqt 2 rfl (pur 2 rfl ?_)))))))
 refine Z23 (ι := (Option Addr × Option Addr × Option Addr × Option Addr × Option Addr) × (Nat × Nat × Nat × Nat × Nat)) (fun y => ⟨[(1, .int .i64 week), (2, .pointer (some ⟨b2, 0, none⟩)), (5, .pointer (some ⟨b5, 0, none⟩)), (6, .pointer (some ⟨b6, 0, none⟩)), (8, .int .i64 h.orgR.2), (9, .int .i64 (h.wkE week)), (10, .int .i64 h.claR.2), (11, .slice y.1.1 h.orgR.1.length y.2.1), (12, .slice y.1.2.1 h.aptR.1.length y.2.2.1), (13, .slice y.1.2.2.1 (h.surR week).1.length y.2.2.2.1), (14, .slice y.1.2.2.2.1 (h.perR week).1.length y.2.2.2.2.1), (15, .slice y.1.2.2.2.2 h.claR.1.length y.2.2.2.2.2)], (b6, cel 35 (htl h (h.sg xa xc) (h.ss xb xd))) :: (b5, cel 25 (htl h (h.sg oa oc) (h.ss ob od))) :: (b2, cel 25 (htl h (h.sg ag cg) (h.ss as_ cs))) :: H, RowsA y.1.2.2.2.2 1 (Z4 h.claR.1) :: RowsA y.1.2.2.2.1 1 (Z4 (h.perR week).1) :: RowsA y.1.2.2.1 1 (Z4 (h.surR week).1) :: RowsA y.1.2.1 1 (Z4 h.aptR.1) :: RowsA y.1.1 1 (Z4 h.orgR.1) :: RowsA xb 3 (Ze h.sights) :: RowsA xa 2 (Zf h.gaps) :: RowsA ob 3 (Ze h.sights) :: RowsA oa 2 (Zf h.gaps) :: R⟩) ?_ ?_
 refine Z1 rfl ?_ ?_ <;> intro hc1 <;> try simp only [cS] at hc1
 have hok := hse_ok.1 hc1
 refine sqt 1 rfl (pur 1 rfl (Z0 (sqt 12 rfl (spL rfl rfl (lhA (htl h (h.sg xa xc) (h.ss xb xd)) Z57 rfl rfl rfl) rfl (pur 1 rfl ?_)))))
 refine cl rfl Zg9 rfl rfl (Z7y h xa xb xc xd hok week _ _) ?_
 rintro _ _ R1 ⟨f, bs, ab, as1, as2, cb, cs1, cs2, hmi, rfl, rfl, hR1⟩
 obtain rfl := hR1.symm
 clear hR1
 obtain ⟨ht, hf⟩ := Zcm hok hmi
 refine pur 9 rfl (sqt 1 rfl (pur 1 rfl ?_))
 refine Z1 rfl ?_ ?_ <;> intro hc2
 obtain ⟨hag, r1, r2, r5⟩ := ht hc2
 refine sqr 5 rfl (spL rfl rfl (lhA (htl h (h.sg xa xc) (h.ss xb xd)) Z57 rfl rfl rfl) rfl ?_)
 refine cl rfl ZfL rfl rfl (Zbf h xa xb xc xd hok _ _) ?_
 rintro _ _ R1 ⟨bp, aq, cq, hlo, rfl, rfl, hR1⟩
 obtain rfl := hR1.symm
 clear hR1
 obtain rfl := Zdb hok (fun t ht => Zdg hok (Zp t)) hlo
 refine pur 3 rfl (Z0 (sqt 2 rfl (pur 2 rfl (sqt 6 rfl (pur 3 rfl ?_)))))
 refine Zo 60 rfl ?_ ?_ <;> intro g60
 try simp only [cS] at g60
 have hin : inB week 0 9 = false := by simp [inB]; omega
 refine pur 3 rfl ?_
 refine ZC rfl ?_
 refine sqr 1 rfl (pur 1 rfl (sqt 2 rfl (pur 2 rfl ?_)))
 refine Z1 rfl ?_ ?_ <;> intro hc4
 refine sqr 2 rfl (pur 2 rfl ?_)
 obtain ⟨r3, r4⟩ := Z4W hc1 hin
 have r7 : h.wkE week = 3 := Z3E hc1 (by rw [hin]; rfl)
 exact Z1C ((ab, aq, none, none, none), (cb, cq, 0, 0, 0)) (by dsimp only; rw [r1, r2, r3, r4, r5, r7]; exact (by repeat' first | exact Sub.nil | apply Sub.cons | rfl | (simp [lk]; omega))) (fun w h9 => by dsimp only; rw [r1, r2, r3, r4, r5]; exact (St.norows (sz := 1) (St.norows (sz := 1) (St.norows (sz := 1) (h9)))).facts (fun g hg => by simp only [List.mem_cons] at hg ⊢; rcases hg with h8 | h8 | h8 | h8 | h8 | h8 | h8 | h8 | h8 | h8 <;> simp [h8]))
 exact absurd hc4 (by decide)
 try simp only [cS] at g60
 refine pur 3 rfl ?_
 refine Z1 rfl ?_ ?_ <;> intro hc3 <;> try simp only [cS] at hc3
 have hin : inB week 0 9 = false := by simp [inB]; omega
 refine sqr 1 rfl (pur 1 rfl (sqt 2 rfl (pur 2 rfl ?_)))
 refine Z1 rfl ?_ ?_ <;> intro hc4
 refine sqr 2 rfl (pur 2 rfl ?_)
 obtain ⟨r3, r4⟩ := Z4W hc1 hin
 have r7 : h.wkE week = 3 := Z3E hc1 (by rw [hin]; rfl)
 exact Z1C ((ab, aq, none, none, none), (cb, cq, 0, 0, 0)) (by dsimp only; rw [r1, r2, r3, r4, r5, r7]; exact (by repeat' first | exact Sub.nil | apply Sub.cons | rfl | (simp [lk]; omega))) (fun w h9 => by dsimp only; rw [r1, r2, r3, r4, r5]; exact (St.norows (sz := 1) (St.norows (sz := 1) (St.norows (sz := 1) (h9)))).facts (fun g hg => by simp only [List.mem_cons] at hg ⊢; rcases hg with h8 | h8 | h8 | h8 | h8 | h8 | h8 | h8 | h8 | h8 <;> simp [h8]))
 exact absurd hc4 (by decide)
 have hin : inB week 0 9 = true := by simp [inB]; omega
 have hw9 : 0 ≤ week ∧ week ≤ 9 := by omega
 refine Z2 (sqt 2 rfl (pur 2 rfl ?_))
 refine Z1 rfl ?_ ?_ <;> intro hc4
 exact absurd hc4 (by decide)
 refine Z2 ?_
 have r7 : h.wkE week = 0 := Z9d hc1 (by rw [hin]; rfl) hag
 have r3 := Z9x r7
 have r4 := Z84 r7
 have r9 := Zbm (n := h.bins.toNat) (fun k _ => Zds hok hw9 hag (k := k))
 have r10 := Zbm (n := h.bins.toNat) (fun k _ => Zd9 hok hw9 hag (k := k))
 exact Z1C ((ab, aq, as1, as2, none), (cb, cq, cs1, cs2, 0)) (by dsimp only; rw [r1, r2, r3, r4, r5, r7, ← r9, ← r10]; exact (by repeat' first | exact Sub.nil | apply Sub.cons | rfl | (simp [lk]; omega))) (fun w h9 => by dsimp only; rw [r1, r2, r3, r4, r5, ← r9, ← r10]; exact (St.norows (sz := 1) (h9)).facts (fun g hg => by simp only [List.mem_cons] at hg ⊢; rcases hg with h8 | h8 | h8 | h8 | h8 | h8 | h8 | h8 | h8 | h8 <;> simp [h8]))
 obtain ⟨hag, rfl⟩ := hf hc2
 refine sqt 2 rfl (pur 2 rfl (sqr 6 rfl (spL rfl rfl (lhA (htl h (h.sg xa xc) (h.ss xb xd)) Z57 rfl rfl rfl) rfl ?_)))
 refine cl rfl Zgk rfl rfl (Zax h xa xb xc xd hok _ _) ?_
 rintro _ _ R1 ⟨fc, bc, aq, cq, hmc, rfl, rfl, hR1⟩
 obtain rfl := hR1.symm
 clear hR1
 obtain ⟨r1, r2, r5, r6⟩ := ZbV (week := week) hc1 hag (ZcC hok hmc hag)
 refine pur 4 rfl (Z0 (sqt 2 rfl (pur 2 rfl (sqt 6 rfl (pur 3 rfl ?_)))))
 refine Zo 60 rfl ?_ ?_ <;> intro g60
 try simp only [cS] at g60
 have hin : inB week 0 9 = false := by simp [inB]; omega
 refine pur 3 rfl ?_
 refine ZC rfl ?_
 refine sqr 1 rfl (pur 1 rfl (sqt 2 rfl (pur 2 rfl ?_)))
 refine Z1 rfl ?_ ?_ <;> intro hc4
 refine sqr 2 rfl (pur 2 rfl ?_)
 obtain ⟨r3, r4⟩ := Z4W hc1 hin
 have r7 : h.wkE week = 3 := Z3E hc1 (by rw [hin]; rfl)
 exact Z1C ((ab, none, none, none, aq), (cb, 0, 0, 0, cq)) (by dsimp only; rw [r1, r2, r3, r4, r5, r7]; exact (by repeat' first | exact Sub.nil | apply Sub.cons | rfl | (simp [lk]; omega))) (fun w h9 => by dsimp only; rw [r1, r2, r3, r4, r5]; exact (St.norows (sz := 1) (St.norows (sz := 1) (St.norows (sz := 1) (h9)))).facts (fun g hg => by simp only [List.mem_cons] at hg ⊢; rcases hg with h8 | h8 | h8 | h8 | h8 | h8 | h8 | h8 | h8 | h8 <;> simp [h8]))
 exact absurd hc4 (by decide)
 try simp only [cS] at g60
 refine pur 3 rfl ?_
 refine Z1 rfl ?_ ?_ <;> intro hc3 <;> try simp only [cS] at hc3
 have hin : inB week 0 9 = false := by simp [inB]; omega
 refine sqr 1 rfl (pur 1 rfl (sqt 2 rfl (pur 2 rfl ?_)))
 refine Z1 rfl ?_ ?_ <;> intro hc4
 refine sqr 2 rfl (pur 2 rfl ?_)
 obtain ⟨r3, r4⟩ := Z4W hc1 hin
 have r7 : h.wkE week = 3 := Z3E hc1 (by rw [hin]; rfl)
 exact Z1C ((ab, none, none, none, aq), (cb, 0, 0, 0, cq)) (by dsimp only; rw [r1, r2, r3, r4, r5, r7]; exact (by repeat' first | exact Sub.nil | apply Sub.cons | rfl | (simp [lk]; omega))) (fun w h9 => by dsimp only; rw [r1, r2, r3, r4, r5]; exact (St.norows (sz := 1) (St.norows (sz := 1) (St.norows (sz := 1) (h9)))).facts (fun g hg => by simp only [List.mem_cons] at hg ⊢; rcases hg with h8 | h8 | h8 | h8 | h8 | h8 | h8 | h8 | h8 | h8 <;> simp [h8]))
 exact absurd hc4 (by decide)
 have hin : inB week 0 9 = true := by simp [inB]; omega
 have hw9 : 0 ≤ week ∧ week ≤ 9 := by omega
 refine Z2 (sqt 2 rfl (pur 2 rfl ?_))
 refine Z1 rfl ?_ ?_ <;> intro hc4
 refine sqr 2 rfl (pur 2 rfl ?_)
 obtain ⟨r3, r4⟩ := r6 hin
 have r7 : h.wkE week = 7 := Z6G hc1 (by rw [hin]; rfl) hag
 exact Z1C ((ab, none, none, none, aq), (cb, 0, 0, 0, cq)) (by dsimp only; rw [r1, r2, r3, r4, r5, r7]; exact (by repeat' first | exact Sub.nil | apply Sub.cons | rfl | (simp [lk]; omega))) (fun w h9 => by dsimp only; rw [r1, r2, r3, r4, r5]; exact (St.norows (sz := 1) (St.norows (sz := 1) (St.norows (sz := 1) (h9)))).facts (fun g hg => by simp only [List.mem_cons] at hg ⊢; rcases hg with h8 | h8 | h8 | h8 | h8 | h8 | h8 | h8 | h8 | h8 <;> simp [h8]))
 exact absurd hc4 (by decide)
 obtain ⟨r1, r2, r3, r4, r5, r6⟩ := ZcK (week := week) hc1
 refine Z2 ?_
 exact Z1C ((none, none, none, none, none), (0, 0, 0, 0, 0)) (by dsimp only; rw [r1, r2, r3, r4, r5, r6]; exact (by repeat' first | exact Sub.nil | apply Sub.cons | rfl | (simp [lk]; omega))) (fun w h9 => by dsimp only; rw [r1, r2, r3, r4, r5]; exact St.norows (sz := 1) (St.norows (sz := 1) (St.norows (sz := 1) (St.norows (sz := 1) (St.norows (sz := 1) (h9))))))
 rintro ⟨⟨a1, a2, a3, a4, a5⟩, c1, c2, c3, c4, c5⟩
 dsimp only
 refine sqt 7 rfl (spL rfl rfl (lhA (htl h (h.sg oa oc) (h.ss ob od)) Z14 rfl rfl rfl) rfl ?_)
 refine cl rfl Zez rfl rfl (Z5q h oa ob oc od (by omega) (by omega) _ _) ?_
 rintro _ _ R1 ⟨e1, k1, hk1, rfl, rfl, hR1⟩
 obtain rfl := hR1.symm
 clear hR1
 refine pur 5 rfl (sqt 7 rfl (spL rfl rfl (lhA (htl h (h.sg oa oc) (h.ss ob od)) Z14 rfl rfl rfl) rfl ?_))
 refine cl rfl ZgA rfl rfl (Zci h oa ob oc od (by omega) (by omega) _ _) ?_
 rintro _ _ R1 ⟨e2, k2, hk2, rfl, rfl, hR1⟩
 obtain rfl := hR1.symm
 clear hR1
 rw [hae]
 refine pur 5 rfl (sqt 8 rfl (spL rfl rfl (lhA (htl h (h.sg oa oc) (h.ss ob od)) Z14 rfl rfl rfl) rfl (pur 1 rfl ?_)))
 refine cl rfl ZeD rfl rfl (Z7h h oa ob oc od (by omega) (by omega) week _ _) ?_
 rintro _ _ R1 ⟨e3, k3, hk3, rfl, rfl, hR1⟩
 obtain rfl := hR1.symm
 clear hR1
 rw [show (h.surR week).2 = h.wkE week from rfl]
 refine pur 5 rfl (sqt 8 rfl (spL rfl rfl (lhA (htl h (h.sg oa oc) (h.ss ob od)) Z14 rfl rfl rfl) rfl (pur 1 rfl ?_)))
 refine cl rfl ZfP rfl rfl (Z8Y h oa ob oc od (by omega) (by omega) week _ _) ?_
 rintro _ _ R1 ⟨e4, k4, hk4, rfl, rfl, hR1⟩
 obtain rfl := hR1.symm
 clear hR1
 rw [show (h.perR week).2 = h.wkE week from rfl]
 refine pur 5 rfl (sqt 7 rfl (spL rfl rfl (lhA (htl h (h.sg oa oc) (h.ss ob od)) Z14 rfl rfl rfl) rfl ?_))
 refine cl rfl Zfd rfl rfl (Z9u h oa ob oc od (by omega) (by omega) _ _) ?_
 rintro _ _ R1 ⟨e5, k5, hk5, rfl, rfl, hR1⟩
 obtain rfl := hR1.symm
 clear hR1
 refine pur 5 rfl (sqt 57 rfl (pur 4 rfl ?_))
 refine Zo 96 rfl ?_ ?_ <;> intro g96
 refine pur 5 rfl ?_
 refine Zo 101 rfl ?_ ?_ <;> intro g101
 refine pur 5 rfl ?_
 refine Zo 106 rfl ?_ ?_ <;> intro g106
 refine pur 5 rfl ?_
 refine Zo 111 rfl ?_ ?_ <;> intro g111
 refine pur 5 rfl ?_
 refine Zo 116 rfl ?_ ?_ <;> intro g116
 refine pur 2 rfl ?_
 refine Z2t rfl rfl rfl rfl Z4q rfl rfl (Z0p h.orgR.1 h.orgR.1 e1 a1 k1 c1 (by omega) (by omega) _ _) ?_
 refine pur 2 rfl ?_
 refine Zo 121 rfl ?_ ?_ <;> intro g121
 refine pur 2 rfl ?_
 refine Z2t rfl rfl rfl rfl Z4q rfl rfl (Z0p h.aptR.1 h.aptR.1 e2 a2 k2 c2 (by omega) (by omega) _ _) ?_
 refine pur 2 rfl ?_
 refine Zo 126 rfl ?_ ?_ <;> intro g126
 refine pur 2 rfl ?_
 refine Z2t rfl rfl rfl rfl Z4q rfl rfl (Z0p (h.surR week).1 (h.surR week).1 e3 a3 k3 c3 (by omega) (by omega) _ _) ?_
 refine pur 2 rfl ?_
 refine Zo 131 rfl ?_ ?_ <;> intro g131
 refine pur 2 rfl ?_
 refine Z2t rfl rfl rfl rfl Z4q rfl rfl (Z0p (h.perR week).1 (h.perR week).1 e4 a4 k4 c4 (by omega) (by omega) _ _) ?_
 refine pur 2 rfl ?_
 refine Zo 136 rfl ?_ ?_ <;> intro g136
 refine pur 2 rfl ?_
 refine Z2t rfl rfl rfl rfl Z4q rfl rfl (Z0p h.claR.1 h.claR.1 e5 a5 k5 c5 (by omega) (by omega) _ _) ?_
 refine pur 2 rfl ?_
 refine Zo 141 rfl ?_ ?_ <;> intro g141
 refine Z0I rfl rfl rfl rfl rfl (lhA (htl h (h.sg oa oc) (h.ss ob od)) Z14 rfl rfl rfl) rfl (Z0I rfl rfl rfl rfl rfl (lhA (htl h (h.sg ag cg) (h.ss as_ cs)) Z14 rfl rfl rfl) rfl ?_)
 refine Z2t rfl rfl rfl rfl Zgu rfl rfl (ZdX h h oa ob ag as_ oc od cg cs (by omega) (by omega) (by omega) (by omega) _ _) ?_
 refine pur 2 rfl ?_
 refine Zo 146 rfl ?_ ?_ <;> intro g146
 refine Z2t rfl rfl rfl rfl ZdP rfl rfl (Z8B _ _) ?_
 refine pur 2 rfl (Z5 ?_)
 exact rtA rfl rfl rfl ⟨rfl, rfl, rfl⟩ (fun w h9 => St.sub (((h9.del b6).del b5).del b2))
 rw [sameH_iff.2 rfl] at g146; exact absurd g146 (by decide)
 exact absurd g141 (by simp)
 exact absurd g136 (by simp)
 exact absurd g131 (by simp)
 exact absurd g126 (by simp)
 exact absurd g121 (by simp)
 exact absurd g116 (by simp)
 exact absurd g111 (by simp)
 exact absurd g106 (by simp)
 exact absurd g101 (by simp)
 exact absurd g96 (by simp)
end Go.Proofs.YthbjpnmclokinaaGreat
