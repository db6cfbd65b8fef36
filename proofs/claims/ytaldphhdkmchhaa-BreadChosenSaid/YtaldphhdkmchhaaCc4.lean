/- Walks of the functions of the program, and the laws that join them: what the last theorem of this claim needs, in order. -/
import Derived.Test.YtaldphhdkmchhaaCc3
namespace Go.Proofs.Ytaldphhdkmchhaa
set_option linter.unusedSimpArgs false
set_option linter.unusedVariables false
open Go
theorem wrap_u32 (n : Int) : 0 ≤ IntKind.u32.wrap n ∧ IntKind.u32.wrap n ≤ 4294967295 := by
  have e : IntKind.u32.wrap n = n % 4294967296 := rfl
  rw [e]; omega
theorem wrap_u32_id {n : Int} (h0 : 0 ≤ n) (h1 : n ≤ 4294967295) : IntKind.u32.wrap n = n := by
  have e : IntKind.u32.wrap n = n % 4294967296 := rfl
  rw [e]; omega
theorem wrap_i64_id {n : Int} (h0 : -9223372036854775808 ≤ n) (h1 : n ≤ 9223372036854775807) : IntKind.i64.wrap n = n := by
  have e : IntKind.i64.wrap n = if n % 18446744073709551616 ≥ 9223372036854775808 then n % 18446744073709551616 - 18446744073709551616 else n % 18446744073709551616 := by
    unfold IntKind.wrap
    simp [IntKind.signed, IntKind.bits]
  rw [e]
  split <;> omega
def U32 (m : Int) (v : Value) : Prop := ∃ x : Int, v = .int .u32 x ∧ 0 ≤ x ∧ x ≤ m
section pe
variable {P : Program} {L : Slots} {d : Option Tmp} {ty : TypeId} {pos : String} {af : Array Edge} {g : Option (Nat × Bool)}
theorem run_bits {op : BinOp} {T : TypeId} {k : IntKind} {m n : Int} (hop : op = .and ∨ op = .or ∨ op = .xor ∨ op = .andNot) : binOp op T (.int k m) (.int k n) = Op.intBits op k m n := by
  rcases hop with rfl | rfl | rfl | rfl <;> simp [binOp]
theorem PE.bits {op : BinOp} {T U : TypeId} {x y : Operand} {k : IntKind} {m n : Int} {v : Value} (hop : op = .and ∨ op = .or ∨ op = .xor ∨ op = .andNot) (hx : ev L x = some (.int k m)) (hy : ev L y = some (.int k n))
    (h : ∀ w, (Op.intBits op k m n).run P w = .ok v w) : PE P L ⟨d, .binOp op T x y U, ty, pos, af, g⟩ v := fun ρ hρ w => by
  have hg : ∀ w, (eqGuard op T x y (.int k m) (.int k n)).run P w = .ok () w := fun w => by rcases hop with rfl | rfl | rfl | rfl <;> rfl
  simp only [execOp, hρ _ _ hx, hρ _ _ hy, Sem.run_bind, hg, run_bits hop, h, Result.andThen, Sem.run_pure]
theorem PE.xorU {T U : TypeId} {x y : Operand} {m n : Int} (hx : ev L x = some (.int .u32 m)) (hy : ev L y = some (.int .u32 n)) : ∃ v, PE P L ⟨d, .binOp .xor T x y U, ty, pos, af, g⟩ v ∧ U32 4294967295 v :=
  ⟨_, PE.bits (by simp) hx hy (fun w => rfl), _, rfl, wrap_u32 _⟩
theorem PE.mulU {T U : TypeId} {x y : Operand} {m n : Int} (hx : ev L x = some (.int .u32 m)) (hy : ev L y = some (.int .u32 n)) : ∃ v, PE P L ⟨d, .binOp .mul T x y U, ty, pos, af, g⟩ v ∧ U32 4294967295 v := ⟨_, PE.mulW hx hy, _, rfl, wrap_u32 _⟩
theorem PE.addU {T U : TypeId} {x y : Operand} {m n : Int} (hx : ev L x = some (.int .u32 m)) (hy : ev L y = some (.int .u32 n)) : ∃ v, PE P L ⟨d, .binOp .add T x y U, ty, pos, af, g⟩ v ∧ U32 4294967295 v := ⟨_, PE.addW hx hy, _, rfl, wrap_u32 _⟩
theorem PE.convU {S T : TypeId} {x : Operand} {k : IntKind} {m : Int} (hS : (P.underlying S).isSome = true) (hT : intK P T = some .u32) (hx : ev L x = some (.int k m)) : ∃ v, PE P L ⟨d, .convert S T x, ty, pos, af, g⟩ v ∧ U32 4294967295 v := ⟨_, PE.convert hS hT hx, _, rfl, wrap_u32 _⟩
theorem PE.conv64 {S T : TypeId} {x : Operand} {k : IntKind} {m : Int} (hS : (P.underlying S).isSome = true) (hT : intK P T = some .i64) (hx : ev L x = some (.int k m)) (h0 : -9223372036854775808 ≤ m ∧ m ≤ 9223372036854775807) : PE P L ⟨d, .convert S T x, ty, pos, af, g⟩ (.int .i64 m) := by
  have := PE.convert (P := P) (L := L) (d := d) (ty := ty) (pos := pos) (af := af) (g := g) hS hT hx
  rwa [wrap_i64_id h0.1 h0.2] at this
theorem PE.andU {T U : TypeId} {x y : Operand} {m n : Int} (hx : ev L x = some (.int .u32 m)) (hy : ev L y = some (.int .u32 n)) (h0 : 0 ≤ n) (h1 : n ≤ 4294967295) : ∃ v, PE P L ⟨d, .binOp .and T x y U, ty, pos, af, g⟩ v ∧ U32 n v := by
  refine ⟨_, PE.bits (by simp) hx hy (fun w => rfl), _, rfl, (wrap_u32 _).1, ?_⟩
  have hb : (BitVec.ofInt 32 n).toNat = n.toNat := by
    rw [BitVec.toNat_ofInt]; omega
  have hle : (BitVec.ofInt 32 m &&& BitVec.ofInt 32 n).toNat ≤ n.toNat := by
    rw [BitVec.toNat_and, hb]; exact Nat.and_le_right
  show IntKind.u32.wrap ((BitVec.ofInt 32 m &&& BitVec.ofInt 32 n).toNat : Int) ≤ n
  rw [wrap_u32_id (by omega) (by omega)]
  omega
theorem PE.shrU {T U : TypeId} {x y : Operand} {q : IntKind} {m n : Int} (hx : ev L x = some (.int .u32 m)) (hy : ev L y = some (.int q n)) (hn : 0 ≤ n) (h0 : 0 ≤ m) (h1 : m ≤ 4294967295) : ∃ v, PE P L ⟨d, .binOp .shr T x y U, ty, pos, af, g⟩ v ∧ U32 4294967295 v := by
  refine ⟨.int .u32 (m.fdiv (2 ^ (Min.min n.toNat 32))), fun ρ hρ w => ?_, _, rfl, ?_, ?_⟩
  · have hg : ∀ w, (eqGuard .shr T x y (.int .u32 m) (.int q n)).run P w = .ok () w := fun w => rfl
    have hb : binOp .shr T (.int .u32 m) (.int q n) = Op.shift .shr .u32 m q n := by simp [binOp]
    have hs : ∀ w, (Op.shift .shr .u32 m q n).run P w = .ok (.int .u32 (m.fdiv (2 ^ (Min.min n.toNat 32)))) w := fun w => by
      unfold Op.shift
      rw [if_neg (by omega)]
      rfl
    simp only [execOp, hρ _ _ hx, hρ _ _ hy, Sem.run_bind, hg, hb, hs, Result.andThen, Sem.run_pure]
  · rw [Int.fdiv_eq_ediv_of_nonneg _ (Int.pow_nonneg (by omega))]
    exact Int.ediv_nonneg h0 (Int.pow_nonneg (by omega))
  · rw [Int.fdiv_eq_ediv_of_nonneg _ (Int.pow_nonneg (by omega))]
    have := Int.ediv_le_self (a := m) (2 ^ (Min.min n.toNat 32)) h0
    omega
end pe
section steps
variable {P : Program} {r : Option Nat} {ops : Array Oper} {n : Nat} {L : Slots} {D : List Deferred} {H : Heap} {R : Facts} {K : Act → World → Prop}
  {bm : List Nat} {X : Act → World → Prop} {p : Plan} {pend : Pend}
  {i d : Nat} {op : Op} {ty : TypeId} {pos : String} {af : Array Edge}
theorem spE {q : Value → Prop} (ho : ops[i]? = some ⟨some d, op, ty, pos, af, none⟩) (hv : ∃ v, PE P L ⟨some d, op, ty, pos, af, none⟩ v ∧ q v) (hd : Nat.blt d n = true)
    (h : ∀ v, q v → Sy n ((d, v) :: L) D H R K) : Sy n L D H R (stp P r ops i K) := by
  obtain ⟨v, hv, hq⟩ := hv
  exact sp ho hv hd (h v hq)
theorem tkE {q : Value → Prop} (ho : ops[i]? = some ⟨some d, op, ty, pos, af, none⟩) (hv : ∃ v, PE P L ⟨some d, op, ty, pos, af, none⟩ v ∧ q v) (hd : Nat.blt d n = true)
    (h : ∀ v, q v → Sy n ((d, v) :: L) D H R (Dv P r ops bm X p pend)) : Sy n L D H R (Dv P r ops bm X (.tk i p) pend) := by
  obtain ⟨v, hv, hq⟩ := hv
  exact tk ho hv hd (h v hq)
end steps
end Go.Proofs.Ytaldphhdkmchhaa
namespace Go.Proofs.Ytaldphhdkmchhaa
set_option linter.unusedSimpArgs false
set_option linter.unusedVariables false
open Go
theorem cal109 : cal Try.prog 109 = true := by kernel_rfl
theorem cal48 : cal Try.prog 48 = true := by kernel_rfl
theorem cn166 : cellN Try.prog 166 = some 1 := by kernel_rfl
theorem el74 : elN Try.prog 74 = some 1 := by kernel_rfl
theorem fo168_0 : fOff Try.prog 168 0 = some 0 := by kernel_rfl
theorem fo168_1 : fOff Try.prog 168 1 = some 1 := by kernel_rfl
theorem fo168_2 : fOff Try.prog 168 2 = some 2 := by kernel_rfl
theorem ik166 : intK Try.prog 166 = some .u32 := by kernel_rfl
theorem ik3 : intK Try.prog 3 = some .i64 := by kernel_rfl
theorem isl74 : isSl Try.prog 74 = true := by kernel_rfl
theorem pl168 : placeL Try.prog 168 = some [(0, 1), (1, 1), (2, 1)] := by kernel_rfl
theorem sc166 : scal Try.prog 166 = true := by kernel_rfl
theorem sc5 : scal Try.prog 5 = true := by kernel_rfl
theorem sc74 : scal Try.prog 74 = true := by kernel_rfl
theorem us166 : (Try.prog.underlying 166).isSome = true := by kernel_rfl
theorem us3 : (Try.prog.underlying 3).isSome = true := by kernel_rfl
theorem us5 : (Try.prog.underlying 5).isSome = true := by kernel_rfl
theorem zl168 : zeroL Try.prog 168 = some ([.slice none 0 0, .int .i64 0, .int .u32 0]) := by kernel_rfl
def urow (x : Int) : List Value := [.int .u8 x]
def urows (l : List Int) : List (List Value) := l.map urow
theorem c_Fill (g : List Int) (ag : Option Addr) (cg : Nat) (hgl : g.length ≤ 9223372036854775807) (H : Heap) (R : Facts) :
    Fn Try.prog 47 [.slice ag g.length cg] H R (fun v H' R' => ∃ bk, ∃ mx : Int, (0 ≤ mx ∧ mx ≤ 4294967295) ∧ v = .pointer (some ⟨bk, 0, none⟩) ∧ H' = (bk, cel 168 [.slice ag g.length cg, .int .i64 (0), .int .u32 (mx)]) :: H ∧ R' = R) := by
 refine fn_of Try.func47 rfl Try.ntmps47 rfl ?_
 refine sy_seq ?_
 refine sy_tx' [0] rfl ?_
 refine sp rfl (PE.assign rfl) rfl ?_
 refine sy_seq ?_
 refine sy_tx' [0, 1, 2, 3, 4, 5, 6, 7] rfl ?_
 refine sp rfl (PE.move rfl) rfl ?_
 refine sp rfl (PE.move rfl) rfl ?_
 refine sp rfl (PE.lenSl isl74 rfl) rfl ?_
 refine spE rfl (PE.convU us3 ik166 rfl) rfl ?_
 rintro _ ⟨u6, rfl, hu6⟩
 refine spE rfl (PE.xorU rfl rfl) rfl ?_
 rintro _ ⟨u7, rfl, hu7⟩
 refine sp rfl (PE.build (out := [_, _, _]) pl168 zl168 rfl rfl) rfl ?_
 refine bx rfl rfl rfl (fun b9 => ?_)
 refine sp rfl (PE.assign rfl) rfl ?_
 refine sy_ret ?_
 exact sy_return (vs := [_]) rfl (.cons (RV.tmp rfl) .nil) rfl ⟨b9, u7, hu7, rfl, rfl, rfl⟩ (fun _ h => h)
theorem c_handful (g : List Int) (ag : Option Addr) (cg bk : Nat) (hgl : g.length ≤ 9223372036854775807) (tq mx : Int) (htq : 0 ≤ tq ∧ tq ≤ 1000000000) (hmx : 0 ≤ mx ∧ mx ≤ 4294967295) (H : Heap) (R : Facts) [hG : MemRows ag 1 (urows g) R] :
    Fn Try.prog 109 [.pointer (some ⟨bk, 0, none⟩)] ((bk, cel 168 [.slice ag g.length cg, .int .i64 (tq), .int .u32 (mx)]) :: H) R (fun v H' R' => ∃ x m' : Int, (0 ≤ x ∧ x ≤ 65535) ∧ v = .int .i64 x ∧ (0 ≤ m' ∧ m' ≤ 4294967295) ∧ H' = (bk, cel 168 [.slice ag g.length cg, .int .i64 (tq + 1), .int .u32 (m')]) :: H ∧ R' = R) := by
 refine fn_of Try.func109 rfl Try.ntmps109 rfl ?_
 refine sy_seq ?_
 refine sy_tx' [0] rfl ?_
 refine sp rfl (PE.assign rfl) rfl ?_
 refine sy_seq ?_
 refine sy_seq ?_
 refine sy_tx' [0, 1, 2, 3, 4, 5] rfl ?_
 refine sp rfl (PE.move rfl) rfl ?_
 refine sp rfl (PE.nilCheck rfl) rfl ?_
 refine sp rfl (PE.fieldAddr fo168_0 rfl) rfl ?_
 refine spL rfl rfl (lh sc74 rfl rfl) rfl ?_
 refine sp rfl (PE.lenSl isl74 rfl) rfl ?_
 refine sp rfl (PE.assign rfl) rfl ?_
 refine sy_seq ?_
 refine sy_tx' [0, 1] rfl ?_
 refine sp rfl (PE.move rfl) rfl ?_
 refine sp rfl (PE.gtr rfl rfl) rfl ?_
 refine sy_cond rfl (fun hc0 => ?_) (fun hc0 => ?_)
 try simp only [decide_eq_true_eq, decide_eq_false_iff_not, Bool.and_eq_true, Bool.or_eq_true, Bool.not_eq_true', Int.not_le, Int.not_lt] at hc0
 obtain ⟨y, hy⟩ : ∃ y, g[(tq % g.length).toNat]? = some y := ⟨_, List.getElem?_eq_getElem (by have := Int.emod_lt_of_pos tq hc0; have := Int.emod_nonneg tq (show (g.length : Int) ≠ 0 by omega); omega)⟩
 refine sy_addr (a := ag) (sz := 1) (rows := urows g) (by intro h0; simp [urows] at h0; simp [h0] at hy) (fun bgr ogr he => ?_)
 subst he
 refine sy_draw [0, 0, 2, 6, 14, 0, 32, 96, 224, 0, 512, 1536, 3584, 0, 15872, 32736, 65504, 131040, 262142, 524286, 1048575, 2097151, 4194303] (.tk 0 (.tk 1 (.tk 2 (.tk 3 (.ld 4 (.tk 5 (.tk 6 (.tk 7 (.ld 8 (.tk 9 (.tk 10 (.tk 11 (.ld 12 (.tk 13 (.tk 14 (.tk 15 (.ld 16 (.tk 17 (.tk 18 (.tk 19 (.tk 20 (.tk 21 (.big 22 .done))))))))))))))))))))))) mixed (by kernel_rfl) ?_
 refine tk rfl (PE.move rfl) rfl ?_
 refine tk rfl (PE.move rfl) rfl ?_
 refine tk rfl (PE.nilCheck rfl) rfl ?_
 refine tk rfl (PE.fieldAddr fo168_2 rfl) rfl ?_
 refine ld rfl rfl (lh sc166 rfl rfl) rfl ?_
 refine tk rfl (PE.move rfl) rfl ?_
 refine tk rfl (PE.nilCheck rfl) rfl ?_
 refine tk rfl (PE.fieldAddr fo168_0 rfl) rfl ?_
 refine ld rfl rfl (lh sc74 rfl rfl) rfl ?_
 refine tk rfl (PE.move rfl) rfl ?_
 refine tk rfl (PE.nilCheck rfl) rfl ?_
 refine tk rfl (PE.fieldAddr fo168_1 rfl) rfl ?_
 refine ld rfl rfl (lh sc3 rfl rfl) rfl ?_
 refine tk rfl (PE.move rfl) rfl ?_
 refine tk rfl (PE.rem rfl rfl (by omega)) rfl ?_
 refine tk rfl (PE.indexAddr el74 rfl rfl (by exact Int.emod_nonneg tq (by omega)) (by exact Int.emod_lt_of_pos tq hc0)) rfl ?_
 refine ld rfl rfl (lf0 (x := .int .u8 y) sc5 (by simp [urows, urow, hy]; rfl) rfl) rfl ?_
 refine tkE rfl (PE.convU us5 ik166 rfl) rfl ?_
 rintro _ ⟨u28, rfl, hu28⟩
 refine tkE rfl (PE.xorU rfl rfl) rfl ?_
 rintro _ ⟨u29, rfl, hu29⟩
 refine tkE rfl (PE.mulU rfl rfl) rfl ?_
 rintro _ ⟨u30, rfl, hu30⟩
 refine tk rfl (PE.nilCheck rfl) rfl ?_
 refine tk rfl (PE.fieldAddr fo168_2 rfl) rfl ?_
 refine sto rfl rfl rfl cn166 rfl rfl rfl rfl ?_
 refine bg (fun w hs => ⟨trivial, trivial, trivial, trivial, trivial⟩) ?_
 refine sy_seq ?_
 refine sy_tx' [0, 1, 2, 3, 4, 5, 6, 7] rfl ?_
 refine sp rfl (PE.move rfl) rfl ?_
 refine sp rfl (PE.nilCheck rfl) rfl ?_
 refine sp rfl (PE.fieldAddr fo168_1 rfl) rfl ?_
 refine spL rfl rfl (lh sc3 rfl rfl) rfl ?_
 refine sp rfl (PE.add rfl rfl (by omega)) rfl ?_
 refine sp rfl (PE.nilCheck rfl) rfl ?_
 refine sp rfl (PE.fieldAddr fo168_1 rfl) rfl ?_
 refine sto rfl rfl rfl cn3 rfl rfl rfl rfl ?_
 refine sy_seq ?_
 refine sy_seq ?_
 refine sy_draw [0, 1, 3, 7, 0, 16, 48, 112, 240, 511] (.tk 0 (.tk 1 (.tk 2 (.ld 3 (.tk 4 (.tk 5 (.tk 6 (.ld 7 (.tk 8 (.tk 9 .done)))))))))) mixed (by kernel_rfl) ?_
 refine tk rfl (PE.move rfl) rfl ?_
 refine tk rfl (PE.nilCheck rfl) rfl ?_
 refine tk rfl (PE.fieldAddr fo168_1 rfl) rfl ?_
 refine ld rfl rfl (lh sc3 rfl rfl) rfl ?_
 refine tk rfl (PE.move rfl) rfl ?_
 refine tk rfl (PE.nilCheck rfl) rfl ?_
 refine tk rfl (PE.fieldAddr fo168_0 rfl) rfl ?_
 refine ld rfl rfl (lh sc74 rfl rfl) rfl ?_
 refine tk rfl (PE.lenSl isl74 rfl) rfl ?_
 refine tk rfl (PE.gtr rfl rfl) rfl ?_
 refine sy_cond rfl (fun hc1 => ?_) (fun hc1 => ?_)
 try simp only [decide_eq_true_eq, decide_eq_false_iff_not, Bool.and_eq_true, Bool.or_eq_true, Bool.not_eq_true', Int.not_le, Int.not_lt] at hc1
 refine sy_tx' [0, 1, 2, 3, 4, 5, 6, 7, 8, 9] rfl ?_
 refine sp rfl (PE.move rfl) rfl ?_
 refine sp rfl (PE.move rfl) rfl ?_
 refine sp rfl (PE.nilCheck rfl) rfl ?_
 refine sp rfl (PE.fieldAddr fo168_2 rfl) rfl ?_
 refine spL rfl rfl (lh sc166 rfl rfl) rfl ?_
 refine spE rfl (PE.mulU rfl rfl) rfl ?_
 rintro _ ⟨u55, rfl, hu55⟩
 refine spE rfl (PE.addU rfl rfl) rfl ?_
 rintro _ ⟨u56, rfl, hu56⟩
 refine sp rfl (PE.nilCheck rfl) rfl ?_
 refine sp rfl (PE.fieldAddr fo168_2 rfl) rfl ?_
 refine sto rfl rfl rfl cn166 rfl rfl rfl rfl ?_
 refine sy_seq ?_
 refine sy_draw [0, 1, 3, 7, 0, 16, 48, 112, 240, 511, 1023, 2047, 4095, 8191] (.tk 0 (.tk 1 (.tk 2 (.ld 3 (.tk 4 (.tk 5 (.tk 6 (.ld 7 (.tk 8 (.tk 9 (.tk 10 (.tk 11 (.tk 12 (.tk 13 .done)))))))))))))) mixed (by kernel_rfl) ?_
 refine tk rfl (PE.move rfl) rfl ?_
 refine tk rfl (PE.nilCheck rfl) rfl ?_
 refine tk rfl (PE.fieldAddr fo168_2 rfl) rfl ?_
 refine ld rfl rfl (lh sc166 rfl rfl) rfl ?_
 refine tk rfl (PE.move rfl) rfl ?_
 refine tk rfl (PE.nilCheck rfl) rfl ?_
 refine tk rfl (PE.fieldAddr fo168_2 rfl) rfl ?_
 refine ld rfl rfl (lh sc166 rfl rfl) rfl ?_
 refine tkE rfl (PE.shrU rfl rfl (by decide) (by omega) (by omega)) rfl ?_
 rintro _ ⟨u67, rfl, hu67⟩
 refine tkE rfl (PE.xorU rfl rfl) rfl ?_
 rintro _ ⟨u68, rfl, hu68⟩
 refine tkE rfl (PE.shrU rfl rfl (by decide) (by omega) (by omega)) rfl ?_
 rintro _ ⟨u69, rfl, hu69⟩
 refine tkE rfl (PE.andU rfl rfl (by decide) (by decide)) rfl ?_
 rintro _ ⟨u70, rfl, hu70⟩
 refine tk rfl (PE.conv64 us166 ik3 rfl (by omega)) rfl ?_
 refine tk rfl (PE.assign rfl) rfl ?_
 refine sy_ret ?_
 first
   | exact sy_return (vs := [_]) rfl (.cons (RV.tmp rfl) .nil) rfl ⟨u70, _, hu70, rfl, hu56, rfl, rfl⟩ (fun _ h => h)
   | exact sy_return (vs := [_]) rfl (.cons (RV.tmp rfl) .nil) rfl ⟨u70, _, hu70, rfl, hu30, rfl, rfl⟩ (fun _ h => h)
   | exact sy_return (vs := [_]) rfl (.cons (RV.tmp rfl) .nil) rfl ⟨u70, _, hu70, rfl, hmx, rfl, rfl⟩ (fun _ h => h)
 try simp only [decide_eq_true_eq, decide_eq_false_iff_not, Bool.and_eq_true, Bool.or_eq_true, Bool.not_eq_true', Int.not_le, Int.not_lt] at hc1
 refine sy_skip ?_
 refine sy_seq ?_
 refine sy_draw [0, 1, 3, 7, 0, 16, 48, 112, 240, 511, 1023, 2047, 4095, 8191] (.tk 0 (.tk 1 (.tk 2 (.ld 3 (.tk 4 (.tk 5 (.tk 6 (.ld 7 (.tk 8 (.tk 9 (.tk 10 (.tk 11 (.tk 12 (.tk 13 .done)))))))))))))) mixed (by kernel_rfl) ?_
 refine tk rfl (PE.move rfl) rfl ?_
 refine tk rfl (PE.nilCheck rfl) rfl ?_
 refine tk rfl (PE.fieldAddr fo168_2 rfl) rfl ?_
 refine ld rfl rfl (lh sc166 rfl rfl) rfl ?_
 refine tk rfl (PE.move rfl) rfl ?_
 refine tk rfl (PE.nilCheck rfl) rfl ?_
 refine tk rfl (PE.fieldAddr fo168_2 rfl) rfl ?_
 refine ld rfl rfl (lh sc166 rfl rfl) rfl ?_
 refine tkE rfl (PE.shrU rfl rfl (by decide) (by omega) (by omega)) rfl ?_
 rintro _ ⟨u67, rfl, hu67⟩
 refine tkE rfl (PE.xorU rfl rfl) rfl ?_
 rintro _ ⟨u68, rfl, hu68⟩
 refine tkE rfl (PE.shrU rfl rfl (by decide) (by omega) (by omega)) rfl ?_
 rintro _ ⟨u69, rfl, hu69⟩
 refine tkE rfl (PE.andU rfl rfl (by decide) (by decide)) rfl ?_
 rintro _ ⟨u70, rfl, hu70⟩
 refine tk rfl (PE.conv64 us166 ik3 rfl (by omega)) rfl ?_
 refine tk rfl (PE.assign rfl) rfl ?_
 refine sy_ret ?_
 first
   | exact sy_return (vs := [_]) rfl (.cons (RV.tmp rfl) .nil) rfl ⟨u70, _, hu70, rfl, hu56, rfl, rfl⟩ (fun _ h => h)
   | exact sy_return (vs := [_]) rfl (.cons (RV.tmp rfl) .nil) rfl ⟨u70, _, hu70, rfl, hu30, rfl, rfl⟩ (fun _ h => h)
   | exact sy_return (vs := [_]) rfl (.cons (RV.tmp rfl) .nil) rfl ⟨u70, _, hu70, rfl, hmx, rfl, rfl⟩ (fun _ h => h)
 try simp only [decide_eq_true_eq, decide_eq_false_iff_not, Bool.and_eq_true, Bool.or_eq_true, Bool.not_eq_true', Int.not_le, Int.not_lt] at hc0
 refine sy_skip ?_
 refine sy_seq ?_
 refine sy_tx' [0, 1, 2, 3, 4, 5, 6, 7] rfl ?_
 refine sp rfl (PE.move rfl) rfl ?_
 refine sp rfl (PE.nilCheck rfl) rfl ?_
 refine sp rfl (PE.fieldAddr fo168_1 rfl) rfl ?_
 refine spL rfl rfl (lh sc3 rfl rfl) rfl ?_
 refine sp rfl (PE.add rfl rfl (by omega)) rfl ?_
 refine sp rfl (PE.nilCheck rfl) rfl ?_
 refine sp rfl (PE.fieldAddr fo168_1 rfl) rfl ?_
 refine sto rfl rfl rfl cn3 rfl rfl rfl rfl ?_
 refine sy_seq ?_
 refine sy_seq ?_
 refine sy_draw [0, 1, 3, 7, 0, 16, 48, 112, 240, 511] (.tk 0 (.tk 1 (.tk 2 (.ld 3 (.tk 4 (.tk 5 (.tk 6 (.ld 7 (.tk 8 (.tk 9 .done)))))))))) mixed (by kernel_rfl) ?_
 refine tk rfl (PE.move rfl) rfl ?_
 refine tk rfl (PE.nilCheck rfl) rfl ?_
 refine tk rfl (PE.fieldAddr fo168_1 rfl) rfl ?_
 refine ld rfl rfl (lh sc3 rfl rfl) rfl ?_
 refine tk rfl (PE.move rfl) rfl ?_
 refine tk rfl (PE.nilCheck rfl) rfl ?_
 refine tk rfl (PE.fieldAddr fo168_0 rfl) rfl ?_
 refine ld rfl rfl (lh sc74 rfl rfl) rfl ?_
 refine tk rfl (PE.lenSl isl74 rfl) rfl ?_
 refine tk rfl (PE.gtr rfl rfl) rfl ?_
 refine sy_cond rfl (fun hc1 => ?_) (fun hc1 => ?_)
 try simp only [decide_eq_true_eq, decide_eq_false_iff_not, Bool.and_eq_true, Bool.or_eq_true, Bool.not_eq_true', Int.not_le, Int.not_lt] at hc1
 refine sy_tx' [0, 1, 2, 3, 4, 5, 6, 7, 8, 9] rfl ?_
 refine sp rfl (PE.move rfl) rfl ?_
 refine sp rfl (PE.move rfl) rfl ?_
 refine sp rfl (PE.nilCheck rfl) rfl ?_
 refine sp rfl (PE.fieldAddr fo168_2 rfl) rfl ?_
 refine spL rfl rfl (lh sc166 rfl rfl) rfl ?_
 refine spE rfl (PE.mulU rfl rfl) rfl ?_
 rintro _ ⟨u55, rfl, hu55⟩
 refine spE rfl (PE.addU rfl rfl) rfl ?_
 rintro _ ⟨u56, rfl, hu56⟩
 refine sp rfl (PE.nilCheck rfl) rfl ?_
 refine sp rfl (PE.fieldAddr fo168_2 rfl) rfl ?_
 refine sto rfl rfl rfl cn166 rfl rfl rfl rfl ?_
 refine sy_seq ?_
 refine sy_draw [0, 1, 3, 7, 0, 16, 48, 112, 240, 511, 1023, 2047, 4095, 8191] (.tk 0 (.tk 1 (.tk 2 (.ld 3 (.tk 4 (.tk 5 (.tk 6 (.ld 7 (.tk 8 (.tk 9 (.tk 10 (.tk 11 (.tk 12 (.tk 13 .done)))))))))))))) mixed (by kernel_rfl) ?_
 refine tk rfl (PE.move rfl) rfl ?_
 refine tk rfl (PE.nilCheck rfl) rfl ?_
 refine tk rfl (PE.fieldAddr fo168_2 rfl) rfl ?_
 refine ld rfl rfl (lh sc166 rfl rfl) rfl ?_
 refine tk rfl (PE.move rfl) rfl ?_
 refine tk rfl (PE.nilCheck rfl) rfl ?_
 refine tk rfl (PE.fieldAddr fo168_2 rfl) rfl ?_
 refine ld rfl rfl (lh sc166 rfl rfl) rfl ?_
 refine tkE rfl (PE.shrU rfl rfl (by decide) (by omega) (by omega)) rfl ?_
 rintro _ ⟨u67, rfl, hu67⟩
 refine tkE rfl (PE.xorU rfl rfl) rfl ?_
 rintro _ ⟨u68, rfl, hu68⟩
 refine tkE rfl (PE.shrU rfl rfl (by decide) (by omega) (by omega)) rfl ?_
 rintro _ ⟨u69, rfl, hu69⟩
 refine tkE rfl (PE.andU rfl rfl (by decide) (by decide)) rfl ?_
 rintro _ ⟨u70, rfl, hu70⟩
 refine tk rfl (PE.conv64 us166 ik3 rfl (by omega)) rfl ?_
 refine tk rfl (PE.assign rfl) rfl ?_
 refine sy_ret ?_
 first
   | exact sy_return (vs := [_]) rfl (.cons (RV.tmp rfl) .nil) rfl ⟨u70, _, hu70, rfl, hu56, rfl, rfl⟩ (fun _ h => h)
   | exact sy_return (vs := [_]) rfl (.cons (RV.tmp rfl) .nil) rfl ⟨u70, _, hu70, rfl, hu30, rfl, rfl⟩ (fun _ h => h)
   | exact sy_return (vs := [_]) rfl (.cons (RV.tmp rfl) .nil) rfl ⟨u70, _, hu70, rfl, hmx, rfl, rfl⟩ (fun _ h => h)
 try simp only [decide_eq_true_eq, decide_eq_false_iff_not, Bool.and_eq_true, Bool.or_eq_true, Bool.not_eq_true', Int.not_le, Int.not_lt] at hc1
 refine sy_skip ?_
 refine sy_seq ?_
 refine sy_draw [0, 1, 3, 7, 0, 16, 48, 112, 240, 511, 1023, 2047, 4095, 8191] (.tk 0 (.tk 1 (.tk 2 (.ld 3 (.tk 4 (.tk 5 (.tk 6 (.ld 7 (.tk 8 (.tk 9 (.tk 10 (.tk 11 (.tk 12 (.tk 13 .done)))))))))))))) mixed (by kernel_rfl) ?_
 refine tk rfl (PE.move rfl) rfl ?_
 refine tk rfl (PE.nilCheck rfl) rfl ?_
 refine tk rfl (PE.fieldAddr fo168_2 rfl) rfl ?_
 refine ld rfl rfl (lh sc166 rfl rfl) rfl ?_
 refine tk rfl (PE.move rfl) rfl ?_
 refine tk rfl (PE.nilCheck rfl) rfl ?_
 refine tk rfl (PE.fieldAddr fo168_2 rfl) rfl ?_
 refine ld rfl rfl (lh sc166 rfl rfl) rfl ?_
 refine tkE rfl (PE.shrU rfl rfl (by decide) (by omega) (by omega)) rfl ?_
 rintro _ ⟨u67, rfl, hu67⟩
 refine tkE rfl (PE.xorU rfl rfl) rfl ?_
 rintro _ ⟨u68, rfl, hu68⟩
 refine tkE rfl (PE.shrU rfl rfl (by decide) (by omega) (by omega)) rfl ?_
 rintro _ ⟨u69, rfl, hu69⟩
 refine tkE rfl (PE.andU rfl rfl (by decide) (by decide)) rfl ?_
 rintro _ ⟨u70, rfl, hu70⟩
 refine tk rfl (PE.conv64 us166 ik3 rfl (by omega)) rfl ?_
 refine tk rfl (PE.assign rfl) rfl ?_
 refine sy_ret ?_
 first
   | exact sy_return (vs := [_]) rfl (.cons (RV.tmp rfl) .nil) rfl ⟨u70, _, hu70, rfl, hu56, rfl, rfl⟩ (fun _ h => h)
   | exact sy_return (vs := [_]) rfl (.cons (RV.tmp rfl) .nil) rfl ⟨u70, _, hu70, rfl, hu30, rfl, rfl⟩ (fun _ h => h)
   | exact sy_return (vs := [_]) rfl (.cons (RV.tmp rfl) .nil) rfl ⟨u70, _, hu70, rfl, hmx, rfl, rfl⟩ (fun _ h => h)
theorem c_Below (g : List Int) (ag : Option Addr) (cg bk : Nat) (hgl : g.length ≤ 9223372036854775807) (tq mx : Int) (htq : 0 ≤ tq ∧ tq ≤ 1000000000) (hmx : 0 ≤ mx ∧ mx ≤ 4294967295) (n : Int) (H : Heap) (R : Facts) [hG : MemRows ag 1 (urows g) R] :
    Fn Try.prog 48 [.pointer (some ⟨bk, 0, none⟩), .int .i64 n] ((bk, cel 168 [.slice ag g.length cg, .int .i64 (tq), .int .u32 (mx)]) :: H) R (fun v H' R' => ∃ x m' : Int, (0 ≤ x ∧ x < max 1 n) ∧ v = .int .i64 x ∧ (0 ≤ m' ∧ m' ≤ 4294967295) ∧ H' = (bk, cel 168 [.slice ag g.length cg, .int .i64 (tq + 1), .int .u32 (m')]) :: H ∧ R' = R) := by
 refine fn_of Try.func48 rfl Try.ntmps48 rfl ?_
 refine sy_seq ?_
 refine sy_tx' [0] rfl ?_
 refine sp rfl (PE.assign rfl) rfl ?_
 refine sy_seq ?_
 refine sy_tx' [0, 1, 2, 3, 4, 5] rfl ?_
 refine sp rfl (PE.move rfl) rfl ?_
 refine cl rfl cal109 rfl rfl (c_handful g ag cg bk hgl tq mx htq hmx _ _) ?_
 rintro _ _ _ ⟨x, m', hx, rfl, hm', rfl, rfl⟩
 refine sp rfl (PE.move rfl) rfl ?_
 refine sp rfl (PE.max rfl rfl) rfl ?_
 refine sp rfl (PE.rem rfl rfl (by omega)) rfl ?_
 refine sp rfl (PE.assign rfl) rfl ?_
 refine sy_ret ?_
 exact sy_return (vs := [_]) rfl (.cons (RV.tmp rfl) .nil) rfl ⟨_, m', ⟨Int.emod_nonneg _ (by omega), Int.emod_lt_of_pos _ (by omega)⟩, rfl, hm', rfl, rfl⟩ (fun _ h => h)
theorem c_Among (g : List Int) (ag : Option Addr) (cg bk : Nat) (hgl : g.length ≤ 9223372036854775807) (tq mx : Int) (htq : 0 ≤ tq ∧ tq ≤ 1000000000) (hmx : 0 ≤ mx ∧ mx ≤ 4294967295) (lo hi : Int) (hb : -1000000 ≤ lo ∧ lo ≤ 1000000 ∧ -1000000 ≤ hi ∧ hi ≤ 1000000) (H : Heap) (R : Facts) [hG : MemRows ag 1 (urows g) R] :
    Fn Try.prog 73 [.pointer (some ⟨bk, 0, none⟩), .int .i64 lo, .int .i64 hi] ((bk, cel 168 [.slice ag g.length cg, .int .i64 (tq), .int .u32 (mx)]) :: H) R (fun v H' R' => ∃ x m' : Int, (lo ≤ x ∧ x < lo + max 1 (hi - lo + 1)) ∧ v = .int .i64 x ∧ (0 ≤ m' ∧ m' ≤ 4294967295) ∧ H' = (bk, cel 168 [.slice ag g.length cg, .int .i64 (tq + 1), .int .u32 (m')]) :: H ∧ R' = R) := by
 refine fn_of Try.func73 rfl Try.ntmps73 rfl ?_
 refine sy_seq ?_
 refine sy_tx' [0] rfl ?_
 refine sp rfl (PE.assign rfl) rfl ?_
 refine sy_seq ?_
 refine sy_tx' [0, 1, 2, 3, 4, 5, 6, 7, 8] rfl ?_
 refine sp rfl (PE.move rfl) rfl ?_
 refine sp rfl (PE.move rfl) rfl ?_
 refine sp rfl (PE.move rfl) rfl ?_
 refine sp rfl (PE.move rfl) rfl ?_
 refine sp rfl (PE.sub rfl rfl (by omega)) rfl ?_
 refine sp rfl (PE.add rfl rfl (by omega)) rfl ?_
 refine cl rfl cal48 rfl rfl (c_Below g ag cg bk hgl tq mx htq hmx (hi - lo + 1) _ _) ?_
 rintro _ _ _ ⟨x, m', hx, rfl, hm', rfl, rfl⟩
 refine sp rfl (PE.add rfl rfl (by omega)) rfl ?_
 refine sp rfl (PE.assign rfl) rfl ?_
 refine sy_ret ?_
 exact sy_return (vs := [_]) rfl (.cons (RV.tmp rfl) .nil) rfl ⟨lo + x, m', ⟨by omega, by omega⟩, rfl, hm', rfl, rfl⟩ (fun _ h => h)
theorem c_Rare (g : List Int) (ag : Option Addr) (cg bk : Nat) (hgl : g.length ≤ 9223372036854775807) (tq mx : Int) (htq : 0 ≤ tq ∧ tq ≤ 1000000000) (hmx : 0 ≤ mx ∧ mx ≤ 4294967295) (n : Int) (H : Heap) (R : Facts) [hG : MemRows ag 1 (urows g) R] :
    Fn Try.prog 72 [.pointer (some ⟨bk, 0, none⟩), .int .i64 n] ((bk, cel 168 [.slice ag g.length cg, .int .i64 (tq), .int .u32 (mx)]) :: H) R (fun v H' R' => ∃ (x : Bool) (m' : Int), v = .bool x ∧ (0 ≤ m' ∧ m' ≤ 4294967295) ∧ H' = (bk, cel 168 [.slice ag g.length cg, .int .i64 (tq + 1), .int .u32 (m')]) :: H ∧ R' = R) := by
 refine fn_of Try.func72 rfl Try.ntmps72 rfl ?_
 refine sy_seq ?_
 refine sy_tx' [0] rfl ?_
 refine sp rfl (PE.assign rfl) rfl ?_
 refine sy_seq ?_
 refine sy_tx' [0, 1, 2, 3, 4] rfl ?_
 refine sp rfl (PE.move rfl) rfl ?_
 refine sp rfl (PE.move rfl) rfl ?_
 refine cl rfl cal48 rfl rfl (c_Below g ag cg bk hgl tq mx htq hmx n _ _) ?_
 rintro _ _ _ ⟨x, m', hx, rfl, hm', rfl, rfl⟩
 refine sp rfl (PE.eql rfl rfl) rfl ?_
 refine sp rfl (PE.assign rfl) rfl ?_
 refine sy_ret ?_
 exact sy_return (vs := [_]) rfl (.cons (RV.tmp rfl) .nil) rfl ⟨_, m', rfl, hm', rfl, rfl⟩ (fun _ h => h)
end Go.Proofs.Ytaldphhdkmchhaa
namespace Go.Proofs.Ytaldphhdkmchhaa
set_option linter.unusedSimpArgs false
set_option linter.unusedVariables false
theorem check_ok {t : Twn} (h : t.ok) (hb : ∀ i, badAt t.rats i = false) : t.check = 0 := by
  obtain ⟨h1, h2, h3, h4, h5, h6, h7, h8, h9, h10⟩ := h
  have e1 : inb t.rats.length 1 4 = true := by simp only [inb, Bool.and_eq_true, decide_eq_true_eq]; omega
  have e2 : ([t.holds, t.need, t.good, t.bad].all fun n => inb n 0 30) = true := by
    simp only [List.all_cons, List.all_nil, Bool.and_true, inb, Bool.and_eq_true, decide_eq_true_eq]; omega
  have e3 : inb t.patience 0 3 = true := by simp only [inb, Bool.and_eq_true, decide_eq_true_eq]; omega
  have e4 : inb t.run 0 3 = true := by simp only [inb, Bool.and_eq_true, decide_eq_true_eq]; omega
  have e5 : inb t.rot 0 5 = true := by simp only [inb, Bool.and_eq_true, decide_eq_true_eq]; omega
  have e6 : (t.rats.all fun q => inb q.sacks 0 30 && inb q.price 0 100) = true := List.all_eq_true.2 fun q hq => by
    have := h8 q hq
    simp only [inb, Bool.and_eq_true, decide_eq_true_eq]; omega
  have e7 : decide (t.good < t.bad) = false := decide_eq_false (by omega)
  have e8 : (List.range t.rats.length).any (badAt t.rats) = false := List.any_eq_false.2 fun i _ => by rw [hb i]; simp
  unfold Twn.check
  rw [e1, e2, e3, e4, e5, h9, e6, e7, e8]; rfl
structure Tle (t t' : Twn) : Prop where
  holds : t'.holds = t.holds
  need : t'.need = t.need
  good : t'.good = t.good
  rot : t'.rot = t.rot
  rats : t'.rats = t.rats
  patience : t.patience ≤ t'.patience
  run : t'.run ≤ t.run
  bad : t.bad ≤ t'.bad
structure Sle (s s' : Sta) : Prop where
  stock : s.stock ≤ s'.stock
  short : s'.short ≤ s.short
  dry : s.dry ≤ s'.dry
theorem left_mono {x x' r : Int} (h : x ≤ x') (h0 : 0 ≤ r) (h1 : r ≤ 5) (hx : 0 ≤ x) : x - (x * r + 9) / 10 ≤ x' - (x' * r + 9) / 10 := by
  obtain ⟨d, rfl⟩ : ∃ d, x' = x + d := ⟨x' - x, by omega⟩
  have a := Int.mul_nonneg hx h0
  have b := Int.mul_nonneg (show 0 ≤ d by omega) h0
  have c := Int.mul_le_mul_of_nonneg_left h1 (show 0 ≤ d by omega)
  rw [Int.add_mul]
  generalize x * r = p at *
  generalize d * r = q at *
  omega
theorem can_mono {t t' : Twn} (h : Tle t t') {s s' : Sta} (hs : Sle s s') {q : Rn} (hc : t.can s q = true) : t'.can s' q = true := by
  have h1 := hs.stock
  have h2 := hs.short
  have h3 := h.patience
  simp only [Twn.can, Bool.and_eq_true, Bool.or_eq_true, decide_eq_true_eq, Bool.not_eq_true', decide_eq_false_iff_not, h.need] at hc ⊢
  omega
theorem next_mono {t t' : Twn} (ht : t.ok) (h : Tle t t') {s s' : Sta} (hs : Sle s s') {q : Rn} (hc : t.can s q = true) (bad : Bool) : Sle (t.next s q bad) (t'.next s' q bad) := by
  have h1 := hs.stock
  have h2 := hs.short
  have h3 := hs.dry
  have h4 := h.bad
  have hq := can_le hc
  have hl := left_mono (x := s.stock - q.sacks) (x' := s'.stock - q.sacks) (r := t.rot) (by omega) ht.rot.1 ht.rot.2 (by omega)
  refine ⟨?_, ?_, ?_⟩
  · unfold Twn.next leftOf
    simp only [h.holds, h.rot, h.good]
    cases bad <;> simp only [cond_true, cond_false] <;> omega
  · unfold Twn.next
    simp only [h.need]
    cases decide (q.sacks < t.need) <;> simp only [cond_true, cond_false] <;> omega
  · unfold Twn.next
    simp only
    cases bad <;> simp only [cond_true, cond_false] <;> omega
theorem srv_mono {t t' : Twn} (ht : t.ok) (ht' : t'.ok) (h : Tle t t') : ∀ (n : Nat) {s s' : Sta}, Srv t n s → Sle s s' → s'.right t' = true → Srv t' n s' := by
  have step : ∀ n : Nat, (∀ {s s' : Sta}, Bf t n s → Sle s s' → s'.right t' = true → Bf t' n s') → ∀ {s s' : Sta}, Srv t n s → Sle s s' → s'.right t' = true → Srv t' n s' := by
    intro n ih s s' hs hle hr
    refine srv_max (X := fun u' => ∃ u, Srv t n u ∧ Sle u u' ∧ u'.right t' = true) ?_ ⟨s, hs, hle, hr⟩
    rintro u' ⟨u, hu, hul, hur⟩
    obtain ⟨h1, q, hq, hc, hg, hb⟩ := srv_clo t n u hu
    have hc' := can_mono h hul hc
    have hq' : q ∈ t'.rats := by rw [h.rats]; exact hq
    refine ⟨hur, q, hq', hc', ⟨_, hg, next_mono ht h hul hc false, next_right ht' hur hq' hc' (by simp)⟩, ?_⟩
    have hd := hul.dry
    have hrn := h.run
    rcases hb with hb | hb | hb
    · exact .inl hb
    · exact .inr (.inl (by omega))
    · by_cases hdr : u'.dry < t'.run
      · exact .inr (.inr (ih hb (next_mono ht h hul hc true) (next_right ht' hur hq' hc' (fun _ => hdr))))
      · exact .inr (.inl hdr)
  intro n
  induction n with
  | zero => exact step 0 (fun _ _ _ => trivial)
  | succ n ih => exact step (n + 1) (fun hb hl hr => ih hb hl hr)
theorem Tle.refl (t : Twn) : Tle t t := ⟨rfl, rfl, rfl, rfl, rfl, Int.le_refl _, Int.le_refl _, Int.le_refl _⟩
theorem Sle.refl (s : Sta) : Sle s s := ⟨Int.le_refl _, Int.le_refl _, Int.le_refl _⟩
structure MadeOk (t : Twn) (hs : Int) : Prop where
  ok : t.check = 0
  holds : 4 ≤ t.holds ∧ t.holds ≤ hs
  patience : t.patience ≤ 2
end Go.Proofs.Ytaldphhdkmchhaa
namespace Go.Proofs.Ytaldphhdkmchhaa
set_option linter.unusedSimpArgs false
set_option linter.unusedVariables false
open Go
theorem cal73 : cal Try.prog 73 = true := by kernel_rfl
theorem badAt_snoc {l : List Rn} {x : Rn} (h : ∀ i, badAt l i = false) (hx : ∀ q ∈ l, x.sacks < q.sacks ∧ q.price < x.price) : ∀ i, badAt (l ++ [x]) i = false := fun i => by
  rcases Nat.lt_trichotomy (i + 1) l.length with h1 | h1 | h1
  · have := h i
    unfold badAt at this ⊢
    rw [List.getElem?_append_left (by omega), List.getElem?_append_left (by omega)]; exact this
  · obtain ⟨q, hq⟩ : ∃ q, l[i]? = some q := ⟨_, List.getElem?_eq_getElem (by omega)⟩
    have h2 := hx q (List.mem_of_getElem? hq)
    unfold badAt
    rw [List.getElem?_append_left (by omega), hq, List.getElem?_append_right (by omega), show i + 1 - l.length = 0 from by omega]
    simp only [List.getElem?_cons_zero]
    rw [decide_eq_false (by omega), decide_eq_false (by omega)]; rfl
  · unfold badAt
    rw [List.getElem?_eq_none (l := l ++ [x]) (i := i + 1) (by simp; omega)]
    split <;> simp_all
structure RatI (l : List Rn) (k : Nat) (sk pr : Int) : Prop where
  len : l.length ≤ k
  one : 0 < k → 1 ≤ l.length
  slo : -3 * k ≤ sk ∧ sk ≤ 7
  phi : 0 ≤ pr ∧ pr ≤ 19 + 9 * k
  q : ∀ q ∈ l, (0 ≤ q.sacks ∧ q.sacks ≤ 7 ∧ 0 ≤ q.price ∧ q.price ≤ 100) ∧ sk < q.sacks ∧ q.price < pr
  bad : ∀ i, badAt l i = false
  zero : k = 0 → 0 ≤ sk
theorem RatI.more {l : List Rn} {k : Nat} {sk pr a b : Int} (h : RatI l k sk pr) (hk : k < 4) (h0 : 0 ≤ sk) (ha : 1 ≤ a ∧ a ≤ 3) (hb : 1 ≤ b ∧ b ≤ 9) : RatI (l ++ [⟨sk, pr⟩]) (k + 1) (sk - a) (pr + b) := by
  have h1 := h.slo
  have h2 := h.phi
  have h3 := h.len
  refine ⟨by simp; omega, fun _ => by simp, by omega, by omega, fun q hq => ?_, badAt_snoc h.bad (fun q hq => (h.q q hq).2), fun h => by omega⟩
  rcases List.mem_append.1 hq with hq | hq
  · have := h.q q hq; omega
  · simp only [List.mem_singleton] at hq; subst hq; simp only; omega
theorem RatI.less {l : List Rn} {k : Nat} {sk pr a b : Int} (h : RatI l k sk pr) (hk : k < 4) (h0 : sk < 0) (ha : 1 ≤ a ∧ a ≤ 3) (hb : 1 ≤ b ∧ b ≤ 9) : RatI l (k + 1) (sk - a) (pr + b) := by
  have h1 := h.slo
  have h2 := h.phi
  have h3 := h.len
  refine ⟨by omega, fun _ => h.one ?_, by omega, by omega, fun q hq => by have := h.q q hq; omega, h.bad, fun h => by omega⟩
  rcases Nat.eq_zero_or_pos k with h4 | h4
  · have := h.zero h4; omega
  · exact h4
theorem c_Made (g : List Int) (ag : Option Addr) (cg bk : Nat) (hgl : g.length ≤ 9223372036854775807) (tq mx : Int) (htq : 0 ≤ tq ∧ tq ≤ 1000000) (hmx : 0 ≤ mx ∧ mx ≤ 4294967295) (hs : Int) (hhs : 4 ≤ hs ∧ hs ≤ 30) (H : Heap) (R : Facts) [hG : MemRows ag 1 (urows g) R] :
    Fn Try.prog 46 [.pointer (some ⟨bk, 0, none⟩), .int .i64 hs] ((bk, cel 168 [.slice ag g.length cg, .int .i64 (tq), .int .u32 (mx)]) :: H) R (fun v H' R' => ∃ (t : Twn) (ba oa ca : Nat) (tq' mx' : Int), MadeOk t hs ∧ v = t.v (t.sl (some ⟨ba, oa, none⟩) ca) ∧ (tq ≤ tq' ∧ tq' ≤ tq + 40) ∧ (0 ≤ mx' ∧ mx' ≤ 4294967295) ∧
      H' = (bk, cel 168 [.slice ag g.length cg, .int .i64 (tq'), .int .u32 (mx')]) :: H ∧ R' = RowsA (some ⟨ba, oa, none⟩) 2 (rrows t.rats) :: R) := by
 refine fn_of Try.func46 rfl Try.ntmps46 rfl ?_
 refine sy_seq ?_
 refine sy_tx' [0] rfl ?_
 refine alc rfl zl26 rfl (fun b4 => ?_)
 refine sy_seq ?_
 refine sy_tx' [0, 1, 2, 3, 4, 5, 6, 7, 8, 9, 10, 11, 12, 13, 14, 15, 16, 17] rfl ?_
 refine sp rfl (PE.move rfl) rfl ?_
 refine sp rfl (PE.move rfl) rfl ?_
 refine sy_pull bk ?_
 refine cl rfl cal73 rfl rfl (c_Among g ag cg bk hgl _ _ (by omega) (by assumption) (4) (hs) (by first | omega | (dsimp only; omega)) _ _) ?_
 rintro _ _ R1 ⟨x10, m10, hx10, rfl, hm10, rfl, hR1⟩
 obtain rfl := hR1.symm
 refine sp rfl (PE.move rfl) rfl ?_
 refine cl rfl cal73 rfl rfl (c_Among g ag cg bk hgl _ _ (by omega) (by assumption) (1) (6) (by first | omega | (dsimp only; omega)) _ _) ?_
 rintro _ _ R1 ⟨x12, m12, hx12, rfl, hm12, rfl, hR1⟩
 obtain rfl := hR1.symm
 refine sp rfl (PE.move rfl) rfl ?_
 refine cl rfl cal48 rfl rfl (c_Below g ag cg bk hgl _ _ (by omega) (by assumption) (3) _ _) ?_
 rintro _ _ R1 ⟨x14, m14, hx14, rfl, hm14, rfl, hR1⟩
 obtain rfl := hR1.symm
 refine sp rfl (PE.move rfl) rfl ?_
 refine cl rfl cal48 rfl rfl (c_Below g ag cg bk hgl _ _ (by omega) (by assumption) (4) _ _) ?_
 rintro _ _ R1 ⟨x16, m16, hx16, rfl, hm16, rfl, hR1⟩
 obtain rfl := hR1.symm
 refine sp rfl (PE.move rfl) rfl ?_
 refine cl rfl cal48 rfl rfl (c_Below g ag cg bk hgl _ _ (by omega) (by assumption) (9) _ _) ?_
 rintro _ _ R1 ⟨x18, m18, hx18, rfl, hm18, rfl, hR1⟩
 obtain rfl := hR1.symm
 refine sp rfl (PE.quo rfl rfl (by omega)) rfl ?_
 refine sp rfl (PE.move rfl) rfl ?_
 refine cl rfl cal48 rfl rfl (c_Below g ag cg bk hgl _ _ (by omega) (by assumption) (3) _ _) ?_
 rintro _ _ R1 ⟨x21, m21, hx21, rfl, hm21, rfl, hR1⟩
 obtain rfl := hR1.symm
 have hm22 := mul_b (a := x18 / 5) (b := x21) (A := 1) (B := 2) (by omega) (by omega) (by omega) (by omega)
 refine sp rfl (PE.mul rfl rfl (by omega)) rfl ?_
 refine sp rfl (PE.build (out := twl ⟨⟨0, 0, 0⟩, x10, x12, x14, x16, 0, 0, x18 / 5 * x21, []⟩ (.slice none 0 0)) pl26 zl26 rfl (by kernel_rfl)) rfl ?_
 refine alc rfl zl26 rfl (fun b5 => ?_)
 refine sto rfl rfl rfl cn26 rfl rfl rfl rfl ?_
 refine sy_seq ?_
 refine sy_tx' [0, 1, 2, 3, 4, 5, 6, 7, 8] rfl ?_
 refine sp rfl (PE.move rfl) rfl ?_
 refine sp rfl (PE.fieldAddr fo26_2 rfl) rfl ?_
 refine spL rfl rfl (lh sc3 rfl rfl) rfl ?_
 refine sp rfl (PE.fieldAddr fo26_2 rfl) rfl ?_
 refine spL rfl rfl (lh sc3 rfl rfl) rfl ?_
 refine sp rfl (PE.add rfl rfl (by first | omega | (dsimp only; omega))) rfl ?_
 refine sy_pull bk ?_
 refine cl rfl cal73 rfl rfl (c_Among g ag cg bk hgl _ _ (by omega) (by assumption) (x12) (x12 + 4) (by first | omega | (dsimp only; omega)) _ _) ?_
 rintro _ _ R1 ⟨x30, m30, hx30, rfl, hm30, rfl, hR1⟩
 obtain rfl := hR1.symm
 refine sp rfl (PE.fieldAddr fo26_5 rfl) rfl ?_
 refine sto rfl rfl rfl cn3 rfl rfl rfl rfl ?_
 refine sy_seq ?_
 refine sy_tx' [0, 1, 2, 3, 4, 5, 6] rfl ?_
 refine sp rfl (PE.move rfl) rfl ?_
 refine sp rfl (PE.fieldAddr fo26_2 rfl) rfl ?_
 refine spL rfl rfl (lh sc3 rfl rfl) rfl ?_
 refine sp rfl (PE.add rfl rfl (by first | omega | (dsimp only; omega))) rfl ?_
 refine cl rfl cal48 rfl rfl (c_Below g ag cg bk hgl _ _ (by omega) (by assumption) (x12 + 1) _ _) ?_
 rintro _ _ R1 ⟨x36, m36, hx36, rfl, hm36, rfl, hR1⟩
 obtain rfl := hR1.symm
 refine sp rfl (PE.fieldAddr fo26_6 rfl) rfl ?_
 refine sto rfl rfl rfl cn3 rfl rfl rfl rfl ?_
 refine sy_seq ?_
 refine sy_draw [0, 1, 0, 4, 12, 31, 0, 76, 255, 511] (.tk 0 (.ld 1 (.tk 2 (.tk 6 (.big 3 (.tk 4 (.tk 5 (.big 7 (.tk 8 (.tk 9 .done)))))))))) mixed (by kernel_rfl) ?_
 refine tk rfl (PE.fieldAddr fo26_2 rfl) rfl ?_
 refine ld rfl rfl (lh sc3 rfl rfl) rfl ?_
 refine tk rfl (PE.move rfl) rfl ?_
 refine tk rfl (PE.move rfl) rfl ?_
 refine cl rfl cal48 rfl rfl (c_Below g ag cg bk hgl _ _ (by omega) (by assumption) (3) _ _) ?_
 rintro _ _ R1 ⟨x41, m41, hx41, rfl, hm41, rfl, hR1⟩
 obtain rfl := hR1.symm
 refine bg (fun w hs => ⟨(lh sc3 rfl rfl) w hs, trivial⟩) ?_
 refine tk rfl (PE.quo rfl rfl (by omega)) rfl ?_
 refine tk rfl (PE.add rfl rfl (by first | omega | (dsimp only; omega))) rfl ?_
 refine cl rfl cal48 rfl rfl (c_Below g ag cg bk hgl _ _ (by omega) (by assumption) (20) _ _) ?_
 rintro _ _ R1 ⟨x45, m45, hx45, rfl, hm45, rfl, hR1⟩
 obtain rfl := hR1.symm
 refine bg (fun w hs => ⟨(lh sc3 rfl rfl) w hs, trivial⟩) ?_
 refine tk rfl (PE.assign rfl) rfl ?_
 refine tk rfl (PE.assign rfl) rfl ?_
 refine sy_seq ?_
 refine sy_seq ?_
 refine sy_tx' [0, 1, 2] rfl ?_
 refine sp rfl (PE.move rfl) rfl ?_
 refine cl rfl cal73 rfl rfl (c_Among g ag cg bk hgl _ _ (by omega) (by assumption) (1) (4) (by first | omega | (dsimp only; omega)) _ _) ?_
 rintro _ _ R1 ⟨x47, m47, hx47, rfl, hm47, rfl, hR1⟩
 obtain rfl := hR1.symm
 refine sp rfl (PE.move rfl) rfl ?_
 refine sy_block ?_
 obtain ⟨n47, rfl⟩ : ∃ n : Nat, x47 = n := ⟨x47.toNat, by omega⟩
 refine sy_loop (ι := (x : {x : Nat × Int × Int × List Rn × Int × Int // x.1 ≤ n47 ∧ RatI x.2.2.2.1 x.1 x.2.1 x.2.2.1 ∧ (tq ≤ x.2.2.2.2.1 ∧ x.2.2.2.2.1 ≤ tq + 20 + 2 * x.1) ∧ (0 ≤ x.2.2.2.2.2 ∧ x.2.2.2.2.2 ≤ 4294967295)}) × OSl 91 2 (rrows x.1.2.2.2.1)) (fun x => ⟨[(0, .pointer (some ⟨bk, 0, none⟩)), (4, .pointer (some ⟨b4, 0, none⟩)), (5, .pointer (some ⟨b5, 0, none⟩)), (6, .int .i64 x.1.1.2.1), (7, .int .i64 x.1.1.2.2.1), (47, .int .i64 n47), (48, .int .i64 x.1.1.1)],
   (bk, cel 168 [.slice ag g.length cg, .int .i64 (x.1.1.2.2.2.2.1), .int .u32 (x.1.1.2.2.2.2.2)]) :: (x.2.G ++ (b5, cel 26 (twl ⟨⟨0, 0, 0⟩, x10, x12, x14, x16, x30, x36, x18 / 5 * x21, x.1.1.2.2.2.1⟩ x.2.fs)) :: (b4, cel 26 [.int .i64 0, .int .i64 0, .int .i64 0, .int .i64 0, .int .i64 0, .int .i64 0, .int .i64 0, .int .i64 0, .int .i64 0, .int .i64 0, .slice none 0 0]) :: H), R⟩) (fun x => n47 - x.1.1.1) ⟨⟨(0, x12 + x41 / 2, x45, [], tq + 1 + 1 + 1 + 1 + 1 + 1 + 1 + 1 + 1 + 1 + 1, m47), by omega, ⟨by simp, by dsimp only; omega, by dsimp only; omega, by dsimp only; omega, by simp, fun i => by simp [badAt], by dsimp only; omega⟩, by dsimp only; omega, by assumption⟩, OSl.nil _ _⟩ ?_ (fun x => ?_)
 exact sy_at (by repeat' first | exact Sub.nil | apply Sub.cons | rfl | (simp [lk]; omega)) (fun _ h => h)
 obtain ⟨⟨⟨k, sk, pr, l, tq2, mx2⟩, hk, hri, htq2, hmx2⟩, o'⟩ := x
 dsimp only at hk hri htq2 hmx2 o' ⊢
 have h1 := hri.slo
 have h2 := hri.phi
 have h3 := hri.len
 refine sy_seq ?_
 refine sy_tx' [0] rfl ?_
 refine sp rfl (PE.lss rfl rfl) rfl ?_
 refine sy_seq ?_
 refine sy_cond rfl (fun hc0 => ?_) (fun hc0 => ?_)
 try simp only [decide_eq_true_eq, decide_eq_false_iff_not, Bool.and_eq_true, Bool.or_eq_true, Bool.not_eq_true', Int.not_le, Int.not_lt] at hc0
 refine sy_skip ?_
 refine sy_seq ?_
 refine sy_block ?_
 refine sy_seq ?_
 refine sy_seq ?_
 refine sy_tx' [0, 1] rfl ?_
 refine sp rfl (PE.move rfl) rfl ?_
 refine sp rfl (PE.geq rfl rfl) rfl ?_
 refine sy_cond rfl (fun hc1 => ?_) (fun hc1 => ?_)
 try simp only [decide_eq_true_eq, decide_eq_false_iff_not, Bool.and_eq_true, Bool.or_eq_true, Bool.not_eq_true', Int.not_le, Int.not_lt] at hc1
 refine sy_tx' [0, 1, 2, 3, 4, 5, 6, 7, 8] rfl ?_
 refine sp rfl (PE.fieldAddr fo26_8 rfl) rfl ?_
 refine spL rfl rfl (lh sc24 rfl rfl) rfl ?_
 refine sp rfl (PE.move rfl) rfl ?_
 refine sp rfl (PE.move rfl) rfl ?_
 refine sp rfl (PE.build (out := [_, _]) pl91 zl91 rfl rfl) rfl ?_
 refine bsl (out := [_, _]) rfl sl24 zl91 rfl rfl rfl rfl rfl rfl (fun b57 => ?_)
 refine apO (o') rfl ap24 rfl rfl (rowsH (row := rrow ⟨sk, pr⟩) rfl) rfl rfl ((by simp only [rrows, List.length_map, List.length_singleton]; omega)) rfl (fun o58 => ?_)
 refine sp rfl (PE.fieldAddr fo26_8 rfl) rfl ?_
 refine stoE (l' := twl ⟨⟨0, 0, 0⟩, x10, x12, x14, x16, x30, x36, x18 / 5 * x21, (l ++ [⟨sk, pr⟩])⟩ o58.fs) rfl rfl rfl cn24 rfl (by rw [o58.cells.1]; first | done | rfl) (by rw [o58.cells.1]; simp [o58.cells.2]) (by rw [o58.cells.1]; first | done | rfl) (by rw [o58.cells.1]; first | done | exact Nat.le_refl _) ?_
 refine sy_tx' [0, 1, 2, 3, 4, 5, 6, 7, 8, 9] rfl ?_
 refine sp rfl (PE.move rfl) rfl ?_
 refine sp rfl (PE.move rfl) rfl ?_
 refine sy_pull bk ?_
 refine cl rfl cal73 rfl rfl (c_Among g ag cg bk hgl _ _ (by omega) (by assumption) (1) (3) (by first | omega | (dsimp only; omega)) _ _) ?_
 rintro _ _ R1 ⟨x62, m62, hx62, rfl, hm62, rfl, hR1⟩
 obtain rfl := hR1.symm
 refine sp rfl (PE.sub rfl rfl (by omega)) rfl ?_
 refine sp rfl (PE.move rfl) rfl ?_
 refine sp rfl (PE.move rfl) rfl ?_
 refine cl rfl cal73 rfl rfl (c_Among g ag cg bk hgl _ _ (by omega) (by assumption) (1) (9) (by first | omega | (dsimp only; omega)) _ _) ?_
 rintro _ _ R1 ⟨x66, m66, hx66, rfl, hm66, rfl, hR1⟩
 obtain rfl := hR1.symm
 refine sp rfl (PE.add rfl rfl (by omega)) rfl ?_
 refine sp rfl (PE.assign rfl) rfl ?_
 refine sp rfl (PE.assign rfl) rfl ?_
 refine sy_tx' [0, 1] rfl ?_
 refine sp rfl (PE.add rfl rfl (by omega)) rfl ?_
 refine sp rfl (PE.move rfl) rfl ?_
 first
   | exact sy_next ⟨⟨(k + 1, sk - x62, pr + x66, l ++ [⟨sk, pr⟩], tq2 + 1 + 1, m66), by omega, hri.more (a := x62) (b := x66) (by omega) (by omega) (by omega) (by omega), by dsimp only; omega, by assumption⟩, o58.cast (by simp [rrows])⟩ (by dsimp only; omega) (by repeat' first | exact Sub.nil | apply Sub.cons | rfl | (simp [lk]; omega)) (fun w h => (h.del b57).perm (by first | exact .refl _ | exact List.Perm.cons _ (.refl _)))
   | exact sy_next ⟨⟨(k + 1, sk - x62, pr + x66, l, tq2 + 1 + 1, m66), by omega, hri.less (a := x62) (b := x66) (by omega) (by omega) (by omega) (by omega), by dsimp only; omega, by assumption⟩, o'⟩ (by dsimp only; omega) (by repeat' first | exact Sub.nil | apply Sub.cons | rfl | (simp [lk]; omega)) (fun _ h => h)
 try simp only [decide_eq_true_eq, decide_eq_false_iff_not, Bool.and_eq_true, Bool.or_eq_true, Bool.not_eq_true', Int.not_le, Int.not_lt] at hc1
 refine sy_skip ?_
 refine sy_tx' [0, 1, 2, 3, 4, 5, 6, 7, 8, 9] rfl ?_
 refine sp rfl (PE.move rfl) rfl ?_
 refine sp rfl (PE.move rfl) rfl ?_
 refine sy_pull bk ?_
 refine cl rfl cal73 rfl rfl (c_Among g ag cg bk hgl _ _ (by omega) (by assumption) (1) (3) (by first | omega | (dsimp only; omega)) _ _) ?_
 rintro _ _ R1 ⟨x62, m62, hx62, rfl, hm62, rfl, hR1⟩
 obtain rfl := hR1.symm
 refine sp rfl (PE.sub rfl rfl (by omega)) rfl ?_
 refine sp rfl (PE.move rfl) rfl ?_
 refine sp rfl (PE.move rfl) rfl ?_
 refine cl rfl cal73 rfl rfl (c_Among g ag cg bk hgl _ _ (by omega) (by assumption) (1) (9) (by first | omega | (dsimp only; omega)) _ _) ?_
 rintro _ _ R1 ⟨x66, m66, hx66, rfl, hm66, rfl, hR1⟩
 obtain rfl := hR1.symm
 refine sp rfl (PE.add rfl rfl (by omega)) rfl ?_
 refine sp rfl (PE.assign rfl) rfl ?_
 refine sp rfl (PE.assign rfl) rfl ?_
 refine sy_tx' [0, 1] rfl ?_
 refine sp rfl (PE.add rfl rfl (by omega)) rfl ?_
 refine sp rfl (PE.move rfl) rfl ?_
 first
   | exact sy_next ⟨⟨(k + 1, sk - x62, pr + x66, l ++ [⟨sk, pr⟩], tq2 + 1 + 1, m66), by omega, hri.more (a := x62) (b := x66) (by omega) (by omega) (by omega) (by omega), by dsimp only; omega, by assumption⟩, o58.cast (by simp [rrows])⟩ (by dsimp only; omega) (by repeat' first | exact Sub.nil | apply Sub.cons | rfl | (simp [lk]; omega)) (fun w h => (h.del b57).perm (by first | exact .refl _ | exact List.Perm.cons _ (.refl _)))
   | exact sy_next ⟨⟨(k + 1, sk - x62, pr + x66, l, tq2 + 1 + 1, m66), by omega, hri.less (a := x62) (b := x66) (by omega) (by omega) (by omega) (by omega), by dsimp only; omega, by assumption⟩, o'⟩ (by dsimp only; omega) (by repeat' first | exact Sub.nil | apply Sub.cons | rfl | (simp [lk]; omega)) (fun _ h => h)
 try simp only [decide_eq_true_eq, decide_eq_false_iff_not, Bool.and_eq_true, Bool.or_eq_true, Bool.not_eq_true', Int.not_le, Int.not_lt] at hc0
 obtain rfl : k = n47 := by omega
 obtain ⟨a', c', he, hf⟩ := o'.freeze
 rw [he]
 refine sy_pull bk ?_
 refine Sy.heap (H' := _) (fun w h => hf (h.perm (List.perm_middle (l₁ := o'.G) (a := _)).symm)) ?_
 rw [show (rrows l).length = l.length from List.length_map _]
 refine sy_addr (a := a') (sz := 2) (rows := rrows l) (by have := hri.one (by omega); intro h0; simp [rrows] at h0; simp [h0] at this) (fun ba oa hea => ?_)
 subst hea
 refine sy_exit ?_
 repeat refine sy_tx ?_
 refine sy_bx ?_
 refine sy_seq ?_
 refine sy_draw [0, 0, 2, 6, 15, 0, 0, 64, 192, 511, 0, 2047, 4095, 0, 0, 16384, 49152, 126975, 0, 520191, 1044479, 2097151, 4194303, 8388607] (.tk 0 (.tk 1 (.ld 2 (.tk 3 (.tk 5 (.tk 6 (.ld 7 (.tk 8 (.tk 10 (.tk 13 (.tk 14 (.ld 15 (.tk 16 (.tk 18 (.big 4 (.big 9 (.big 11 (.tk 12 (.big 17 (.big 19 (.tk 20 (.tk 21 (.tk 22 (.big 23 .done)))))))))))))))))))))))) mixed (by kernel_rfl) ?_
 refine tk rfl (PE.move rfl) rfl ?_
 refine tk rfl (PE.fieldAddr fo26_1 rfl) rfl ?_
 refine ld rfl rfl (lh sc3 rfl rfl) rfl ?_
 refine tk rfl (PE.add rfl rfl (by first | omega | (dsimp only; omega))) rfl ?_
 refine tk rfl (PE.move rfl) rfl ?_
 refine tk rfl (PE.fieldAddr fo26_3 rfl) rfl ?_
 refine ld rfl rfl (lh sc3 rfl rfl) rfl ?_
 refine tk rfl (PE.add rfl rfl (by first | omega | (dsimp only; omega))) rfl ?_
 refine tk rfl (PE.move rfl) rfl ?_
 refine tk rfl (PE.move rfl) rfl ?_
 refine tk rfl (PE.fieldAddr fo26_4 rfl) rfl ?_
 refine ld rfl rfl (lh sc3 rfl rfl) rfl ?_
 refine tk rfl (PE.add rfl rfl (by first | omega | (dsimp only; omega))) rfl ?_
 refine tk rfl (PE.move rfl) rfl ?_
 refine cl rfl cal48 rfl rfl (c_Below g ag cg bk hgl _ _ (by omega) (by assumption) (x10 + 1) _ _) ?_
 rintro _ _ R1 ⟨x73, m73, hx73, rfl, hm73, rfl, hR1⟩
 obtain rfl := hR1.symm
 refine bg (fun w hs => ⟨(lh sc3 rfl rfl) w hs, (lh sc3 rfl rfl) w hs, trivial, trivial⟩) ?_
 refine cl rfl cal48 rfl rfl (c_Below g ag cg bk hgl _ _ (by omega) (by assumption) (x14 + 1) _ _) ?_
 rintro _ _ R1 ⟨x78, m78, hx78, rfl, hm78, rfl, hR1⟩
 obtain rfl := hR1.symm
 refine bg (fun w hs => ⟨(lh sc3 rfl rfl) w hs, trivial, trivial⟩) ?_
 refine cl rfl cal48 rfl rfl (c_Below g ag cg bk hgl _ _ (by omega) (by assumption) (2) _ _) ?_
 rintro _ _ R1 ⟨x80, m80, hx80, rfl, hm80, rfl, hR1⟩
 obtain rfl := hR1.symm
 have hm81 := mul_b (a := x78) (b := x80) (A := x14) (B := 1) (by omega) (by omega) (by omega) (by omega)
 refine bg (fun w hs => ⟨(lh sc3 rfl rfl) w hs, trivial⟩) ?_
 refine tk rfl (PE.mul rfl rfl (by omega)) rfl ?_
 refine cl rfl cal48 rfl rfl (c_Below g ag cg bk hgl _ _ (by omega) (by assumption) (x16 + 1) _ _) ?_
 rintro _ _ R1 ⟨x86, m86, hx86, rfl, hm86, rfl, hR1⟩
 obtain rfl := hR1.symm
 refine bg (fun w hs => ⟨trivial, trivial⟩) ?_
 refine cl rfl cal48 rfl rfl (c_Below g ag cg bk hgl _ _ (by omega) (by assumption) (2) _ _) ?_
 rintro _ _ R1 ⟨x88, m88, hx88, rfl, hm88, rfl, hR1⟩
 obtain rfl := hR1.symm
 have hm89 := mul_b (a := x86) (b := x88) (A := x16) (B := 1) (by omega) (by omega) (by omega) (by omega)
 refine bg (fun w hs => trivial) ?_
 refine tk rfl (PE.mul rfl rfl (by omega)) rfl ?_
 refine tk rfl (PE.build (out := [_, _, _]) pl23 zl23 rfl rfl) rfl ?_
 refine tk rfl (PE.fieldAddr fo26_0 rfl) rfl ?_
 refine sto rfl rfl rfl cn23 rfl rfl rfl rfl ?_
 refine bg (fun w hs => trivial) ?_
 refine sy_seq ?_
 refine sy_tx' [0, 1] rfl ?_
 refine spL rfl rfl (lhA [_, _, _, _, _, _, _, _, _, _, _] ag26 rfl rfl rfl) rfl ?_
 refine sto rfl rfl rfl cn26 rfl rfl rfl rfl ?_
 refine sy_ret ?_
 have hok : Twn.ok ⟨⟨x73, x78 * x80, x86 * x88⟩, x10, x12, x14, x16, x30, x36, x18 / 5 * x21, l⟩ := ⟨by simp only; omega, by simp only; omega, by simp only; omega, by simp only; omega, by simp only; omega, by simp only; omega, by simp only; omega, fun q hq => by have := hri.q q hq; omega, right_iff.2 ⟨by simp only; omega, by simp only; omega, by simp only; omega⟩, ⟨hri.one (by omega), by simp only; omega⟩⟩
 exact sy_return (vs := [_]) rfl (.cons (RV.cell rfl (lhA [_, _, _, _, _, _, _, _, _, _, _] ag26 rfl rfl rfl)) .nil) rfl ⟨⟨⟨x73, x78 * x80, x86 * x88⟩, x10, x12, x14, x16, x30, x36, x18 / 5 * x21, l⟩, ba, oa, c', _, _, ⟨check_ok hok hri.bad, by simp only; omega, by simp only; omega⟩, rfl, ⟨by omega, by omega⟩, by assumption, rfl, rfl⟩ (fun w h => ((h.del b5).del b4))
end Go.Proofs.Ytaldphhdkmchhaa
namespace Go.Proofs.Ytaldphhdkmchhaa
set_option linter.unusedSimpArgs false
set_option linter.unusedVariables false
open Go
theorem cal46 : cal Try.prog 46 = true := by kernel_rfl
theorem cal47 : cal Try.prog 47 = true := by kernel_rfl
theorem year_yes {t : Twn} (h0 : t.check = 0) {k : Nat} {q : Rn} (hq : t.rats[k]? = some q) (hc : t.can t.now q = true) {bad : Bool} (hb : (bad && decide (t.run ≤ t.now.dry)) = false) : yearP t k bad = ({ t with now := t.next t.now q bad }, 0) ∧ ({ t with now := t.next t.now q bad } : Twn).check = 0 := by
  obtain ⟨hok, hba⟩ := ok_of_check h0
  have hr : t.rat k = some q := rat_iff.2 ⟨by omega, by simpa using hq⟩
  have hb2 : (bad && !(decide (t.now.dry < t.run))) = false := by
    have e3 : decide (t.run ≤ t.now.dry) = !(decide (t.now.dry < t.run)) := by rw [← decide_not]; exact decide_eq_decide.2 (by omega)
    rw [← hb, e3]
  have e := nxt_ok hr hc hb2
  refine ⟨by simp [yearP, h0, e], check_ok ?_ hba⟩
  exact { hok with now := next_right hok hok.now (List.mem_of_getElem? hq) hc (fun h => by subst h; simpa using hb) }
theorem c_lallow (t : Twn) (s : Sta) (r : Int) (q : Rn) (ba oa ca : Nat) (h0 : 0 ≤ r) (hq : t.rats[r.toNat]? = some q) (H : Heap) (R : Facts) [hR : MemRows (some ⟨ba, oa, none⟩) 2 (rrows t.rats) R] :
    FnV Try.prog 54 [t.v (t.sl (some ⟨ba, oa, none⟩) ca), s.v, .int .i64 r] H R (.bool (t.can s q)) := by
 have hr := nthq h0 hq
 refine fn_of Try.func54 rfl Try.ntmps54 rfl ?_
 refine sy_seq ?_
 refine sy_tx' [0, 1, 2] rfl ?_
 refine bx rfl rfl rfl (fun b3 => ?_)
 refine bx rfl rfl rfl (fun b4 => ?_)
 refine sp rfl (PE.assign rfl) rfl ?_
 refine sy_seq ?_
 refine sy_seq ?_
 refine sy_draw [0, 1, 3, 7, 7, 23, 55, 127, 255, 511, 1023, 2047, 1023, 8191, 16383, 32767, 1023, 66559, 262143, 524287] (.tk 0 (.tk 1 (.tk 2 (.tk 3 (.tk 4 (.ld 5 (.tk 6 (.tk 7 (.tk 8 (.tk 9 (.tk 10 (.ld 11 (.tk 12 (.tk 13 (.tk 14 (.ld 15 (.tk 16 (.ld 17 (.tk 18 (.tk 19 .done)))))))))))))))))))) mixed (by kernel_rfl) ?_
 refine tk rfl (PE.move rfl) rfl ?_
 refine tk rfl (PE.lss rfl rfl) rfl ?_
 refine tk rfl (PE.move rfl) rfl ?_
 refine sy_case (t := 9) rfl (fun g9 => ?_) (fun g9 => ?_)
 exact absurd g9 (by first | (simp; omega) | omega)
 refine tkG rfl rfl rfl rfl (PE.move rfl) rfl ?_
 refine tkG rfl rfl rfl rfl (PE.fieldAddr fo26_8 rfl) rfl ?_
 refine ldG rfl rfl rfl rfl rfl (lh sc24 rfl rfl) rfl ?_
 refine tkG rfl rfl rfl rfl (PE.lenSl isl24 rfl) rfl ?_
 refine tkG rfl rfl rfl rfl (PE.geq rfl rfl) rfl ?_
 refine tk rfl (PE.pick rfl rfl rfl) rfl ?_
 refine tk rfl (PE.move rfl) rfl ?_
 refine sy_case (t := 16) rfl (fun g16 => ?_) (fun g16 => ?_)
 exact absurd g16 (by first | (simp; omega) | omega)
 refine tkG rfl rfl rfl rfl (PE.fieldAddr fo26_8 rfl) rfl ?_
 refine ldG rfl rfl rfl rfl rfl (lh sc24 rfl rfl) rfl ?_
 refine tkG rfl rfl rfl rfl (PE.move rfl) rfl ?_
 refine tkG rfl rfl rfl rfl (PE.indexAddr el24 rfl rfl (by omega) (by omega)) rfl ?_
 refine tkG rfl rfl rfl rfl (PE.fieldAddr fo91_0 rfl) rfl ?_
 refine ldG rfl rfl rfl rfl rfl (lf sc3 (rr_get hq) rfl) rfl ?_
 refine tkG rfl rfl rfl rfl (PE.fieldAddr fo23_0 rfl) rfl ?_
 refine ldG rfl rfl rfl rfl rfl (lh sc3 rfl rfl) rfl ?_
 refine tkG rfl rfl rfl rfl (PE.gtr rfl rfl) rfl ?_
 refine tk rfl (PE.pick rfl rfl rfl) rfl ?_
 refine sy_cond rfl (fun hc0 => ?_) (fun hc0 => ?_)
 simp only [decide_eq_true_eq, decide_eq_false_iff_not, Bool.and_eq_true, Bool.or_eq_true, Bool.not_eq_true', Int.not_le, Int.not_lt] at hc0
 refine sy_seq ?_
 refine sy_tx' [0] rfl ?_
 refine sp rfl (PE.assign rfl) rfl ?_
 refine sy_ret ?_
 exact sy_return (vs := [_]) rfl (.cons (RV.tmp rfl) .nil) rfl ⟨by simp_all [retV, Twn.can] <;> omega, rfl, rfl⟩ drp
 simp only [decide_eq_true_eq, decide_eq_false_iff_not, Bool.and_eq_true, Bool.or_eq_true, Bool.not_eq_true', Int.not_le, Int.not_lt] at hc0
 refine sy_skip ?_
 refine sy_seq ?_
 refine sy_draw [0, 1, 0, 7, 15, 31, 0, 64, 255, 511, 1023, 2047, 1023, 5119, 16383, 32767, 65535] (.tk 0 (.ld 1 (.tk 2 (.tk 3 (.tk 4 (.ld 5 (.tk 6 (.ld 7 (.tk 8 (.tk 9 (.tk 10 (.ld 11 (.tk 12 (.ld 13 (.tk 14 (.tk 15 (.tk 16 .done))))))))))))))))) mixed (by kernel_rfl) ?_
 refine tk rfl (PE.fieldAddr fo26_8 rfl) rfl ?_
 refine ld rfl rfl (lh sc24 rfl rfl) rfl ?_
 refine tk rfl (PE.move rfl) rfl ?_
 refine tk rfl (PE.indexAddr el24 rfl rfl (by omega) (by omega)) rfl ?_
 refine tk rfl (PE.fieldAddr fo91_0 rfl) rfl ?_
 refine ld rfl rfl (lf sc3 (rr_get hq) rfl) rfl ?_
 refine tk rfl (PE.fieldAddr fo26_2 rfl) rfl ?_
 refine ld rfl rfl (lh sc3 rfl rfl) rfl ?_
 refine tk rfl (PE.geq rfl rfl) rfl ?_
 refine tk rfl (PE.move rfl) rfl ?_
 refine sy_case (t := 36) rfl (fun g36 => ?_) (fun g36 => ?_)
 simp only [decide_eq_true_eq, decide_eq_false_iff_not, Bool.and_eq_true, Bool.or_eq_true, Bool.not_eq_true', Int.not_le, Int.not_lt] at g36
 refine tkN rfl rfl rfl rfl rfl rfl rfl rfl ?_
 refine ldN rfl rfl rfl rfl rfl rfl rfl rfl ?_
 refine tkN rfl rfl rfl rfl rfl rfl rfl rfl ?_
 refine ldN rfl rfl rfl rfl rfl rfl rfl rfl ?_
 refine tkN rfl rfl rfl rfl rfl rfl rfl rfl ?_
 refine tk rfl (PE.pick rfl rfl rfl) rfl ?_
 refine tk rfl (PE.assign rfl) rfl ?_
 refine sy_ret ?_
 exact sy_return (vs := [_]) rfl (.cons (RV.tmp rfl) .nil) rfl ⟨by simp_all [retV, Twn.can] <;> omega, rfl, rfl⟩ drp
 simp only [decide_eq_true_eq, decide_eq_false_iff_not, Bool.and_eq_true, Bool.or_eq_true, Bool.not_eq_true', Int.not_le, Int.not_lt] at g36
 refine tkG rfl rfl rfl rfl (PE.fieldAddr fo23_1 rfl) rfl ?_
 refine ldG rfl rfl rfl rfl rfl (lh sc3 rfl rfl) rfl ?_
 refine tkG rfl rfl rfl rfl (PE.fieldAddr fo26_3 rfl) rfl ?_
 refine ldG rfl rfl rfl rfl rfl (lh sc3 rfl rfl) rfl ?_
 refine tkG rfl rfl rfl rfl (PE.lss rfl rfl) rfl ?_
 refine tk rfl (PE.pick rfl rfl rfl) rfl ?_
 refine tk rfl (PE.assign rfl) rfl ?_
 refine sy_ret ?_
 exact sy_return (vs := [_]) rfl (.cons (RV.tmp rfl) .nil) rfl ⟨by simp_all [retV, Twn.can] <;> omega, rfl, rfl⟩ drp
theorem c_after (t : Twn) (ht : t.ok) (s : Sta) (hs : s.right t = true) (r : Int) (q : Rn) (bad : Bool) (ba oa ca : Nat) (h0 : 0 ≤ r) (hq : t.rats[r.toNat]? = some q) (hc : q.sacks ≤ s.stock) (H : Heap) (R : Facts) [hR : MemRows (some ⟨ba, oa, none⟩) 2 (rrows t.rats) R] :
    FnV Try.prog 56 [t.v (t.sl (some ⟨ba, oa, none⟩) ca), s.v, .int .i64 r, .bool bad] H R (t.next s q bad).v := by
 have hr := nthq h0 hq
 have hq1 := ht.rats q (List.mem_of_getElem? hq)
 have hs1 := right_iff.1 hs
 have h1 := ht.holds
 have h2 := ht.good
 have h3 := ht.bad
 have h4 := ht.run
 have h5 := ht.patience
 have h6 := rot_bd (x := s.stock - q.sacks) (r := t.rot) (by omega) (by omega) ht.rot.1 ht.rot.2
 refine fn_of Try.func56 rfl Try.ntmps56 rfl ?_
 refine sy_seq ?_
 refine sy_tx' [0, 1, 2] rfl ?_
 refine bx rfl rfl rfl (fun b4 => ?_)
 refine bx rfl rfl rfl (fun b5 => ?_)
 refine alc rfl zl23 rfl (fun b8 => ?_)
 refine sy_seq ?_
 refine sy_draw [0, 1, 0, 4, 0, 28, 60, 124, 255, 511] (.tk 0 (.ld 1 (.tk 2 (.ld 3 (.tk 4 (.tk 5 (.tk 6 (.ld 7 (.tk 8 (.tk 9 .done)))))))))) mixed (by kernel_rfl) ?_
 refine tk rfl (PE.fieldAddr fo23_0 rfl) rfl ?_
 refine ld rfl rfl (lh sc3 rfl rfl) rfl ?_
 refine tk rfl (PE.fieldAddr fo26_8 rfl) rfl ?_
 refine ld rfl rfl (lh sc24 rfl rfl) rfl ?_
 refine tk rfl (PE.move rfl) rfl ?_
 refine tk rfl (PE.indexAddr el24 rfl rfl (by omega) (by omega)) rfl ?_
 refine tk rfl (PE.fieldAddr fo91_0 rfl) rfl ?_
 refine ld rfl rfl (lf sc3 (rr_get hq) rfl) rfl ?_
 refine tk rfl (PE.sub rfl rfl (by omega)) rfl ?_
 refine tk rfl (PE.assign rfl) rfl ?_
 refine sy_seq ?_
 refine sy_tx' [0, 1, 2, 3, 4, 5, 6, 7] rfl ?_
 refine sp rfl (PE.move rfl) rfl ?_
 refine sp rfl (PE.move rfl) rfl ?_
 refine sp rfl (PE.fieldAddr fo26_7 rfl) rfl ?_
 refine spL rfl rfl (lh sc3 rfl rfl) rfl ?_
 refine sp rfl (PE.mul rfl rfl (by omega)) rfl ?_
 refine sp rfl (PE.quo rfl rfl (by omega)) rfl ?_
 refine sp rfl (PE.sub rfl rfl (by omega)) rfl ?_
 refine sp rfl (PE.assign rfl) rfl ?_
 refine sy_seq ?_
 refine sy_seq ?_
 refine sy_draw [0, 1, 0, 4, 0, 28, 60, 124, 255, 0, 512, 2047, 4095, 8191] (.tk 0 (.ld 1 (.tk 2 (.ld 3 (.tk 4 (.tk 5 (.tk 6 (.ld 7 (.tk 8 (.tk 9 (.ld 10 (.tk 11 (.tk 12 (.tk 13 .done)))))))))))))) mixed (by kernel_rfl) ?_
 refine tk rfl (PE.fieldAddr fo23_0 rfl) rfl ?_
 refine ld rfl rfl (lh sc3 rfl rfl) rfl ?_
 refine tk rfl (PE.fieldAddr fo26_8 rfl) rfl ?_
 refine ld rfl rfl (lh sc24 rfl rfl) rfl ?_
 refine tk rfl (PE.move rfl) rfl ?_
 refine tk rfl (PE.indexAddr el24 rfl rfl (by omega) (by omega)) rfl ?_
 refine tk rfl (PE.fieldAddr fo91_0 rfl) rfl ?_
 refine ld rfl rfl (lf sc3 (rr_get hq) rfl) rfl ?_
 refine tk rfl (PE.sub rfl rfl (by omega)) rfl ?_
 refine tk rfl (PE.fieldAddr fo26_7 rfl) rfl ?_
 refine ld rfl rfl (lh sc3 rfl rfl) rfl ?_
 refine tk rfl (PE.mul rfl rfl (by omega)) rfl ?_
 refine tk rfl (PE.rem rfl rfl (by omega)) rfl ?_
 refine tk rfl (PE.gtr rfl rfl) rfl ?_
 refine sy_cond rfl (fun hc0 => ?_) (fun hc0 => ?_)
 simp only [decide_eq_true_eq, decide_eq_false_iff_not, Bool.and_eq_true, Bool.or_eq_true, Bool.not_eq_true', Int.not_le, Int.not_lt] at hc0
 have hl : s.stock - q.sacks - (s.stock - q.sacks) * t.rot / 10 - 1 = leftOf t s q := by unfold leftOf; omega
 refine sy_tx' [0, 1, 2] rfl ?_
 refine sp rfl (PE.move rfl) rfl ?_
 refine sp rfl (PE.sub rfl rfl (by omega)) rfl ?_
 refine sp rfl (PE.assign rfl) rfl ?_
 refine sy_seq ?_
 refine sy_tx' [0, 1, 2] rfl ?_
 rw [hl]
 have hlb : 0 ≤ leftOf t s q ∧ leftOf t s q ≤ 30 := by rw [← hl]; omega
 refine sp rfl (PE.build (out := [_, _, _]) pl23 zl23 rfl rfl) rfl ?_
 refine alc rfl zl23 rfl (fun b10 => ?_)
 refine sto rfl rfl rfl cn23 rfl rfl rfl rfl ?_
 refine sy_seq ?_
 refine sy_seq ?_
 refine sy_tx' [0, 1, 2, 3, 4, 5, 6, 7, 8] rfl ?_
 refine sp rfl (PE.fieldAddr fo26_1 rfl) rfl ?_
 refine spL rfl rfl (lh sc3 rfl rfl) rfl ?_
 refine sp rfl (PE.move rfl) rfl ?_
 refine sp rfl (PE.fieldAddr fo26_5 rfl) rfl ?_
 refine spL rfl rfl (lh sc3 rfl rfl) rfl ?_
 refine sp rfl (PE.add rfl rfl (by omega)) rfl ?_
 refine sp rfl (PE.min rfl rfl) rfl ?_
 refine sp rfl (PE.fieldAddr fo23_0 rfl) rfl ?_
 refine sto rfl rfl rfl cn3 rfl rfl rfl rfl ?_
 refine sy_seq ?_
 refine sy_tx' [0] rfl ?_
 refine sp rfl (PE.move rfl) rfl ?_
 refine sy_cond rfl (fun hc1 => ?_) (fun hc1 => ?_)
 subst hc1
 refine sy_draw [0, 1, 0, 0, 8, 28, 63, 0, 128, 384, 127, 1151, 4095, 8191] (.tk 0 (.ld 1 (.tk 2 (.tk 3 (.ld 4 (.tk 5 (.tk 6 (.tk 7 (.ld 8 (.tk 9 (.tk 10 (.big 11 (.tk 12 (.big 13 .done)))))))))))))) mixed (by kernel_rfl) ?_
 refine tk rfl (PE.fieldAddr fo26_1 rfl) rfl ?_
 refine ld rfl rfl (lh sc3 rfl rfl) rfl ?_
 refine tk rfl (PE.move rfl) rfl ?_
 refine tk rfl (PE.fieldAddr fo26_6 rfl) rfl ?_
 refine ld rfl rfl (lh sc3 rfl rfl) rfl ?_
 refine tk rfl (PE.add rfl rfl (by omega)) rfl ?_
 refine tk rfl (PE.min rfl rfl) rfl ?_
 refine tk rfl (PE.fieldAddr fo23_2 rfl) rfl ?_
 refine ld rfl rfl (lh sc3 rfl rfl) rfl ?_
 refine tk rfl (PE.add rfl rfl (by omega)) rfl ?_
 refine tk rfl (PE.fieldAddr fo23_0 rfl) rfl ?_
 refine sto rfl rfl rfl cn3 rfl rfl rfl rfl ?_
 refine bg (fun w hs => ⟨(lh sc3 rfl rfl) w hs, trivial, trivial, trivial⟩) ?_
 refine tk rfl (PE.fieldAddr fo23_2 rfl) rfl ?_
 refine sto rfl rfl rfl cn3 rfl rfl rfl rfl ?_
 refine bg (fun w hs => ⟨trivial, trivial⟩) ?_
 refine sy_seq ?_
 refine sy_seq ?_
 refine sy_draw [0, 1, 0, 7, 15, 31, 0, 64, 255] (.tk 0 (.ld 1 (.tk 2 (.tk 3 (.tk 4 (.ld 5 (.tk 6 (.ld 7 (.tk 8 .done))))))))) mixed (by kernel_rfl) ?_
 refine tk rfl (PE.fieldAddr fo26_8 rfl) rfl ?_
 refine ld rfl rfl (lh sc24 rfl rfl) rfl ?_
 refine tk rfl (PE.move rfl) rfl ?_
 refine tk rfl (PE.indexAddr el24 rfl rfl (by omega) (by omega)) rfl ?_
 refine tk rfl (PE.fieldAddr fo91_0 rfl) rfl ?_
 refine ld rfl rfl (lf sc3 (rr_get hq) rfl) rfl ?_
 refine tk rfl (PE.fieldAddr fo26_2 rfl) rfl ?_
 refine ld rfl rfl (lh sc3 rfl rfl) rfl ?_
 refine tk rfl (PE.lss rfl rfl) rfl ?_
 refine sy_cond rfl (fun hc2 => ?_) (fun hc2 => ?_)
 refine sy_tx' [0, 1, 2, 3, 4] rfl ?_
 refine sp rfl (PE.fieldAddr fo23_1 rfl) rfl ?_
 refine spL rfl rfl (lh sc3 rfl rfl) rfl ?_
 refine sp rfl (PE.add rfl rfl (by omega)) rfl ?_
 refine sp rfl (PE.fieldAddr fo23_1 rfl) rfl ?_
 refine sto rfl rfl rfl cn3 rfl rfl rfl rfl ?_
 refine sy_seq ?_
 refine sy_tx' [0, 1] rfl ?_
 refine spL rfl rfl (lhA [_, _, _] ag23 rfl rfl rfl) rfl ?_
 refine sto rfl rfl rfl cn23 rfl rfl rfl rfl ?_
 refine sy_ret ?_
 exact sy_return (vs := [_]) rfl (.cons (RV.cell rfl (lhA [_, _, _] ag23 rfl rfl rfl)) .nil) rfl ⟨by simp only [retV, Twn.next, hc2, cond_true, cond_false], rfl, rfl⟩ drp
 refine sy_skip ?_
 refine sy_seq ?_
 refine sy_tx' [0, 1] rfl ?_
 refine spL rfl rfl (lhA [_, _, _] ag23 rfl rfl rfl) rfl ?_
 refine sto rfl rfl rfl cn23 rfl rfl rfl rfl ?_
 refine sy_ret ?_
 exact sy_return (vs := [_]) rfl (.cons (RV.cell rfl (lhA [_, _, _] ag23 rfl rfl rfl)) .nil) rfl ⟨by simp only [retV, Twn.next, hc2, cond_true, cond_false], rfl, rfl⟩ drp
 subst hc1
 refine sy_skip ?_
 refine sy_seq ?_
 refine sy_seq ?_
 refine sy_draw [0, 1, 0, 7, 15, 31, 0, 64, 255] (.tk 0 (.ld 1 (.tk 2 (.tk 3 (.tk 4 (.ld 5 (.tk 6 (.ld 7 (.tk 8 .done))))))))) mixed (by kernel_rfl) ?_
 refine tk rfl (PE.fieldAddr fo26_8 rfl) rfl ?_
 refine ld rfl rfl (lh sc24 rfl rfl) rfl ?_
 refine tk rfl (PE.move rfl) rfl ?_
 refine tk rfl (PE.indexAddr el24 rfl rfl (by omega) (by omega)) rfl ?_
 refine tk rfl (PE.fieldAddr fo91_0 rfl) rfl ?_
 refine ld rfl rfl (lf sc3 (rr_get hq) rfl) rfl ?_
 refine tk rfl (PE.fieldAddr fo26_2 rfl) rfl ?_
 refine ld rfl rfl (lh sc3 rfl rfl) rfl ?_
 refine tk rfl (PE.lss rfl rfl) rfl ?_
 refine sy_cond rfl (fun hc2 => ?_) (fun hc2 => ?_)
 refine sy_tx' [0, 1, 2, 3, 4] rfl ?_
 refine sp rfl (PE.fieldAddr fo23_1 rfl) rfl ?_
 refine spL rfl rfl (lh sc3 rfl rfl) rfl ?_
 refine sp rfl (PE.add rfl rfl (by omega)) rfl ?_
 refine sp rfl (PE.fieldAddr fo23_1 rfl) rfl ?_
 refine sto rfl rfl rfl cn3 rfl rfl rfl rfl ?_
 refine sy_seq ?_
 refine sy_tx' [0, 1] rfl ?_
 refine spL rfl rfl (lhA [_, _, _] ag23 rfl rfl rfl) rfl ?_
 refine sto rfl rfl rfl cn23 rfl rfl rfl rfl ?_
 refine sy_ret ?_
 exact sy_return (vs := [_]) rfl (.cons (RV.cell rfl (lhA [_, _, _] ag23 rfl rfl rfl)) .nil) rfl ⟨by simp only [retV, Twn.next, hc2, cond_true, cond_false], rfl, rfl⟩ drp
 refine sy_skip ?_
 refine sy_seq ?_
 refine sy_tx' [0, 1] rfl ?_
 refine spL rfl rfl (lhA [_, _, _] ag23 rfl rfl rfl) rfl ?_
 refine sto rfl rfl rfl cn23 rfl rfl rfl rfl ?_
 refine sy_ret ?_
 exact sy_return (vs := [_]) rfl (.cons (RV.cell rfl (lhA [_, _, _] ag23 rfl rfl rfl)) .nil) rfl ⟨by simp only [retV, Twn.next, hc2, cond_true, cond_false], rfl, rfl⟩ drp
 simp only [decide_eq_true_eq, decide_eq_false_iff_not, Bool.and_eq_true, Bool.or_eq_true, Bool.not_eq_true', Int.not_le, Int.not_lt] at hc0
 have hl : s.stock - q.sacks - (s.stock - q.sacks) * t.rot / 10 = leftOf t s q := by unfold leftOf; omega
 refine sy_skip ?_
 refine sy_seq ?_
 refine sy_tx' [0, 1, 2] rfl ?_
 rw [hl]
 have hlb : 0 ≤ leftOf t s q ∧ leftOf t s q ≤ 30 := by rw [← hl]; omega
 refine sp rfl (PE.build (out := [_, _, _]) pl23 zl23 rfl rfl) rfl ?_
 refine alc rfl zl23 rfl (fun b10 => ?_)
 refine sto rfl rfl rfl cn23 rfl rfl rfl rfl ?_
 refine sy_seq ?_
 refine sy_seq ?_
 refine sy_tx' [0, 1, 2, 3, 4, 5, 6, 7, 8] rfl ?_
 refine sp rfl (PE.fieldAddr fo26_1 rfl) rfl ?_
 refine spL rfl rfl (lh sc3 rfl rfl) rfl ?_
 refine sp rfl (PE.move rfl) rfl ?_
 refine sp rfl (PE.fieldAddr fo26_5 rfl) rfl ?_
 refine spL rfl rfl (lh sc3 rfl rfl) rfl ?_
 refine sp rfl (PE.add rfl rfl (by omega)) rfl ?_
 refine sp rfl (PE.min rfl rfl) rfl ?_
 refine sp rfl (PE.fieldAddr fo23_0 rfl) rfl ?_
 refine sto rfl rfl rfl cn3 rfl rfl rfl rfl ?_
 refine sy_seq ?_
 refine sy_tx' [0] rfl ?_
 refine sp rfl (PE.move rfl) rfl ?_
 refine sy_cond rfl (fun hc1 => ?_) (fun hc1 => ?_)
 subst hc1
 refine sy_draw [0, 1, 0, 0, 8, 28, 63, 0, 128, 384, 127, 1151, 4095, 8191] (.tk 0 (.ld 1 (.tk 2 (.tk 3 (.ld 4 (.tk 5 (.tk 6 (.tk 7 (.ld 8 (.tk 9 (.tk 10 (.big 11 (.tk 12 (.big 13 .done)))))))))))))) mixed (by kernel_rfl) ?_
 refine tk rfl (PE.fieldAddr fo26_1 rfl) rfl ?_
 refine ld rfl rfl (lh sc3 rfl rfl) rfl ?_
 refine tk rfl (PE.move rfl) rfl ?_
 refine tk rfl (PE.fieldAddr fo26_6 rfl) rfl ?_
 refine ld rfl rfl (lh sc3 rfl rfl) rfl ?_
 refine tk rfl (PE.add rfl rfl (by omega)) rfl ?_
 refine tk rfl (PE.min rfl rfl) rfl ?_
 refine tk rfl (PE.fieldAddr fo23_2 rfl) rfl ?_
 refine ld rfl rfl (lh sc3 rfl rfl) rfl ?_
 refine tk rfl (PE.add rfl rfl (by omega)) rfl ?_
 refine tk rfl (PE.fieldAddr fo23_0 rfl) rfl ?_
 refine sto rfl rfl rfl cn3 rfl rfl rfl rfl ?_
 refine bg (fun w hs => ⟨(lh sc3 rfl rfl) w hs, trivial, trivial, trivial⟩) ?_
 refine tk rfl (PE.fieldAddr fo23_2 rfl) rfl ?_
 refine sto rfl rfl rfl cn3 rfl rfl rfl rfl ?_
 refine bg (fun w hs => ⟨trivial, trivial⟩) ?_
 refine sy_seq ?_
 refine sy_seq ?_
 refine sy_draw [0, 1, 0, 7, 15, 31, 0, 64, 255] (.tk 0 (.ld 1 (.tk 2 (.tk 3 (.tk 4 (.ld 5 (.tk 6 (.ld 7 (.tk 8 .done))))))))) mixed (by kernel_rfl) ?_
 refine tk rfl (PE.fieldAddr fo26_8 rfl) rfl ?_
 refine ld rfl rfl (lh sc24 rfl rfl) rfl ?_
 refine tk rfl (PE.move rfl) rfl ?_
 refine tk rfl (PE.indexAddr el24 rfl rfl (by omega) (by omega)) rfl ?_
 refine tk rfl (PE.fieldAddr fo91_0 rfl) rfl ?_
 refine ld rfl rfl (lf sc3 (rr_get hq) rfl) rfl ?_
 refine tk rfl (PE.fieldAddr fo26_2 rfl) rfl ?_
 refine ld rfl rfl (lh sc3 rfl rfl) rfl ?_
 refine tk rfl (PE.lss rfl rfl) rfl ?_
 refine sy_cond rfl (fun hc2 => ?_) (fun hc2 => ?_)
 refine sy_tx' [0, 1, 2, 3, 4] rfl ?_
 refine sp rfl (PE.fieldAddr fo23_1 rfl) rfl ?_
 refine spL rfl rfl (lh sc3 rfl rfl) rfl ?_
 refine sp rfl (PE.add rfl rfl (by omega)) rfl ?_
 refine sp rfl (PE.fieldAddr fo23_1 rfl) rfl ?_
 refine sto rfl rfl rfl cn3 rfl rfl rfl rfl ?_
 refine sy_seq ?_
 refine sy_tx' [0, 1] rfl ?_
 refine spL rfl rfl (lhA [_, _, _] ag23 rfl rfl rfl) rfl ?_
 refine sto rfl rfl rfl cn23 rfl rfl rfl rfl ?_
 refine sy_ret ?_
 exact sy_return (vs := [_]) rfl (.cons (RV.cell rfl (lhA [_, _, _] ag23 rfl rfl rfl)) .nil) rfl ⟨by simp only [retV, Twn.next, hc2, cond_true, cond_false], rfl, rfl⟩ drp
 refine sy_skip ?_
 refine sy_seq ?_
 refine sy_tx' [0, 1] rfl ?_
 refine spL rfl rfl (lhA [_, _, _] ag23 rfl rfl rfl) rfl ?_
 refine sto rfl rfl rfl cn23 rfl rfl rfl rfl ?_
 refine sy_ret ?_
 exact sy_return (vs := [_]) rfl (.cons (RV.cell rfl (lhA [_, _, _] ag23 rfl rfl rfl)) .nil) rfl ⟨by simp only [retV, Twn.next, hc2, cond_true, cond_false], rfl, rfl⟩ drp
 subst hc1
 refine sy_skip ?_
 refine sy_seq ?_
 refine sy_seq ?_
 refine sy_draw [0, 1, 0, 7, 15, 31, 0, 64, 255] (.tk 0 (.ld 1 (.tk 2 (.tk 3 (.tk 4 (.ld 5 (.tk 6 (.ld 7 (.tk 8 .done))))))))) mixed (by kernel_rfl) ?_
 refine tk rfl (PE.fieldAddr fo26_8 rfl) rfl ?_
 refine ld rfl rfl (lh sc24 rfl rfl) rfl ?_
 refine tk rfl (PE.move rfl) rfl ?_
 refine tk rfl (PE.indexAddr el24 rfl rfl (by omega) (by omega)) rfl ?_
 refine tk rfl (PE.fieldAddr fo91_0 rfl) rfl ?_
 refine ld rfl rfl (lf sc3 (rr_get hq) rfl) rfl ?_
 refine tk rfl (PE.fieldAddr fo26_2 rfl) rfl ?_
 refine ld rfl rfl (lh sc3 rfl rfl) rfl ?_
 refine tk rfl (PE.lss rfl rfl) rfl ?_
 refine sy_cond rfl (fun hc2 => ?_) (fun hc2 => ?_)
 refine sy_tx' [0, 1, 2, 3, 4] rfl ?_
 refine sp rfl (PE.fieldAddr fo23_1 rfl) rfl ?_
 refine spL rfl rfl (lh sc3 rfl rfl) rfl ?_
 refine sp rfl (PE.add rfl rfl (by omega)) rfl ?_
 refine sp rfl (PE.fieldAddr fo23_1 rfl) rfl ?_
 refine sto rfl rfl rfl cn3 rfl rfl rfl rfl ?_
 refine sy_seq ?_
 refine sy_tx' [0, 1] rfl ?_
 refine spL rfl rfl (lhA [_, _, _] ag23 rfl rfl rfl) rfl ?_
 refine sto rfl rfl rfl cn23 rfl rfl rfl rfl ?_
 refine sy_ret ?_
 exact sy_return (vs := [_]) rfl (.cons (RV.cell rfl (lhA [_, _, _] ag23 rfl rfl rfl)) .nil) rfl ⟨by simp only [retV, Twn.next, hc2, cond_true, cond_false], rfl, rfl⟩ drp
 refine sy_skip ?_
 refine sy_seq ?_
 refine sy_tx' [0, 1] rfl ?_
 refine spL rfl rfl (lhA [_, _, _] ag23 rfl rfl rfl) rfl ?_
 refine sto rfl rfl rfl cn23 rfl rfl rfl rfl ?_
 refine sy_ret ?_
 exact sy_return (vs := [_]) rfl (.cons (RV.cell rfl (lhA [_, _, _] ag23 rfl rfl rfl)) .nil) rfl ⟨by simp only [retV, Twn.next, hc2, cond_true, cond_false], rfl, rfl⟩ drp
end Go.Proofs.Ytaldphhdkmchhaa
