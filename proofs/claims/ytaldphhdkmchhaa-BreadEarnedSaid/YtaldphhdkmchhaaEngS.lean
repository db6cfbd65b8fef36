/-
  The engine, part S: small additions: facts on one row, stores whose list is named.
-/
import Derived.Test.YtaldphhdkmchhaaEngR
namespace Go.Proofs.Ytaldphhdkmchhaa
set_option linter.unusedSimpArgs false
set_option linter.unusedVariables false
open Go

section small
variable {P : Program} {n : Nat} {L : Slots} {D : List Deferred} {H : Heap} {R : Facts}
/-- Loads out of the one row of a fact. -/
theorem lfB {T b sz j : Nat} {row : List Value} [m : MemRows (some ⟨b, 0, none⟩) sz [row] R] {x : Value} (hT : scal P T = true) (hx : row[j]? = some x) :
    ∀ w, St H R w → Ld P T ⟨b, j, none⟩ x w := fun w hs => by
  have := rows_cell (i := 0) (hs.now m.mem) rfl hx
  exact Ld_scal hT (by simpa using this)
theorem lfBA {T b sz j k : Nat} {row : List Value} [m : MemRows (some ⟨b, 0, none⟩) sz [row] R] (vs : List Value) (hT : aggN P T = some k) {rest : List Value} (hv : row.drop j = vs ++ rest) (hk : vs.length = k) :
    ∀ w, St H R w → Ld P T ⟨b, j, none⟩ (.agg vs.toArray) w := by
  have := lfAt (P := P) (sz := sz) (H := H) (T := T) (b := b) (off := 0) (i := 0) (j := j) (R := R) vs hT (rows := [row]) rfl hv hk
  simpa using this

variable {r : Option Nat} {ops : Array Oper} {K : Act → World → Prop} {i : Nat} {ty : TypeId} {pos : String} {af : Array Edge}
/-- A store into a held block, the list that it then holds being named. -/
theorem stoE {T : TypeId} {x y : Operand} {b off k : Nat} {v : Value} {o : Obj} [m : Mem1 b o H] {e : TypeId} {l l' : List Value} {H' : Heap} (ho : ops[i]? = some ⟨none, .store T x y, ty, pos, af, none⟩)
    (hx : ev L x = some (.pointer (some ⟨b, off, none⟩))) (hy : ev L y = some v) (hT : cellN P T = some k) (hc : o = cel e l) (hk : v.cells.toList.length = k) (h1 : v.cells.toList.all (·.oneCell') = true)
    (hl : spl l off v.cells.toList = l') (hb : off + v.cells.toList.length ≤ l.length) [rp : Rep [(b, o)] [(b, cel e l')] H H']
    (h : Sy n L D H' R K) : Sy n L D H R (stp P r ops i K) := fun a w ha hD hs => by
  subst hc
  subst hl
  refine stp_skip ho (wanted_none _ rfl _) (run_store_op ha.reads hx hy (run_storeVar hT hk h1 (by simpa using hb) (hs.held _ m.mem))) ?_
  exact h _ _ (ha.putNone undef) hD (hs.rep (F := [(b, cel e l)]) (F' := [(b, cel e (spl l off v.cells.toList))]) fun T hT => St.set hT)
end small
end Go.Proofs.Ytaldphhdkmchhaa
