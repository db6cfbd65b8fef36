/-
  The engine, part F: facts on memory that is only read.
-/
import Derived.Test.YtaldphhdkmchhaaEngE
namespace Go.Proofs.Ytaldphhdkmchhaa
set_option linter.unusedSimpArgs false
set_option linter.unusedVariables false
open Go

theorem St.tail {p : Nat × Obj} {H : Heap} {R : Facts} {w : World} (h : St (p :: H) R w) : St H R w := St.drop (G := [p]) h
theorem St.ftail {f : World → Prop} {H : Heap} {R : Facts} {w : World} (h : St H (f :: R) w) : St H R w := h.facts (fun g hg => by simp [hg])

/-- The rows of a slice lie from a on, sz cells a row. -/
def RowsA (a : Option Addr) (sz : Nat) (rows : List (List Value)) (w : World) : Prop :=
  ∀ i row, rows[i]? = some row → row.length = sz ∧ ∃ b off, a = some ⟨b, off, none⟩ ∧ ∀ j x, row[j]? = some x → w.cell? ⟨b, off + i * sz + j, none⟩ = some x

class MemF (f : World → Prop) (R : Facts) : Prop where
  mem : f ∈ R
instance MemF.head (f : World → Prop) (R : Facts) : MemF f (f :: R) := ⟨by simp⟩
instance (priority := low) MemF.tail (f g : World → Prop) (R : Facts) [m : MemF f R] : MemF f (g :: R) := ⟨by simp [m.mem]⟩
instance (priority := low) MemF.app (f : World → Prop) (G R : Facts) [m : MemF f R] : MemF f (G ++ R) := ⟨by simp [m.mem]⟩

/-- That the rows lie there is among the facts. -/
class MemRows (a : Option Addr) (sz : Nat) (rows : outParam (List (List Value))) (R : Facts) : Prop where
  mem : RowsA a sz rows ∈ R
instance MemRows.head (a : Option Addr) (sz : Nat) (rows : List (List Value)) (R : Facts) : MemRows a sz rows (RowsA a sz rows :: R) := ⟨by simp⟩
instance (priority := low) MemRows.tail (a : Option Addr) (sz : Nat) (rows : List (List Value)) (g : World → Prop) (R : Facts) [m : MemRows a sz rows R] : MemRows a sz rows (g :: R) := ⟨by simp [m.mem]⟩
instance (priority := low) MemRows.app (a : Option Addr) (sz : Nat) (rows : List (List Value)) (G R : Facts) [m : MemRows a sz rows R] : MemRows a sz rows (G ++ R) := ⟨by simp [m.mem]⟩

section facts
variable {P : Program} {n : Nat} {L : Slots} {D : List Deferred} {H : Heap} {R : Facts} {X : Act → World → Prop}

/-- A slice with a row has an address. -/
theorem sy_addr {a : Option Addr} {sz : Nat} {rows : List (List Value)} [m : MemRows a sz rows R] (h0 : rows ≠ [])
    (h : ∀ b off, a = some ⟨b, off, none⟩ → Sy n L D H R X) : Sy n L D H R X := fun q w ha hD hs => by
  cases rows with
  | nil => exact absurd rfl h0
  | cons row rest =>
    obtain ⟨_, b, off, he, _⟩ := hs.now m.mem 0 row rfl
    exact h b off he q w ha hD hs

theorem rows_cell {b off sz i j : Nat} {rows : List (List Value)} {row : List Value} {x : Value} {w : World} (h : RowsA (some ⟨b, off, none⟩) sz rows w) (hr : rows[i]? = some row) (hx : row[j]? = some x) :
    w.cell? ⟨b, off + i * sz + j, none⟩ = some x := by
  obtain ⟨_, b', off', he, hc⟩ := h i row hr
  cases he
  exact hc j x hx

theorem lf {T b off sz i j : Nat} {rows : List (List Value)} [m : MemRows (some ⟨b, off, none⟩) sz rows R] {row : List Value} {x : Value} (hT : scal P T = true) (hr : rows[i]? = some row) (hx : row[j]? = some x) :
    ∀ w, St H R w → Ld P T ⟨b, off + i * sz + j, none⟩ x w := fun w hs => Ld_scal hT (rows_cell (hs.now m.mem) hr hx)
theorem lf0 {T b off sz i : Nat} {rows : List (List Value)} [m : MemRows (some ⟨b, off, none⟩) sz rows R] {row : List Value} {x : Value} (hT : scal P T = true) (hr : rows[i]? = some row) (hx : row[0]? = some x) :
    ∀ w, St H R w → Ld P T ⟨b, off + i * sz, none⟩ x w := fun w hs => Ld_scal hT (rows_cell (j := 0) (hs.now m.mem) hr hx)
theorem lfA {T b off sz i k : Nat} {rows : List (List Value)} [m : MemRows (some ⟨b, off, none⟩) sz rows R] {row : List Value} (hT : aggN P T = some k) (hr : rows[i]? = some row) (hk : row.length = k) :
    ∀ w, St H R w → Ld P T ⟨b, off + i * sz, none⟩ (.agg row.toArray) w := fun w hs => by
  subst hk
  exact Ld_agg hT fun j x hj => rows_cell (hs.now m.mem) hr hj
theorem lfAt {T b off sz i j k : Nat} {rows : List (List Value)} [m : MemRows (some ⟨b, off, none⟩) sz rows R] {row : List Value} (vs : List Value) (hT : aggN P T = some k) (hr : rows[i]? = some row) {rest : List Value} (hv : row.drop j = vs ++ rest) (hk : vs.length = k) :
    ∀ w, St H R w → Ld P T ⟨b, off + i * sz + j, none⟩ (.agg vs.toArray) w := fun w hs => by
  subst hk
  refine Ld_agg hT fun k x hj => ?_
  have hlt : k < vs.length := (List.getElem?_eq_some_iff.1 hj).1
  have h1 : (row.drop j)[k]? = some x := by rw [hv, List.getElem?_append_left hlt]; exact hj
  have := rows_cell (j := j + k) (hs.now m.mem) hr (by simpa [List.getElem?_drop] using h1)
  rw [Nat.add_assoc]; exact this
theorem flat_get {sz : Nat} : ∀ {rows : List (List Value)}, (∀ r ∈ rows, r.length = sz) → ∀ {i j : Nat} {row : List Value} {x : Value}, rows[i]? = some row → row[j]? = some x → rows.flatten[i * sz + j]? = some x
  | [], _, i, j, row, x, hr, _ => by simp at hr
  | r :: rs, h, i, j, row, x, hr, hx => by
    have hl := h r (by simp)
    cases i with
    | zero =>
      simp only [List.getElem?_cons_zero, Option.some.injEq] at hr
      subst hr
      have hj : j < r.length := (List.getElem?_eq_some_iff.1 hx).1
      rw [List.flatten_cons, Nat.zero_mul, Nat.zero_add, List.getElem?_append_left hj]; exact hx
    | succ i =>
      simp only [List.getElem?_cons_succ] at hr
      have ih := flat_get (fun q hq => h q (by simp [hq])) hr hx
      rw [List.flatten_cons, Nat.succ_mul, List.getElem?_append_right (by omega)]
      rw [show i * sz + sz + j - r.length = i * sz + j from by omega]; exact ih

/-- Rows in a block that is held become a fact. -/
theorem St.rows {b e sz : Nat} {rows : List (List Value)} {rest : List Value} {w : World} (h : St ((b, cel e (rows.flatten ++ rest)) :: H) R w) (hs : ∀ r ∈ rows, r.length = sz) : St H (RowsA (some ⟨b, 0, none⟩) sz rows :: R) w := by
  have h1 := (St.freeze h).also (f := RowsA (some ⟨b, 0, none⟩) sz rows) (fun w' hw => by
    have hb := hw (fun w => w.heap[b]? = some (cel e (rows.flatten ++ rest))) (by simp)
    intro i row hr
    refine ⟨hs row (List.mem_of_getElem? hr), b, 0, rfl, fun j x hx => ?_⟩
    have h2 := flat_get hs hr hx
    rw [cell_of hb, Nat.zero_add]
    have hlt : i * sz + j < rows.flatten.length := (List.getElem?_eq_some_iff.1 h2).1
    simp only [List.getElem?_toArray]
    rw [List.getElem?_append_left hlt]; exact h2)
  exact h1.facts (fun g hg => by rcases List.mem_cons.1 hg with h2 | h2 <;> simp [h2])
end facts
end Go.Proofs.Ytaldphhdkmchhaa
