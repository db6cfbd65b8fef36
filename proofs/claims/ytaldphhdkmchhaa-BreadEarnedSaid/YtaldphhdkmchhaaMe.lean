/-
  Plain mathematics of layer 9 (bread), fifth part: tables.
-/
import Derived.Test.YtaldphhdkmchhaaMd
namespace Go.Proofs.Ytaldphhdkmchhaa
set_option linter.unusedSimpArgs false
set_option linter.unusedVariables false

structure Rw where
  st : Sta
  lasts : Int
  ration : Int
  deriving DecidableEq
/-- The ration with a number. -/
def Twn.rat (t : Twn) (r : Int) : Option Rn := bif decide (0 ≤ r) then t.rats[r.toNat]? else none
def feedScan (t : Twn) : List Rw → Bool → List Int → Except Int (Bool × List Int)
  | [], tw, y => .ok (tw, y)
  | x :: l, tw, y => bif !(x.st.right t) || !(inb x.lasts 0 1000000) then .error 3 else match t.rat x.ration with
    | none => .error 1
    | some q => bif !(t.can x.st q) then .error 9 else feedScan t l (tw || decide (lat y x.st ≠ -1)) (y.set x.st.ix x.lasts)
def tabKeeps (t : Twn) (y : List Int) (x : Rw) : Bool := match t.rat x.ration with
  | some q => t.keeps y x.st q x.lasts
  | none => false
def nevY (t : Twn) : List Int := (sts t).foldl (fun y s => y.set s.ix (-1)) (List.replicate 496 0)
def feedEnd (t : Twn) (tb : List Rw) (tw : Bool) (y : List Int) : Int × Int :=
  bif tw then (0, 5) else bif !(tb.all (tabKeeps t y)) then (0, 8) else bif decide (lat y t.now = -1) then (0, 6) else (lat y t.now, 0)
/-- What Feeds answers: the number, and the error. -/
def feedR (t : Twn) (tb : List Rw) : Int × Int :=
  bif decide (t.check ≠ 0) then (0, t.check) else bif decide (496 < tb.length) then (0, 2) else match feedScan t tb false (nevY t) with
  | .error e => (0, e)
  | .ok p => feedEnd t tb p.1 p.2

theorem setY_len (v : Int) : ∀ (l : List Sta) (y : List Int), (l.foldl (fun y s => y.set s.ix v) y).length = y.length
  | [], _ => rfl
  | s :: l, y => by rw [List.foldl_cons, setY_len v l]; simp
theorem rat_some {t : Twn} {r : Int} {q : Rn} (h0 : 0 ≤ r) (h : t.rats[r.toNat]? = some q) : t.rat r = some q := by simp [Twn.rat, h0, h]
theorem rat_iff {t : Twn} {r : Int} {q : Rn} : t.rat r = some q ↔ 0 ≤ r ∧ t.rats[r.toNat]? = some q := by
  unfold Twn.rat
  by_cases h : 0 ≤ r <;> simp [h]
theorem rat_none {t : Twn} {r : Int} (h : (decide (0 ≤ r) && decide (r ≤ (t.rats.length : Int) - 1)) = false) : t.rat r = none := by
  unfold Twn.rat
  by_cases h0 : 0 ≤ r
  · simp only [h0, decide_true, Bool.true_and, decide_eq_false_iff_not] at h ⊢
    exact List.getElem?_eq_none (by omega)
  · simp [h0]
theorem rat_in {t : Twn} {r : Int} (h : (decide (0 ≤ r) && decide (r ≤ (t.rats.length : Int) - 1)) = true) : 0 ≤ r ∧ ∃ q, t.rats[r.toNat]? = some q := by
  simp only [Bool.and_eq_true, decide_eq_true_eq] at h
  exact ⟨h.1, _, List.getElem?_eq_getElem (by omega)⟩
theorem drop_get {α : Type} {l : List α} {k : Nat} {x : α} (h : l[k]? = some x) : l.drop k = x :: l.drop (k + 1) := by
  obtain ⟨h1, h2⟩ := List.getElem?_eq_some_iff.1 h
  rw [List.drop_eq_getElem_cons h1, h2]
theorem feedR_err {t : Twn} {tb : List Rw} {e : Int} (h0 : t.check = 0) (h1 : tb.length ≤ 496) (h : feedScan t tb false (nevY t) = .error e) : feedR t tb = (0, e) := by
  unfold feedR
  have h2 : ¬ 496 < tb.length := by omega
  simp [h0, h2, h]
theorem feedR_ok {t : Twn} {tb : List Rw} {tw : Bool} {y : List Int} (h0 : t.check = 0) (h1 : tb.length ≤ 496) (h : feedScan t tb false (nevY t) = .ok (tw, y)) : feedR t tb = feedEnd t tb tw y := by
  unfold feedR
  have h2 : ¬ 496 < tb.length := by omega
  simp [h0, h2, h]
theorem feedScan_ok {t : Twn} : ∀ (l : List Rw) (tw : Bool) (y : List Int) (p : Bool × List Int), feedScan t l tw y = .ok p → ∀ x ∈ l, x.st.right t = true ∧ (0 ≤ x.lasts ∧ x.lasts ≤ 1000000) ∧ ∃ q, t.rat x.ration = some q ∧ t.can x.st q = true
  | [], _, _, _, _, _, hx => by cases hx
  | x :: l, tw, y, p, h, z, hz => by
    unfold feedScan at h
    cases h1 : x.st.right t <;> rw [h1] at h
    · cases h
    cases h2 : inb x.lasts 0 1000000 <;> rw [h2] at h
    · cases h
    cases h3 : t.rat x.ration <;> rw [h3] at h
    · cases h
    rename_i q
    cases h4 : t.can x.st q with
    | false => rw [show (bif !true || !true then Except.error 3 else match some q with | none => Except.error 1 | some q => bif !(t.can x.st q) then Except.error 9 else feedScan t l (tw || decide (lat y x.st ≠ -1)) (y.set x.st.ix x.lasts) : Except Int (Bool × List Int)) = bif !(t.can x.st q) then Except.error 9 else feedScan t l (tw || decide (lat y x.st ≠ -1)) (y.set x.st.ix x.lasts) from rfl, h4] at h; cases h
    | true =>
      rw [show (bif !true || !true then Except.error 3 else match some q with | none => Except.error 1 | some q => bif !(t.can x.st q) then Except.error 9 else feedScan t l (tw || decide (lat y x.st ≠ -1)) (y.set x.st.ix x.lasts) : Except Int (Bool × List Int)) = bif !(t.can x.st q) then Except.error 9 else feedScan t l (tw || decide (lat y x.st ≠ -1)) (y.set x.st.ix x.lasts) from rfl, h4] at h
      rcases List.mem_cons.1 hz with rfl | hz
      · simp only [inb, Bool.and_eq_true, decide_eq_true_eq] at h2
        exact ⟨h1, h2, q, h3, h4⟩
      · exact feedScan_ok l _ _ p h z hz
/-- A state's row. -/
def tabRow (t : Twn) (y : List Int) (s : Sta) : Option Rw := bif decide (lat y s = -1) then none else (t.rats.findIdx? fun q => t.keeps y s q (lat y s)).map fun (r : Nat) => ⟨s, lat y s, r⟩
def tab (t : Twn) (y : List Int) : List Rw := (sts t).filterMap (tabRow t y)
theorem tabRow_hit {t : Twn} {y : List Int} {s : Sta} {k : Nat} {q : Rn} (h0 : lat y s ≠ -1) (hq : t.rats[k]? = some q) (hn : ∀ i q', i < k → t.rats[i]? = some q' → t.keeps y s q' (lat y s) = false) (h : t.keeps y s q (lat y s) = true) : tabRow t y s = some ⟨s, lat y s, k⟩ := by
  unfold tabRow
  have hk : k < t.rats.length := (List.getElem?_eq_some_iff.1 hq).1
  have : t.rats.findIdx? (fun q => t.keeps y s q (lat y s)) = some k := by
    rw [List.findIdx?_eq_some_iff_getElem]
    refine ⟨hk, ?_, fun j hj => ?_⟩
    · rw [List.getElem?_eq_getElem hk] at hq; cases hq; exact h
    · simp [hn j _ hj (List.getElem?_eq_getElem (by omega))]
  rw [this]; simp [h0]
theorem tabRow_never {t : Twn} {y : List Int} {s : Sta} (h : lat y s = -1) : tabRow t y s = none := by simp [tabRow, h]
theorem tabRow_miss {t : Twn} {y : List Int} {s : Sta} (hn : ∀ i q', i < t.rats.length → t.rats[i]? = some q' → lat y s = -1 ∨ t.keeps y s q' (lat y s) = false) : tabRow t y s = none := by
  unfold tabRow
  cases hc : decide (lat y s = -1) with
  | true => rfl
  | false =>
    have : t.rats.findIdx? (fun q => t.keeps y s q (lat y s)) = none := by
      rw [List.findIdx?_eq_none_iff]
      intro q hq
      obtain ⟨i, hi⟩ := List.getElem?_of_mem hq
      rcases hn i q (List.getElem?_eq_some_iff.1 hi).1 hi with h | h
      · simp [h] at hc
      · exact h
    rw [this]; rfl
end Go.Proofs.Ytaldphhdkmchhaa
