/-
  Plain mathematics of layer 9 (bread), tenth part: what each question on how long a town lasts is answered, as one value.
-/
import Derived.Test.YtaldphhdkmchhaaMi
import Derived.Test.YtaldphhdkmchhaaWk7
namespace Go.Proofs.Ytaldphhdkmchhaa
set_option linter.unusedSimpArgs false
set_option linter.unusedVariables false

/-- How long a state lasts. -/
noncomputable def LV (t : Twn) (s : Sta) : Int := Classical.epsilon fun v : Int => LS t s v
theorem LS.lv {t : Twn} {s : Sta} {v : Int} (h : LS t s v) : v = LV t s := LS.uniq h (Classical.epsilon_spec (p := fun v => LS t s v) ⟨v, h⟩)
noncomputable def LY (t : Twn) : List Int := mkY (LV t)
theorem LY_len (t : Twn) : (LY t).length = 496 := by simp [LY, mkY]
theorem LSA.same {t : Twn} (ht : t.ok) {y : List Int} (h : LSA t y) : Same t y (LY t) := fun s hs => (h s hs).lv.trans (mkY_lat ht (LV t) hs).symm
theorem LSA.ly {t : Twn} (ht : t.ok) {y : List Int} (h : LSA t y) : LSA t (LY t) := fun s hs => by rw [← h.same ht s hs]; exact h s hs
theorem SolR.ly {t : Twn} (ht : t.ok) {la : List Int} (h : SolR t la) : Rel t la (LY t) ∧ LSA t (LY t) := by
  have e : ∀ u, u.right t = true → io la (ixr t u) = lat (LY t) u := fun u hu => (h.2 u hu).lv.trans (mkY_lat ht (LV t) hu).symm
  exact ⟨⟨h.1, LY_len t, e⟩, fun s hs => by rw [← e s hs]; exact h.2 s hs⟩
attribute [irreducible] LY
theorem pickU_congr {p p' : Rn → Bool} {l : List Rn} (h : ∀ q ∈ l, p q = p' q) (k : Nat) : pickU p l k = pickU p' l k := by
  unfold pickU
  congr 1
  refine List.filter_congr fun i _ => ?_
  cases hi : l[i]? with
  | none => rfl
  | some q => exact h q (List.mem_of_getElem? hi)
noncomputable def lastP (t : Twn) : Int × Int := bif decide (t.check ≠ 0) then (0, t.check) else (lat (LY t) t.now, 0)
noncomputable def fromP (t : Twn) (s : Sta) : Int × Int := bif decide (t.check ≠ 0) then (0, t.check) else bif !(s.right t) then (0, 3) else (lat (LY t) s, 0)
noncomputable def choP (t : Twn) : List Int × Int := bif decide (t.check ≠ 0) then ([], t.check) else bif decide (lat (LY t) t.now = -1) then ([], 6) else
  (pickU (fun q => t.keeps (LY t) t.now q (lat (LY t) t.now)) t.rats t.rats.length, 0)
def needO (t : Twn) (y : List Int) (bads : Int) : Option Int := ((sts t).find? (needP t y bads)).map (·.stock)
noncomputable def neeP (t : Twn) (bads : Int) : Int × Int := bif decide (t.check ≠ 0) then (0, t.check) else bif !(inb bads 0 1000000) then (0, 3) else match needO t (LY t) bads with
  | some k => (k, 0)
  | none => (0, 6)
theorem last_P {t : Twn} {v : Value} (h : (t.check ≠ 0 ∧ v = .tuple #[.int .i64 0, .int .i64 t.check]) ∨ (t.check = 0 ∧ ∃ σ, Solv t σ ∧ v = .tuple #[.int .i64 (lat σ.y t.now), .int .i64 0])) :
    v = .tuple #[.int .i64 (lastP t).1, .int .i64 (lastP t).2] := by
  rcases h with ⟨h, rfl⟩ | ⟨h, σ, hσ, rfl⟩
  · simp [lastP, h]
  · have hok := (ok_of_check h).1
    rw [(solv_lsa hok hσ).same hok _ hok.now]
    simp [lastP, h]
theorem need_P {t : Twn} {bads : Int} {v : Value} (h : (t.check ≠ 0 ∧ v = .tuple #[.int .i64 0, .int .i64 t.check]) ∨ (t.check = 0 ∧ inb bads 0 1000000 = false ∧ v = .tuple #[.int .i64 0, .int .i64 3]) ∨ (t.check = 0 ∧ inb bads 0 1000000 = true ∧ ∃ σ, Solv t σ ∧ v = needV t σ.y bads)) :
    v = .tuple #[.int .i64 (neeP t bads).1, .int .i64 (neeP t bads).2] := by
  rcases h with ⟨h, rfl⟩ | ⟨h, h2, rfl⟩ | ⟨h, h2, σ, hσ, rfl⟩
  · simp [neeP, h]
  · unfold neeP; rw [h2]; simp [h]
  · have hok := (ok_of_check h).1
    have e : needV t σ.y bads = needV t (LY t) bads := by
      unfold needV
      rw [find_congr (q := needP t (LY t) bads) (fun s hs => by unfold needP; rw [(solv_lsa hok hσ).same hok _ (sts_right hok hs)])]
    rw [e]
    unfold neeP needV needO
    rw [h2]
    cases (sts t).find? (needP t (LY t) bads) <;> simp [h]
theorem cho_P {t : Twn} {σ : Sv} (h : t.check = 0) (hσ : Solv t σ) (hn : lat σ.y t.now ≠ -1) : choP t = (pickU (fun q => t.keeps σ.y t.now q (lat σ.y t.now)) t.rats t.rats.length, 0) := by
  have hok := (ok_of_check h).1
  have hs := (solv_lsa hok hσ).same hok
  unfold choP
  rw [← hs _ hok.now, pickU_congr (p' := fun q => t.keeps (LY t) t.now q (lat σ.y t.now)) (p := fun q => t.keeps σ.y t.now q (lat σ.y t.now)) (fun q hq => keeps_congr hok hs hok.now hq _)]
  simp [h, hn]
theorem cho_P0 {t : Twn} {σ : Sv} (h : t.check = 0) (hσ : Solv t σ) (hn : lat σ.y t.now = -1) : choP t = ([], 6) := by
  have hok := (ok_of_check h).1
  have hs := (solv_lsa hok hσ).same hok
  unfold choP
  rw [← hs _ hok.now]
  simp [h, hn]
theorem need_hit {t : Twn} (ht : t.ok) {y : List Int} {bads : Int} {k : Nat} (hk : (k : Int) ≤ t.holds) (h : bads ≤ lat y ⟨k, t.now.short, t.now.dry⟩) (hno : ∀ j : Nat, j < k → ¬ bads ≤ lat y ⟨j, t.now.short, t.now.dry⟩) : needO t y bads = some k := by
  have hn := right_iff.1 ht.now
  have hs : Sta.right t ⟨k, t.now.short, t.now.dry⟩ = true := right_iff.2 ⟨⟨by simp, hk⟩, hn.2⟩
  obtain ⟨h1, _⟩ := ixr_get hs
  unfold needO
  rw [find_at h1 (fun i z hi hz => ?_) (by simp [needP, h])]
  · rfl
  · have hz2 := sts_right ht (List.mem_of_getElem? hz)
    have hzi := ixr_at hz hz2
    have hzr := right_iff.1 hz2
    cases hp : needP t y bads z with
    | false => rfl
    | true =>
      simp only [needP, Bool.and_eq_true, decide_eq_true_eq] at hp
      exfalso
      obtain ⟨a, b, c⟩ := z
      simp only at hp hzr
      obtain ⟨⟨rfl, rfl⟩, hp⟩ := hp
      have e : a = (a.toNat : Int) := by omega
      rw [e] at hp
      refine hno a.toNat ?_ hp
      unfold ixr at hzi hi
      simp only at hzi hi
      rw [← hzi] at hi
      rcases Nat.lt_or_ge a.toNat k with h5 | h5
      · exact h5
      · exfalso
        have : (((k : Int).toNat * (t.patience.toNat + 1) + t.now.short.toNat) * (t.run.toNat + 1) + t.now.dry.toNat) ≤ ((a.toNat * (t.patience.toNat + 1) + t.now.short.toNat) * (t.run.toNat + 1) + t.now.dry.toNat) :=
          Nat.add_le_add_right (Nat.mul_le_mul_right _ (Nat.add_le_add_right (Nat.mul_le_mul_right _ (by simpa using h5)) _)) _
        omega
theorem need_miss {t : Twn} (ht : t.ok) {y : List Int} {bads : Int} (hno : ∀ j : Nat, (j : Int) ≤ t.holds → ¬ bads ≤ lat y ⟨j, t.now.short, t.now.dry⟩) : needO t y bads = none := by
  unfold needO
  rw [Option.map_eq_none_iff, List.find?_eq_none]
  intro z hz hp
  have hzr := right_iff.1 (sts_right ht hz)
  simp only [needP, Bool.and_eq_true, decide_eq_true_eq] at hp
  obtain ⟨a, b, c⟩ := z
  simp only at hp hzr
  obtain ⟨⟨rfl, rfl⟩, hp⟩ := hp
  have e : a = (a.toNat : Int) := by omega
  rw [e] at hp
  exact hno a.toNat (by omega) hp
end Go.Proofs.Ytaldphhdkmchhaa
