/-
  Plain mathematics of layer 9 (bread), fourth part: what is earned.
-/
import Derived.Test.YtaldphhdkmchhaaMc
namespace Go.Proofs.Ytaldphhdkmchhaa
set_option linter.unusedSimpArgs false
set_option linter.unusedVariables false

def worstOf (t : Twn) (g : Sta → Int) (s : Sta) (q : Rn) : Int := bif decide (s.dry < t.run) then min (g (t.next s q false)) (g (t.next s q true)) else g (t.next s q false)
def efQ (t : Twn) (g : Sta → Int) (s : Sta) (best : Int) (q : Rn) : Int :=
  bif t.can s q then (bif decide (worstOf t g s q = -1) then best else max best (worstOf t g s q + q.sacks * q.price)) else best
/-- What is earned for certain from a state on; -1 if it cannot be fed. -/
def ef (t : Twn) : Nat → Sta → Int
  | 0, _ => 0
  | n + 1, s => t.rats.foldl (efQ t (ef t n) s) (-1)

theorem mul_bd {a b : Int} (h1 : 0 ≤ a) (h2 : a ≤ 30) (h3 : 0 ≤ b) (h4 : b ≤ 100) : 0 ≤ a * b ∧ a * b ≤ 3000 := by
  have h5 := Int.mul_nonneg h1 h3
  have h6 := Int.mul_le_mul h2 h4 h3 (by omega)
  omega
theorem worst_bd {t : Twn} {g : Sta → Int} {B : Int} (hg : ∀ s, -1 ≤ g s ∧ g s ≤ B) (s : Sta) (q : Rn) : -1 ≤ worstOf t g s q ∧ worstOf t g s q ≤ B := by
  unfold worstOf
  have h1 := hg (t.next s q false)
  have h2 := hg (t.next s q true)
  cases decide (s.dry < t.run) <;> simp only [cond_true, cond_false] <;> omega
theorem efQ_bd {t : Twn} {g : Sta → Int} {B : Int} (hB : 0 ≤ B) (hg : ∀ s, -1 ≤ g s ∧ g s ≤ B) (s : Sta) : ∀ (l : List Rn), (∀ q ∈ l, 0 ≤ q.sacks ∧ q.sacks ≤ 30 ∧ 0 ≤ q.price ∧ q.price ≤ 100) → ∀ b, -1 ≤ b → b ≤ B + 3000 →
    -1 ≤ l.foldl (efQ t g s) b ∧ l.foldl (efQ t g s) b ≤ B + 3000
  | [], _, b, h1, h2 => ⟨h1, h2⟩
  | q :: l, hl, b, h1, h2 => by
    have hq := hl q (by simp)
    have h3 := worst_bd (t := t) hg s q
    have h4 := mul_bd hq.1 hq.2.1 hq.2.2.1 hq.2.2.2
    rw [List.foldl_cons]
    refine efQ_bd hB hg s l (fun q hq => hl q (by simp [hq])) _ ?_ ?_ <;>
    · unfold efQ
      cases t.can s q <;> cases decide (worstOf t g s q = -1) <;> simp only [cond_true, cond_false] <;> omega
theorem ef_bd {t : Twn} (ht : t.ok) : ∀ (n : Nat) (s : Sta), -1 ≤ ef t n s ∧ ef t n s ≤ n * 3000
  | 0, _ => by simp [ef]
  | n + 1, s => by
    have h := efQ_bd (t := t) (g := ef t n) (B := n * 3000) (by omega) (ef_bd ht n) s t.rats ht.rats (-1) (by omega) (by omega)
    unfold ef
    push_cast
    omega
end Go.Proofs.Ytaldphhdkmchhaa
