/-
  Plain laws of the symbolic hash: a step loses nothing modulo the prime; a changed value changes the keyed hash. No function of the program in sight.
-/
import Derived.Test.YtgoelmhaobloaaaHash
namespace Go.Proofs.Ytgoelmhaobloaaa.M

theorem bez {d M q A u v : Int} (hq : d * A = M * q) (e : A * u = M * v + 1) : d = M * (q * u - d * v) := by
  have e2 : d * (A * u) = M * (q * u) := by rw [← Int.mul_assoc, hq, Int.mul_assoc]
  rw [e, Int.mul_add, Int.mul_one] at e2
  rw [Int.mul_sub, ← e2, Int.mul_left_comm M d v]
  omega
theorem step_inj_acc {a b v : Int} (ha : 0 ≤ a ∧ a < 2147483647) (hb : 0 ≤ b ∧ b < 2147483647) (h : step a v = step b v) : a = b := by
  unfold step at h
  have h2 := Int.emod_eq_emod_iff_emod_sub_eq_zero.1 h
  rw [show (a * 1000003 + v % 2147483647 + 13) - (b * 1000003 + v % 2147483647 + 13) = (a - b) * 1000003 by rw [Int.sub_mul]; omega] at h2
  obtain ⟨q, hq⟩ := Int.dvd_of_emod_eq_zero h2
  obtain ⟨k, hk⟩ : ∃ k, a - b = 2147483647 * k := ⟨_, bez hq (u := 1523789695) (v := 709572) (by decide)⟩
  clear hq h2 h
  omega
theorem step_inj_val {a v u : Int} (h : step a v = step a u) : v % 2147483647 = u % 2147483647 := by
  unfold step at h
  have h2 := Int.emod_eq_emod_iff_emod_sub_eq_zero.1 h
  have h1 := Int.emod_nonneg v (show (2147483647 : Int) ≠ 0 by omega)
  have h4 := Int.emod_lt_of_pos v (show (0 : Int) < 2147483647 by omega)
  have h5 := Int.emod_nonneg u (show (2147483647 : Int) ≠ 0 by omega)
  have h6 := Int.emod_lt_of_pos u (show (0 : Int) < 2147483647 by omega)
  clear h
  generalize v % 2147483647 = c at *
  generalize u % 2147483647 = d at *
  rw [show (a * 1000003 + c + 13) - (a * 1000003 + d + 13) = c - d by omega] at h2
  omega
theorem foldl_inj (l : List Int) : ∀ a b : Int, 0 ≤ a ∧ a < 2147483647 → 0 ≤ b ∧ b < 2147483647 → l.foldl step a = l.foldl step b → a = b := by
  induction l with
  | nil => intro a b _ _ h; exact h
  | cons x l ih =>
    intro a b ha hb h
    exact step_inj_acc ha hb (ih _ _ (step_bd a x) (step_bd b x) h)
theorem foldl_set (l : List Int) : ∀ (a : Int) (i : Nat) (y : Int), 0 ≤ a ∧ a < 2147483647 → i < l.length → (l.set i y).foldl step a = l.foldl step a → y % 2147483647 = (l.getD i 0) % 2147483647 := by
  induction l with
  | nil => intro a i y _ hi; simp at hi
  | cons x l ih =>
    intro a i y ha hi h
    cases i with
    | zero =>
      simp only [List.set_cons_zero, List.foldl_cons] at h
      have := foldl_inj l _ _ (step_bd a y) (step_bd a x) h
      simpa using step_inj_val this
    | succ i =>
      simp only [List.set_cons_succ, List.foldl_cons] at h
      have := ih _ i y (step_bd a x) (by simpa using hi) h
      simpa using this
/-- A value that differs modulo the prime gives another keyed hash. -/
theorem kh_set {k : Int} {l : List Int} {i : Nat} {y : Int} (hi : i < l.length) (hy : y % 2147483647 ≠ l.getD i 0 % 2147483647) : kh k (l.set i y) ≠ kh k l := by
  intro h
  rw [kh_eq, kh_eq] at h
  have h1 : 0 ≤ (l.set i y).foldl step (step 11 k) ∧ (l.set i y).foldl step (step 11 k) < 2147483647 := foldl_bd _ _ (step_bd 11 k).1 (step_bd 11 k).2
  have h2 : 0 ≤ l.foldl step (step 11 k) ∧ l.foldl step (step 11 k) < 2147483647 := foldl_bd _ _ (step_bd 11 k).1 (step_bd 11 k).2
  exact hy (foldl_set l _ i y (step_bd 11 k) hi (step_inj_acc h1 h2 h))
theorem kh_hash (k : Int) (l : List Int) : hash (([k] ++ l) ++ [k]) = kh k l := by simp [kh]

end Go.Proofs.Ytgoelmhaobloaaa.M
