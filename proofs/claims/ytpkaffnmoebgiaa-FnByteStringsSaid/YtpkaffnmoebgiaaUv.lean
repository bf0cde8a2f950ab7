/-
  Plain laws of the variable-length numbers: the bytes of a number, seven bits each; reading them. No function of the program in sight.
-/
import Derived.Laws.BitsLemmas
import Derived.IntWalk
import Derived.WalkKit
namespace Go.Proofs.Ytpkaffnmoebgiaa

theorem wraps_i64_63 (n : Int) (h0 : 0 ≤ n) (h1 : n < 2 ^ 63) : IntKind.i64.wrap n = n := IntWalk.i64_in _ (by omega)
theorem or_at (s : Nat) (n y c : Int) (hc : c = 2 ^ s) (hs : s ≤ 56) (hn0 : 0 ≤ n) (hn : n < c) (hy0 : 0 ≤ y) (hy : y < 128) : bits .or .i64 n (y * c) = n + y * c := by
  have e : bits .or .i64 n (y * c) = bits .or .i64 (y * c) n := by
    show IntKind.i64.wrap ((BitVec.ofInt 64 n ||| BitVec.ofInt 64 (y * c)).toNat : Int) = IntKind.i64.wrap ((BitVec.ofInt 64 (y * c) ||| BitVec.ofInt 64 n).toNat : Int)
    rw [BitVec.or_comm]
  have hp : (2 : Int) ^ s ≤ 2 ^ 56 := by
    have h := Nat.pow_le_pow_right (n := 2) (by decide) hs
    exact_mod_cast h
  have hc0 : 0 < c := by omega
  have hyc : y * c < 2 ^ 63 := by
    have h1 : y * c ≤ 127 * c := Int.mul_le_mul_of_nonneg_right (by omega) (by omega)
    omega
  have hyc0 : 0 ≤ y * c := Int.mul_nonneg hy0 (by omega)
  rw [e, bits_join .i64 63 (by decide) wraps_i64_63 s (y * c) n hyc0 (by rw [← hc]; exact Int.mul_emod_left _ _) hyc hn0 (by omega) (by omega), Int.add_comm]
theorem and127_u8 (x : Int) (h0 : 0 ≤ x) (h1 : x ≤ 255) : bits .and .u8 x 127 = x % 128 := bits_mask .u8 8 (by decide) wraps_u8 7 (by decide) x h0 (by omega)
theorem and127_i64 (x : Int) (h0 : 0 ≤ x) (h1 : x < 2 ^ 63) : bits .and .i64 x 127 = x % 128 := bits_mask .i64 63 (by decide) wraps_i64_63 7 (by decide) x h0 h1
theorem or128_i64 (x : Int) : bits .or .i64 (x % 128) 128 = x % 128 + 128 := by
  have h := or_at 7 (x % 128) 1 128 (by decide) (by omega) (by omega) (by omega) (by omega) (by omega)
  simpa using h

/-- The bytes of a number: seven bits each, the lowest first, a mark on all but the last. -/
def uvB (n : Nat) : List Int := if n < 128 then [(n : Int)] else ((n % 128 + 128 : Nat) : Int) :: uvB (n / 128)
  termination_by n
  decreasing_by omega
theorem uvB_lo {n : Nat} (h : n < 128) : uvB n = [(n : Int)] := by rw [uvB, if_pos h]
theorem uvB_hi {n : Nat} (h : ¬ n < 128) : uvB n = ((n % 128 + 128 : Nat) : Int) :: uvB (n / 128) := by rw [uvB, if_neg h]
theorem uvB_len (k : Nat) : ∀ n : Nat, n < 128 ^ (k + 1) → (uvB n).length ≤ k + 1 := by
  induction k with
  | zero => intro n h; rw [uvB_lo (by simpa using h)]; simp
  | succ k ih =>
    intro n h
    by_cases hn : n < 128
    · rw [uvB_lo hn]; simp
    · rw [uvB_hi hn]
      have : n / 128 < 128 ^ (k + 1) := by
        rw [Nat.div_lt_iff_lt_mul (by omega)]
        rw [Nat.pow_succ] at h
        exact h
      have := ih _ this
      simp; omega
theorem uvB_len6 {n : Nat} (h : n ≤ 1000000000000) : (uvB n).length ≤ 6 := uvB_len 5 n (by omega)
theorem uvB_pos (n : Nat) : 0 < (uvB n).length := by rw [uvB]; split <;> simp
theorem uvB_bd (n : Nat) : ∀ z ∈ uvB n, 0 ≤ z ∧ z ≤ 255 := by
  induction n using Nat.strongRecOn with
  | ind n ih =>
    intro z hz
    by_cases hn : n < 128
    · rw [uvB_lo hn] at hz; simp at hz; omega
    · rw [uvB_hi hn] at hz
      simp only [List.mem_cons] at hz
      rcases hz with rfl | hz
      · omega
      · exact ih _ (by omega) z hz
/-- What is written for n: nothing beyond the range. -/
def uvO (n : Int) : List Int := if 0 ≤ n ∧ n ≤ 1000000000000 then uvB n.toNat else []
theorem uvO_in {n : Nat} (h : n ≤ 1000000000000) : uvO n = uvB n := by unfold uvO; rw [if_pos (by omega)]; simp
theorem uvO_out {n : Int} (h : ¬ (0 ≤ n ∧ n ≤ 1000000000000)) : uvO n = [] := if_neg h
theorem uvO_len (n : Int) : (uvO n).length ≤ 6 := by
  unfold uvO; split
  · exact uvB_len6 (by omega)
  · simp
theorem uvO_bd (n : Int) : ∀ z ∈ uvO n, 0 ≤ z ∧ z ≤ 255 := by
  unfold uvO; split
  · exact uvB_bd _
  · simp

/-- Reading: r rounds left, k groups read, their sum n. -/
def rdU (xs : List Int) : Nat → Nat → Int → Nat → Int × Int × Bool
  | 0, _, _, _ => (0, 0, false)
  | r + 1, p, n, k =>
    if xs.length ≤ p + k then (0, 0, false)
    else if 128 ≤ xs.getD (p + k) 0 then rdU xs r p (n + xs.getD (p + k) 0 % 128 * 128 ^ k) (k + 1)
    else if (0 < k ∧ xs.getD (p + k) 0 = 0) ∨ 1000000000000 < n + xs.getD (p + k) 0 % 128 * 128 ^ k then (0, 0, false)
    else (n + xs.getD (p + k) 0 % 128 * 128 ^ k, ((p + k + 1 : Nat) : Int), true)
def rdUv (xs : List Int) (at_ : Int) : Int × Int × Bool := if at_ < 0 ∨ (xs.length : Int) ≤ at_ then (0, 0, false) else rdU xs 6 at_.toNat 0 0
theorem rdUv_out {xs : List Int} {a : Int} (h : a < 0 ∨ (xs.length : Int) ≤ a) : rdUv xs a = (0, 0, false) := if_pos h
theorem rdUv_in {xs : List Int} {a : Nat} (h : a < xs.length) : rdUv xs a = rdU xs 6 a 0 0 := by unfold rdUv; rw [if_neg (by omega)]; simp
theorem rdU_end {xs : List Int} {r p k : Nat} {n : Int} (h : xs.length ≤ p + k) : rdU xs (r + 1) p n k = (0, 0, false) := by rw [rdU, if_pos h]
theorem rdU_more {xs : List Int} {r p k : Nat} {n : Int} (h : p + k < xs.length) (hx : 128 ≤ xs.getD (p + k) 0) : rdU xs (r + 1) p n k = rdU xs r p (n + xs.getD (p + k) 0 % 128 * 128 ^ k) (k + 1) := by
  rw [rdU, if_neg (by omega), if_pos hx]
theorem rdU_bad {xs : List Int} {r p k : Nat} {n : Int} (h : p + k < xs.length) (hx : ¬ 128 ≤ xs.getD (p + k) 0) (hb : (0 < k ∧ xs.getD (p + k) 0 = 0) ∨ 1000000000000 < n + xs.getD (p + k) 0 % 128 * 128 ^ k) :
    rdU xs (r + 1) p n k = (0, 0, false) := by
  rw [rdU, if_neg (by omega), if_neg hx, if_pos hb]
theorem rdU_last {xs : List Int} {r p k : Nat} {n : Int} (h : p + k < xs.length) (hx : ¬ 128 ≤ xs.getD (p + k) 0) (hb : ¬ ((0 < k ∧ xs.getD (p + k) 0 = 0) ∨ 1000000000000 < n + xs.getD (p + k) 0 % 128 * 128 ^ k)) :
    rdU xs (r + 1) p n k = (n + xs.getD (p + k) 0 % 128 * 128 ^ k, ((p + k + 1 : Nat) : Int), true) := by
  rw [rdU, if_neg (by omega), if_neg hx, if_neg hb]

/-- What a reading gives lies in the range, and goes on within the bytes. -/
theorem rdU_bd (xs : List Int) (r : Nat) : ∀ (p : Nat) (n : Int) (k : Nat), 0 ≤ n →
    0 ≤ (rdU xs r p n k).1 ∧ (rdU xs r p n k).1 ≤ 1000000000000 ∧ 0 ≤ (rdU xs r p n k).2.1 ∧ (rdU xs r p n k).2.1 ≤ xs.length ∧ ((rdU xs r p n k).2.2 = true → ((p + k : Nat) : Int) < (rdU xs r p n k).2.1) ∧
    ((rdU xs r p n k).2.2 = false → (rdU xs r p n k).1 = 0 ∧ (rdU xs r p n k).2.1 = 0) := by
  induction r with
  | zero => intro p n k _; simp [rdU]
  | succ r ih =>
    intro p n k hn
    by_cases h : xs.length ≤ p + k
    · rw [rdU_end h]; simp
    · by_cases hx : 128 ≤ xs.getD (p + k) 0
      · have hp : (0 : Int) ≤ xs.getD (p + k) 0 % 128 * 128 ^ k := Int.mul_nonneg (by omega) (Int.pow_nonneg (by omega))
        rw [rdU_more (by omega) hx]
        obtain ⟨h1, h2, h3, h4, h5, h6⟩ := ih p (n + xs.getD (p + k) 0 % 128 * 128 ^ k) (k + 1) (by omega)
        exact ⟨h1, h2, h3, h4, fun hh => by have := h5 hh; omega, h6⟩
      · by_cases hb : (0 < k ∧ xs.getD (p + k) 0 = 0) ∨ 1000000000000 < n + xs.getD (p + k) 0 % 128 * 128 ^ k
        · rw [rdU_bad (by omega) hx hb]; simp
        · have hp : (0 : Int) ≤ xs.getD (p + k) 0 % 128 * 128 ^ k := Int.mul_nonneg (by omega) (Int.pow_nonneg (by omega))
          rw [rdU_last (by omega) hx hb]
          refine ⟨?_, ?_, by simp; omega, by simp; omega, fun _ => by simp; omega, fun hh => by cases hh⟩
          · show 0 ≤ n + xs.getD (p + k) 0 % 128 * 128 ^ k
            omega
          · show n + xs.getD (p + k) 0 % 128 * 128 ^ k ≤ 1000000000000
            omega
theorem rdUv_bd (xs : List Int) (a : Int) :
    0 ≤ (rdUv xs a).1 ∧ (rdUv xs a).1 ≤ 1000000000000 ∧ 0 ≤ (rdUv xs a).2.1 ∧ (rdUv xs a).2.1 ≤ xs.length ∧ ((rdUv xs a).2.2 = true → 0 ≤ a ∧ a < (rdUv xs a).2.1) ∧
    ((rdUv xs a).2.2 = false → (rdUv xs a).1 = 0 ∧ (rdUv xs a).2.1 = 0) := by
  by_cases h : a < 0 ∨ (xs.length : Int) ≤ a
  · rw [rdUv_out h]; simp
  · obtain ⟨j, rfl⟩ : ∃ j : Nat, a = (j : Int) := ⟨a.toNat, by omega⟩
    rw [rdUv_in (by omega)]
    obtain ⟨h1, h2, h3, h4, h5, h6⟩ := rdU_bd xs 6 j 0 0 (by omega)
    exact ⟨h1, h2, h3, h4, fun hh => ⟨by omega, by have := h5 hh; omega⟩, h6⟩

end Go.Proofs.Ytpkaffnmoebgiaa
