/-
  Contracts: what the small arithmetic functions return (the range tests, the modulus, the quotient, the key test); each leaves the world alone.
-/
import Derived.Test.YtfenmicakmjelaaChecked
import Derived.Test.YtfenmicakmjelaaBase
import Derived.Test.YtfenmicakmjelaaMath
namespace Go.Proofs.Ytfenmicakmjelaa
open Go.RowKit

theorem impl_InRange (n lo hi : Int) (w : World) :
    Calls Try.prog 45 #[.int .i64 n, .int .i64 lo, .int .i64 hi] w fun e w' => e = .returned (.bool (M.inR n lo hi)) ∧ w = w' := by
  by_cases h1 : lo ≤ n
  · by_cases h2 : n ≤ hi
    · rw [M.inR_true ⟨h1, h2⟩]
      go_enter Try.func45, Try.ntmps45
      go_wp2
      go_ret
      exact ⟨rfl, rfl⟩
    · rw [M.inR_false (fun h => h2 h.2)]
      go_enter Try.func45, Try.ntmps45
      go_wp2
      go_ret
      exact ⟨rfl, rfl⟩
  · rw [M.inR_false (fun h => h1 h.1)]
    go_enter Try.func45, Try.ntmps45
    go_wp2
    go_ret
    exact ⟨rfl, rfl⟩


theorem spec_l1In (n lo hi : Int) (w : World) :
    Calls Try.prog 49 #[.int .i64 n, .int .i64 lo, .int .i64 hi] w fun e w' => e = .returned (.bool (M.inR n lo hi)) ∧ w = w' := by
  by_cases h1 : lo ≤ n
  · by_cases h2 : n ≤ hi
    · rw [M.inR_true ⟨h1, h2⟩]
      go_enter Try.func49, Try.ntmps49
      go_wp2
      go_ret
      exact ⟨rfl, rfl⟩
    · rw [M.inR_false (fun h => h2 h.2)]
      go_enter Try.func49, Try.ntmps49
      go_wp2
      go_ret
      exact ⟨rfl, rfl⟩
  · rw [M.inR_false (fun h => h1 h.1)]
    go_enter Try.func49, Try.ntmps49
    go_wp2
    go_ret
    exact ⟨rfl, rfl⟩

theorem impl_Mod (p q : Int) (w : World) (hp : (Lit.int .i64 p).wf = true) (hq : (Lit.int .i64 q).wf = true) :
    Calls Try.prog 50 #[.int .i64 p, .int .i64 q] w fun e w' => e = .returned (.int .i64 (M.mod p q)) ∧ w = w' := by
  have bp := wf_i64_bd hp
  have bq := wf_i64_bd hq
  clear hp hq
  by_cases h : 1 ≤ q ∧ q ≤ 1000000000000
  · rw [M.mod_in h]
    obtain ⟨h1, h2⟩ := h
    have hin : M.inR q 1 1000000000000 = true := M.inR_true ⟨h1, h2⟩
    have ht : p.tmod q = if p % q = 0 ∨ 0 ≤ p then p % q else p % q - q := by
      by_cases h0 : 0 ≤ p
      · rw [if_pos (.inr h0), Int.tmod_eq_emod_of_nonneg h0]
      · rw [Int.tmod_eq_emod]
        by_cases hd : p % q = 0
        · have : q ∣ p := Int.dvd_of_emod_eq_zero hd
          simp [hd, this]
        · have : ¬ q ∣ p := fun hh => hd (Int.emod_eq_zero_of_dvd hh)
          simp [hd, this, h0]
          omega
    have hm0 := Int.emod_nonneg p (show q ≠ 0 by omega)
    have hm1 := Int.emod_lt_of_pos p (show 0 < q by omega)
    by_cases hs : p % q = 0 ∨ 0 ≤ p
    · rw [if_pos hs] at ht
      have hr : ¬ p.tmod q < 0 := by omega
      generalize p % q = m at *
      go_enter Try.func50, Try.ntmps50
      go_wp2_with (go_at_call 45; refine (impl_InRange _ _ _ _).mono ?_; rintro e w' ⟨rfl, rfl⟩)
      go_ret
      exact ⟨by simp, rfl⟩
    · rw [if_neg hs] at ht
      have hr : p.tmod q < 0 := by omega
      go_enter Try.func50, Try.ntmps50
      go_wp2_with (go_at_call 45; refine (impl_InRange _ _ _ _).mono ?_; rintro e w' ⟨rfl, rfl⟩)
      go_ret
      exact ⟨by simp, rfl⟩
  · rw [M.mod_out h]
    have hin : M.inR q 1 1000000000000 = false := M.inR_false h
    go_enter Try.func50, Try.ntmps50
    go_wp2_with (go_at_call 45; refine (impl_InRange _ _ _ _).mono ?_; rintro e w' ⟨rfl, rfl⟩)
    go_ret
    exact ⟨rfl, rfl⟩

theorem tmod_facts (p q : Int) (h1 : 1 ≤ q) : - q < p.tmod q ∧ p.tmod q < q ∧ (p.tmod q + q) % q = p % q := by
  have hm0 := Int.emod_nonneg p (show q ≠ 0 by omega)
  have hm1 := Int.emod_lt_of_pos p (show 0 < q by omega)
  have e : (p.tmod q + q) % q = p % q := by
    rw [Int.add_emod_right]
    have := Int.mul_tdiv_add_tmod p q
    rw [show p.tmod q = p - q * p.tdiv q by omega, Int.sub_mul_emod_self_left]
  have hb : -q < p.tmod q ∧ p.tmod q < q := by
    have a1 := Int.tmod_lt_of_pos p (show 0 < q by omega)
    have a2 := Int.lt_tmod_of_pos p (show 0 < q by omega)
    omega
  exact ⟨hb.1, hb.2, e⟩

theorem spec_Mod (p q : Int) (w : World) (hp : (Lit.int .i64 p).wf = true) (hq : (Lit.int .i64 q).wf = true) :
    Calls Try.prog 61 #[.int .i64 p, .int .i64 q] w fun e w' => e = .returned (.int .i64 (M.mod p q)) ∧ w = w' := by
  have bp := wf_i64_bd hp
  have bq := wf_i64_bd hq
  clear hp hq
  by_cases h : 1 ≤ q ∧ q ≤ 1000000000000
  · rw [M.mod_in h]
    obtain ⟨h1, h2⟩ := h
    have hin : M.inR q 1 1000000000000 = true := M.inR_true ⟨h1, h2⟩
    obtain ⟨f1, f2, f3⟩ := tmod_facts p q h1
    rw [← f3]
    clear f3
    go_enter Try.func61, Try.ntmps61
    go_wp2_with (go_at_call 49; refine (spec_l1In _ _ _ _).mono ?_; rintro e w' ⟨rfl, rfl⟩)
    go_ret
    exact ⟨rfl, rfl⟩
  · rw [M.mod_out h]
    have hin : M.inR q 1 1000000000000 = false := M.inR_false h
    go_enter Try.func61, Try.ntmps61
    go_wp2_with (go_at_call 49; refine (spec_l1In _ _ _ _).mono ?_; rintro e w' ⟨rfl, rfl⟩)
    go_ret
    exact ⟨rfl, rfl⟩



theorem impl_IsValidKey (k : Int) (w : World) :
    Calls Try.prog 27 #[.int .i64 k] w fun e w' => e = .returned (.bool (M.inR k 1 2147483646)) ∧ w = w' := by
  go_enter Try.func27, Try.ntmps27
  go_wp2_with (go_at_call 45; refine (impl_InRange _ _ _ _).mono ?_; rintro e w' ⟨rfl, rfl⟩)
  go_ret
  exact ⟨rfl, rfl⟩


theorem spec_Max (a b : Int) (w : World) :
    Calls Try.prog 70 #[.int .i64 a, .int .i64 b] w fun e w' => e = .returned (.int .i64 (M.max a b)) ∧ w = w' := by
  unfold M.max
  by_cases h : a < b
  · rw [if_pos h]
    go_enter Try.func70, Try.ntmps70
    go_wp2
    go_ret
    exact ⟨rfl, rfl⟩
  · rw [if_neg h]
    go_enter Try.func70, Try.ntmps70
    go_wp2
    go_ret
    exact ⟨rfl, rfl⟩


theorem spec_IsValidKey (k : Int) (w : World) :
    Calls Try.prog 18 #[.int .i64 k] w fun e w' => e = .returned (.bool (M.inR k 1 2147483646)) ∧ w = w' := by
  go_enter Try.func18, Try.ntmps18
  go_wp2_with (go_at_call 49; refine (spec_l1In _ _ _ _).mono ?_; rintro e w' ⟨rfl, rfl⟩)
  go_ret
  exact ⟨rfl, rfl⟩

end Go.Proofs.Ytfenmicakmjelaa
