/-
  Contracts: what the small arithmetic functions return (the range tests, the modulus, the quotient, the key test); each leaves the world alone.
-/
import Derived.Test.YtflpdapalfgodaaChecked
import Derived.Test.YtflpdapalfgodaaBase
import Derived.Test.YtflpdapalfgodaaMath
namespace Go.Proofs.Ytflpdapalfgodaa
open Go.RowKit

theorem impl_InRange (n lo hi : Int) (w : World) :
    Calls Try.prog 17 #[.int .i64 n, .int .i64 lo, .int .i64 hi] w fun e w' => e = .returned (.bool (M.inR n lo hi)) ∧ w = w' := by
  by_cases h1 : lo ≤ n
  · by_cases h2 : n ≤ hi
    · rw [M.inR_true ⟨h1, h2⟩]
      go_enter Try.func17, Try.ntmps17
      go_wp2
      go_ret
      exact ⟨rfl, rfl⟩
    · rw [M.inR_false (fun h => h2 h.2)]
      go_enter Try.func17, Try.ntmps17
      go_wp2
      go_ret
      exact ⟨rfl, rfl⟩
  · rw [M.inR_false (fun h => h1 h.1)]
    go_enter Try.func17, Try.ntmps17
    go_wp2
    go_ret
    exact ⟨rfl, rfl⟩


theorem spec_l1In (n lo hi : Int) (w : World) :
    Calls Try.prog 10 #[.int .i64 n, .int .i64 lo, .int .i64 hi] w fun e w' => e = .returned (.bool (M.inR n lo hi)) ∧ w = w' := by
  by_cases h1 : lo ≤ n
  · by_cases h2 : n ≤ hi
    · rw [M.inR_true ⟨h1, h2⟩]
      go_enter Try.func10, Try.ntmps10
      go_wp2
      go_ret
      exact ⟨rfl, rfl⟩
    · rw [M.inR_false (fun h => h2 h.2)]
      go_enter Try.func10, Try.ntmps10
      go_wp2
      go_ret
      exact ⟨rfl, rfl⟩
  · rw [M.inR_false (fun h => h1 h.1)]
    go_enter Try.func10, Try.ntmps10
    go_wp2
    go_ret
    exact ⟨rfl, rfl⟩


theorem tmod_facts (p q : Int) (h1 : 1 ≤ q) : - q < p.tmod q ∧ p.tmod q < q ∧ (p.tmod q + q) % q = p % q := by
  have hm0 := Int.emod_nonneg p (show q ≠ 0 by omega)
  have hm1 := Int.emod_lt_of_pos p (show 0 < q by omega)
  have e : (p.tmod q + q) % q = p % q := by
    rw [Int.add_emod_right]
    have := Int.mul_tdiv_add_tmod p q
    rw [show p.tmod q = p - q * p.tdiv q by omega, Int.sub_mul_emod_self_left]
  have hb : -q < p.tmod q ∧ p.tmod q < q := by
    have a1 := Int.tmod_lt_of_pos p (show 0 < q by omega)
    have a2 := Int.lt_tmod_of_pos p (show 0 < q by omega)
    omega
  exact ⟨hb.1, hb.2, e⟩









end Go.Proofs.Ytflpdapalfgodaa
