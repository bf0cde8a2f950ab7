/-
  Contracts: temporary identities compared.
-/
import Derived.Test.YtgoelmhaobloaaaMemA
import Derived.Test.YtgoelmhaobloaaaArith
namespace Go.Proofs.Ytgoelmhaobloaaa
open Go.RowKit

theorem laws_eqTempID_same (a b : Int) (w : World) :
    Calls Try.prog 25 #[.agg #[.int .i64 a, .int .i64 b], .agg #[.int .i64 a, .int .i64 b]] w fun e w' => e = .returned (.bool true) ∧ w' = (w.alloc (.cells #[.int .i64 a, .int .i64 b] 32)).alloc (.cells #[.int .i64 a, .int .i64 b] 32) := by
  go_enter Try.func25, Try.ntmps25
  go_wp2
  go_ret
  exact ⟨rfl, rfl⟩
theorem laws_eqTempID_below (a b : Int) (w : World) :
    Calls Try.prog 25 #[.agg #[.int .i64 a, .int .i64 b], .agg #[.int .i64 a, .int .i64 b]] w fun e w' => e = .returned (.bool true) ∧ Below w.heap.size w w' :=
  (laws_eqTempID_same a b w).mono fun _ _ ⟨h1, h2⟩ => ⟨h1, h2 ▸ (by repeat (first | (with_reducible exact Below.refl _ _) | (with_reducible refine Below.al ?_ _) | (with_reducible refine Below.dn ?_ _)))⟩

end Go.Proofs.Ytgoelmhaobloaaa
