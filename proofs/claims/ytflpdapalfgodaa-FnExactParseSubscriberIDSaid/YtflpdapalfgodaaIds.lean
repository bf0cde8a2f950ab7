/-
  Contracts: identities, vectors, cards and records as structs by value: copies made field by field, and their validity tests. Each makes new blocks at most; the world behind each is written out.
-/
import Derived.Test.YtflpdapalfgodaaArith
namespace Go.Proofs.Ytflpdapalfgodaa
open Go.RowKit






theorem impl_IsValidSubscriberID (a b : Int) (w : World) :
    Calls Try.prog 15 #[.agg #[.int .i64 a, .int .i64 b]] w fun e w' => e = .returned (.bool (M.vSid a b)) ∧ w' = w.alloc (.cells #[.int .i64 a, .int .i64 b] 26) := by
  unfold M.vSid
  cases h1 : M.inR a 0 3 <;> cases h2 : M.inR b 0 99
  all_goals
    go_enter Try.func15, Try.ntmps15
    go_wp2_with (go_at_call 17; refine (impl_InRange _ _ _ _).mono ?_; rintro e w1 ⟨rfl, rfl⟩)
    go_ret
    exact ⟨rfl, rfl⟩





theorem spec_IsValidSubscriberID (a b : Int) (w : World) :
    Calls Try.prog 13 #[.agg #[.int .i64 a, .int .i64 b]] w fun e w' => e = .returned (.bool (M.vSid a b)) ∧ w' = w.alloc (.cells #[.int .i64 a, .int .i64 b] 26) := by
  unfold M.vSid
  cases h1 : M.inR a 0 3 <;> cases h2 : M.inR b 0 99
  all_goals
    go_enter Try.func13, Try.ntmps13
    go_wp2_with (go_at_call 10; refine (spec_l1In _ _ _ _).mono ?_; rintro e w1 ⟨rfl, rfl⟩)
    go_ret
    exact ⟨rfl, rfl⟩





end Go.Proofs.Ytflpdapalfgodaa
