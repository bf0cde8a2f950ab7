/-
  Contracts: identities, vectors, cards and records as structs by value: copies made field by field, and their validity tests. Each makes new blocks at most; the world behind each is written out.
-/
import Derived.Test.YtflpdapalfgodaaDoorArith
namespace Go.Proofs.YtflpdapalfgodaaDoor
open Go.RowKit

theorem laws_toSubscriberID (a b : Int) (w : World) :
    Calls Tryd.prog 28 #[.agg #[.int .i64 a, .int .i64 b]] w fun e w' => e = .returned (.agg #[.int .i64 a, .int .i64 b]) ∧ w' = ((w.alloc (.cells #[.int .i64 a, .int .i64 b] 46)).alloc (.cells #[.int .i64 a, .int .i64 b] 33)).alloc (.cells #[.int .i64 a, .int .i64 b] 33) := by
  go_enter Tryd.func28, Tryd.ntmps28
  go_wp2
  exact bodyPost_ret (v := .agg #[.int .i64 a, .int .i64 b]) (by simp [results, Tryd.results28, go_sem]) rfl ⟨rfl, rfl⟩
theorem laws_toSubscriberID_below (a b : Int) (w : World) :
    Calls Tryd.prog 28 #[.agg #[.int .i64 a, .int .i64 b]] w fun e w' => e = .returned (.agg #[.int .i64 a, .int .i64 b]) ∧ Below w.heap.size w w' :=
  (laws_toSubscriberID a b w).mono fun _ _ ⟨h1, h2⟩ => ⟨h1, h2 ▸ (by repeat (first | exact Below.refl _ _ | assumption | (refine Below.alloc ?_ (by simp <;> omega) _) | (refine below_drewN ?_ _) | (refine Below.setCell ?_ (by simp <;> omega) _)))⟩

theorem laws_toTempID (a b : Int) (w : World) :
    Calls Tryd.prog 25 #[.agg #[.int .i64 a, .int .i64 b]] w fun e w' => e = .returned (.agg #[.int .i64 a, .int .i64 b]) ∧ w' = ((w.alloc (.cells #[.int .i64 a, .int .i64 b] 41)).alloc (.cells #[.int .i64 a, .int .i64 b] 43)).alloc (.cells #[.int .i64 a, .int .i64 b] 43) := by
  go_enter Tryd.func25, Tryd.ntmps25
  go_wp2
  exact bodyPost_ret (v := .agg #[.int .i64 a, .int .i64 b]) (by simp [results, Tryd.results25, go_sem]) rfl ⟨rfl, rfl⟩
theorem laws_toTempID_below (a b : Int) (w : World) :
    Calls Tryd.prog 25 #[.agg #[.int .i64 a, .int .i64 b]] w fun e w' => e = .returned (.agg #[.int .i64 a, .int .i64 b]) ∧ Below w.heap.size w w' :=
  (laws_toTempID a b w).mono fun _ _ ⟨h1, h2⟩ => ⟨h1, h2 ▸ (by repeat (first | exact Below.refl _ _ | assumption | (refine Below.alloc ?_ (by simp <;> omega) _) | (refine below_drewN ?_ _) | (refine Below.setCell ?_ (by simp <;> omega) _)))⟩




theorem impl_IsValidSubscriberID (a b : Int) (w : World) :
    Calls Tryd.prog 22 #[.agg #[.int .i64 a, .int .i64 b]] w fun e w' => e = .returned (.bool (M.vSid a b)) ∧ w' = w.alloc (.cells #[.int .i64 a, .int .i64 b] 33) := by
  unfold M.vSid
  cases h1 : M.inR a 0 3 <;> cases h2 : M.inR b 0 99
  all_goals
    go_enter Tryd.func22, Tryd.ntmps22
    go_wp2_with (go_at_call 35; refine (impl_InRange _ _ _ _).mono ?_; rintro e w1 ⟨rfl, rfl⟩)
    go_ret
    exact ⟨rfl, rfl⟩





theorem spec_IsValidSubscriberID (a b : Int) (w : World) :
    Calls Tryd.prog 21 #[.agg #[.int .i64 a, .int .i64 b]] w fun e w' => e = .returned (.bool (M.vSid a b)) ∧ w' = w.alloc (.cells #[.int .i64 a, .int .i64 b] 33) := by
  unfold M.vSid
  cases h1 : M.inR a 0 3 <;> cases h2 : M.inR b 0 99
  all_goals
    go_enter Tryd.func21, Tryd.ntmps21
    go_wp2_with (go_at_call 40; refine (spec_l1In _ _ _ _).mono ?_; rintro e w1 ⟨rfl, rfl⟩)
    go_ret
    exact ⟨rfl, rfl⟩





end Go.Proofs.YtflpdapalfgodaaDoor
