/-
  Contracts: identities, vectors, cards and records as structs by value: copies made field by field, and their validity tests. Each makes new blocks at most; the world behind each is written out.
-/
import Derived.Test.YtikpnnblfhabjaaArith
namespace Go.Proofs.Ytikpnnblfhabjaa
open Go.RowKit

theorem laws_toSubscriberID (a b : Int) (w : World) :
    Calls Try.prog 46 #[.agg #[.int .i64 a, .int .i64 b]] w fun e w' => e = .returned (.agg #[.int .i64 a, .int .i64 b]) ∧ w' = ((w.alloc (.cells #[.int .i64 a, .int .i64 b] 27)).alloc (.cells #[.int .i64 a, .int .i64 b] 33)).alloc (.cells #[.int .i64 a, .int .i64 b] 33) := by
  go_enter Try.func46, Try.ntmps46
  go_wp2
  exact bodyPost_ret (v := .agg #[.int .i64 a, .int .i64 b]) (by simp [results, Try.results46, go_sem]) rfl ⟨rfl, rfl⟩
theorem laws_toSubscriberID_below (a b : Int) (w : World) :
    Calls Try.prog 46 #[.agg #[.int .i64 a, .int .i64 b]] w fun e w' => e = .returned (.agg #[.int .i64 a, .int .i64 b]) ∧ Below w.heap.size w w' :=
  (laws_toSubscriberID a b w).mono fun _ _ ⟨h1, h2⟩ => ⟨h1, h2 ▸ (by repeat (first | exact Below.refl _ _ | assumption | (refine Below.alloc ?_ (by simp <;> omega) _) | (refine below_drewN ?_ _) | (refine Below.setCell ?_ (by simp <;> omega) _)))⟩


theorem laws_toAuthVector (a b c x y : Int) (w : World) :
    Calls Try.prog 26 #[.agg #[.int .i64 a, .int .i64 b, .int .i64 c, .int .i64 x, .int .i64 y]] w fun e w' => e = .returned (.agg #[.int .i64 a, .int .i64 b, .int .i64 c, .int .i64 x, .int .i64 y]) ∧ w' = ((w.alloc (.cells #[.int .i64 a, .int .i64 b, .int .i64 c, .int .i64 x, .int .i64 y] 44)).alloc (.cells #[.int .i64 a, .int .i64 b, .int .i64 c, .int .i64 x, .int .i64 y] 46)).alloc (.cells #[.int .i64 a, .int .i64 b, .int .i64 c, .int .i64 x, .int .i64 y] 46) := by
  go_enter Try.func26, Try.ntmps26
  go_wp2
  exact bodyPost_ret (v := .agg #[.int .i64 a, .int .i64 b, .int .i64 c, .int .i64 x, .int .i64 y]) (by simp [results, Try.results26, go_sem]) rfl ⟨rfl, rfl⟩
theorem laws_toAuthVector_below (a b c x y : Int) (w : World) :
    Calls Try.prog 26 #[.agg #[.int .i64 a, .int .i64 b, .int .i64 c, .int .i64 x, .int .i64 y]] w fun e w' => e = .returned (.agg #[.int .i64 a, .int .i64 b, .int .i64 c, .int .i64 x, .int .i64 y]) ∧ Below w.heap.size w w' :=
  (laws_toAuthVector a b c x y w).mono fun _ _ ⟨h1, h2⟩ => ⟨h1, h2 ▸ (by repeat (first | exact Below.refl _ _ | assumption | (refine Below.alloc ?_ (by simp <;> omega) _) | (refine below_drewN ?_ _) | (refine Below.setCell ?_ (by simp <;> omega) _)))⟩

theorem laws_toUSIM (a b c x : Int) (w : World) :
    Calls Try.prog 20 #[.agg #[.int .i64 a, .int .i64 b, .int .i64 c, .int .i64 x]] w fun e w' => e = .returned (.agg #[.int .i64 a, .int .i64 b, .int .i64 c, .int .i64 x]) ∧ w' = (((((w.alloc (.cells #[.int .i64 a, .int .i64 b, .int .i64 c, .int .i64 x] 29)).alloc (.cells #[.int .i64 a, .int .i64 b, .int .i64 c, .int .i64 x] 35)).alloc (.cells #[.int .i64 a, .int .i64 b, .int .i64 c, .int .i64 x] 35)).alloc (.cells #[.int .i64 a, .int .i64 b] 27)).alloc (.cells #[.int .i64 a, .int .i64 b] 33)).alloc (.cells #[.int .i64 a, .int .i64 b] 33) := by
  go_enter Try.func20, Try.ntmps20
  go_wp2_with (go_at_call 46; refine (laws_toSubscriberID _ _ _).mono ?_; rintro e w1 ⟨rfl, rfl⟩)
  exact bodyPost_ret (v := .agg #[.int .i64 a, .int .i64 b, .int .i64 c, .int .i64 x]) (by simp [results, Try.results20, go_sem]) rfl ⟨rfl, rfl⟩
theorem laws_toUSIM_below (a b c x : Int) (w : World) :
    Calls Try.prog 20 #[.agg #[.int .i64 a, .int .i64 b, .int .i64 c, .int .i64 x]] w fun e w' => e = .returned (.agg #[.int .i64 a, .int .i64 b, .int .i64 c, .int .i64 x]) ∧ Below w.heap.size w w' :=
  (laws_toUSIM a b c x w).mono fun _ _ ⟨h1, h2⟩ => ⟨h1, h2 ▸ (by repeat (first | exact Below.refl _ _ | assumption | (refine Below.alloc ?_ (by simp <;> omega) _) | (refine below_drewN ?_ _) | (refine Below.setCell ?_ (by simp <;> omega) _)))⟩

theorem laws_toSubscriberRecord (a b c x : Int) (w : World) :
    Calls Try.prog 21 #[.agg #[.int .i64 a, .int .i64 b, .int .i64 c, .int .i64 x]] w fun e w' => e = .returned (.agg #[.int .i64 a, .int .i64 b, .int .i64 c, .int .i64 x]) ∧ w' = (((((w.alloc (.cells #[.int .i64 a, .int .i64 b, .int .i64 c, .int .i64 x] 31)).alloc (.cells #[.int .i64 a, .int .i64 b, .int .i64 c, .int .i64 x] 38)).alloc (.cells #[.int .i64 a, .int .i64 b, .int .i64 c, .int .i64 x] 38)).alloc (.cells #[.int .i64 a, .int .i64 b] 27)).alloc (.cells #[.int .i64 a, .int .i64 b] 33)).alloc (.cells #[.int .i64 a, .int .i64 b] 33) := by
  go_enter Try.func21, Try.ntmps21
  go_wp2_with (go_at_call 46; refine (laws_toSubscriberID _ _ _).mono ?_; rintro e w1 ⟨rfl, rfl⟩)
  exact bodyPost_ret (v := .agg #[.int .i64 a, .int .i64 b, .int .i64 c, .int .i64 x]) (by simp [results, Try.results21, go_sem]) rfl ⟨rfl, rfl⟩
theorem laws_toSubscriberRecord_below (a b c x : Int) (w : World) :
    Calls Try.prog 21 #[.agg #[.int .i64 a, .int .i64 b, .int .i64 c, .int .i64 x]] w fun e w' => e = .returned (.agg #[.int .i64 a, .int .i64 b, .int .i64 c, .int .i64 x]) ∧ Below w.heap.size w w' :=
  (laws_toSubscriberRecord a b c x w).mono fun _ _ ⟨h1, h2⟩ => ⟨h1, h2 ▸ (by repeat (first | exact Below.refl _ _ | assumption | (refine Below.alloc ?_ (by simp <;> omega) _) | (refine below_drewN ?_ _) | (refine Below.setCell ?_ (by simp <;> omega) _)))⟩

theorem impl_IsValidSubscriberID (a b : Int) (w : World) :
    Calls Try.prog 59 #[.agg #[.int .i64 a, .int .i64 b]] w fun e w' => e = .returned (.bool (M.vSid a b)) ∧ w' = w.alloc (.cells #[.int .i64 a, .int .i64 b] 33) := by
  unfold M.vSid
  cases h1 : M.inR a 0 3 <;> cases h2 : M.inR b 0 99
  all_goals
    go_enter Try.func59, Try.ntmps59
    go_wp2_with (go_at_call 43; refine (impl_InRange _ _ _ _).mono ?_; rintro e w1 ⟨rfl, rfl⟩)
    go_ret
    exact ⟨rfl, rfl⟩


theorem impl_IsValidUSIM (a b c x : Int) (w : World) :
    Calls Try.prog 47 #[.agg #[.int .i64 a, .int .i64 b, .int .i64 c, .int .i64 x]] w fun e w' => e = .returned (.bool (M.vCard a b c x)) ∧ w' = (w.alloc (.cells #[.int .i64 a, .int .i64 b, .int .i64 c, .int .i64 x] 35)).alloc (.cells #[.int .i64 a, .int .i64 b] 33) := by
  unfold M.vCard
  cases h1 : M.vSid a b <;> cases h2 : M.inR c 1 2147483646 <;> cases h3 : M.inR x 0 999999
  all_goals
    go_enter Try.func47, Try.ntmps47
    go_wp2_with (first
      | (go_at_call 59; refine (impl_IsValidSubscriberID _ _ _).mono ?_; rintro e w1 ⟨rfl, rfl⟩)
      | (go_at_call 60; refine (impl_IsValidKey _ _).mono ?_; rintro e w1 ⟨rfl, rfl⟩)
      | (go_at_call 43; refine (impl_InRange _ _ _ _).mono ?_; rintro e w1 ⟨rfl, rfl⟩))
    go_ret
    exact ⟨rfl, rfl⟩

theorem impl_IsValidSubscriberRecord (a b c x : Int) (w : World) :
    Calls Try.prog 48 #[.agg #[.int .i64 a, .int .i64 b, .int .i64 c, .int .i64 x]] w fun e w' => e = .returned (.bool (M.vCard a b c x)) ∧ w' = (w.alloc (.cells #[.int .i64 a, .int .i64 b, .int .i64 c, .int .i64 x] 38)).alloc (.cells #[.int .i64 a, .int .i64 b] 33) := by
  unfold M.vCard
  cases h1 : M.vSid a b <;> cases h2 : M.inR c 1 2147483646 <;> cases h3 : M.inR x 0 999999
  all_goals
    go_enter Try.func48, Try.ntmps48
    go_wp2_with (first
      | (go_at_call 59; refine (impl_IsValidSubscriberID _ _ _).mono ?_; rintro e w1 ⟨rfl, rfl⟩)
      | (go_at_call 60; refine (impl_IsValidKey _ _).mono ?_; rintro e w1 ⟨rfl, rfl⟩)
      | (go_at_call 43; refine (impl_InRange _ _ _ _).mono ?_; rintro e w1 ⟨rfl, rfl⟩))
    go_ret
    exact ⟨rfl, rfl⟩


theorem spec_IsValidSubscriberID (a b : Int) (w : World) :
    Calls Try.prog 57 #[.agg #[.int .i64 a, .int .i64 b]] w fun e w' => e = .returned (.bool (M.vSid a b)) ∧ w' = w.alloc (.cells #[.int .i64 a, .int .i64 b] 33) := by
  unfold M.vSid
  cases h1 : M.inR a 0 3 <;> cases h2 : M.inR b 0 99
  all_goals
    go_enter Try.func57, Try.ntmps57
    go_wp2_with (go_at_call 42; refine (spec_l1In _ _ _ _).mono ?_; rintro e w1 ⟨rfl, rfl⟩)
    go_ret
    exact ⟨rfl, rfl⟩


theorem spec_IsValidUSIM (a b c x : Int) (w : World) :
    Calls Try.prog 44 #[.agg #[.int .i64 a, .int .i64 b, .int .i64 c, .int .i64 x]] w fun e w' => e = .returned (.bool (M.vCard a b c x)) ∧ w' = (w.alloc (.cells #[.int .i64 a, .int .i64 b, .int .i64 c, .int .i64 x] 35)).alloc (.cells #[.int .i64 a, .int .i64 b] 33) := by
  unfold M.vCard
  cases h1 : M.vSid a b <;> cases h2 : M.inR c 1 2147483646 <;> cases h3 : M.inR x 0 999999
  all_goals
    go_enter Try.func44, Try.ntmps44
    go_wp2_with (first
      | (go_at_call 57; refine (spec_IsValidSubscriberID _ _ _).mono ?_; rintro e w1 ⟨rfl, rfl⟩)
      | (go_at_call 58; refine (spec_IsValidKey _ _).mono ?_; rintro e w1 ⟨rfl, rfl⟩)
      | (go_at_call 42; refine (spec_l1In _ _ _ _).mono ?_; rintro e w1 ⟨rfl, rfl⟩))
    go_ret
    exact ⟨rfl, rfl⟩

theorem spec_IsValidSubscriberRecord (a b c x : Int) (w : World) :
    Calls Try.prog 45 #[.agg #[.int .i64 a, .int .i64 b, .int .i64 c, .int .i64 x]] w fun e w' => e = .returned (.bool (M.vCard a b c x)) ∧ w' = (w.alloc (.cells #[.int .i64 a, .int .i64 b, .int .i64 c, .int .i64 x] 38)).alloc (.cells #[.int .i64 a, .int .i64 b] 33) := by
  unfold M.vCard
  cases h1 : M.vSid a b <;> cases h2 : M.inR c 1 2147483646 <;> cases h3 : M.inR x 0 999999
  all_goals
    go_enter Try.func45, Try.ntmps45
    go_wp2_with (first
      | (go_at_call 57; refine (spec_IsValidSubscriberID _ _ _).mono ?_; rintro e w1 ⟨rfl, rfl⟩)
      | (go_at_call 58; refine (spec_IsValidKey _ _).mono ?_; rintro e w1 ⟨rfl, rfl⟩)
      | (go_at_call 42; refine (spec_l1In _ _ _ _).mono ?_; rintro e w1 ⟨rfl, rfl⟩))
    go_ret
    exact ⟨rfl, rfl⟩


end Go.Proofs.Ytikpnnblfhabjaa
