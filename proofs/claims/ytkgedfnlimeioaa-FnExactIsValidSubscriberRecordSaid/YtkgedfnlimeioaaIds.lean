/-
  Contracts: identities, vectors, cards and records as structs by value: copies made field by field, and their validity tests. Each makes new blocks at most; the world behind each is written out.
-/
import Derived.Test.YtkgedfnlimeioaaArith
namespace Go.Proofs.Ytkgedfnlimeioaa
open Go.RowKit

theorem laws_toSubscriberID (a b : Int) (w : World) :
    Calls Try.prog 29 #[.agg #[.int .i64 a, .int .i64 b]] w fun e w' => e = .returned (.agg #[.int .i64 a, .int .i64 b]) ∧ w' = ((w.alloc (.cells #[.int .i64 a, .int .i64 b] 34)).alloc (.cells #[.int .i64 a, .int .i64 b] 36)).alloc (.cells #[.int .i64 a, .int .i64 b] 36) := by
  go_enter Try.func29, Try.ntmps29
  go_wp2
  exact bodyPost_ret (v := .agg #[.int .i64 a, .int .i64 b]) (by simp [results, Try.results29, go_sem]) rfl ⟨rfl, rfl⟩
theorem laws_toSubscriberID_below (a b : Int) (w : World) :
    Calls Try.prog 29 #[.agg #[.int .i64 a, .int .i64 b]] w fun e w' => e = .returned (.agg #[.int .i64 a, .int .i64 b]) ∧ Below w.heap.size w w' :=
  (laws_toSubscriberID a b w).mono fun _ _ ⟨h1, h2⟩ => ⟨h1, h2 ▸ (by repeat (first | exact Below.refl _ _ | assumption | (refine Below.alloc ?_ (by simp <;> omega) _) | (refine below_drewN ?_ _) | (refine Below.setCell ?_ (by simp <;> omega) _)))⟩

theorem laws_toTempID (a b : Int) (w : World) :
    Calls Try.prog 32 #[.agg #[.int .i64 a, .int .i64 b]] w fun e w' => e = .returned (.agg #[.int .i64 a, .int .i64 b]) ∧ w' = ((w.alloc (.cells #[.int .i64 a, .int .i64 b] 40)).alloc (.cells #[.int .i64 a, .int .i64 b] 42)).alloc (.cells #[.int .i64 a, .int .i64 b] 42) := by
  go_enter Try.func32, Try.ntmps32
  go_wp2
  exact bodyPost_ret (v := .agg #[.int .i64 a, .int .i64 b]) (by simp [results, Try.results32, go_sem]) rfl ⟨rfl, rfl⟩
theorem laws_toTempID_below (a b : Int) (w : World) :
    Calls Try.prog 32 #[.agg #[.int .i64 a, .int .i64 b]] w fun e w' => e = .returned (.agg #[.int .i64 a, .int .i64 b]) ∧ Below w.heap.size w w' :=
  (laws_toTempID a b w).mono fun _ _ ⟨h1, h2⟩ => ⟨h1, h2 ▸ (by repeat (first | exact Below.refl _ _ | assumption | (refine Below.alloc ?_ (by simp <;> omega) _) | (refine below_drewN ?_ _) | (refine Below.setCell ?_ (by simp <;> omega) _)))⟩

theorem laws_toAuthVector (a b c x y : Int) (w : World) :
    Calls Try.prog 24 #[.agg #[.int .i64 a, .int .i64 b, .int .i64 c, .int .i64 x, .int .i64 y]] w fun e w' => e = .returned (.agg #[.int .i64 a, .int .i64 b, .int .i64 c, .int .i64 x, .int .i64 y]) ∧ w' = ((w.alloc (.cells #[.int .i64 a, .int .i64 b, .int .i64 c, .int .i64 x, .int .i64 y] 28)).alloc (.cells #[.int .i64 a, .int .i64 b, .int .i64 c, .int .i64 x, .int .i64 y] 30)).alloc (.cells #[.int .i64 a, .int .i64 b, .int .i64 c, .int .i64 x, .int .i64 y] 30) := by
  go_enter Try.func24, Try.ntmps24
  go_wp2
  exact bodyPost_ret (v := .agg #[.int .i64 a, .int .i64 b, .int .i64 c, .int .i64 x, .int .i64 y]) (by simp [results, Try.results24, go_sem]) rfl ⟨rfl, rfl⟩
theorem laws_toAuthVector_below (a b c x y : Int) (w : World) :
    Calls Try.prog 24 #[.agg #[.int .i64 a, .int .i64 b, .int .i64 c, .int .i64 x, .int .i64 y]] w fun e w' => e = .returned (.agg #[.int .i64 a, .int .i64 b, .int .i64 c, .int .i64 x, .int .i64 y]) ∧ Below w.heap.size w w' :=
  (laws_toAuthVector a b c x y w).mono fun _ _ ⟨h1, h2⟩ => ⟨h1, h2 ▸ (by repeat (first | exact Below.refl _ _ | assumption | (refine Below.alloc ?_ (by simp <;> omega) _) | (refine below_drewN ?_ _) | (refine Below.setCell ?_ (by simp <;> omega) _)))⟩

theorem laws_toUSIM (a b c x : Int) (w : World) :
    Calls Try.prog 40 #[.agg #[.int .i64 a, .int .i64 b, .int .i64 c, .int .i64 x]] w fun e w' => e = .returned (.agg #[.int .i64 a, .int .i64 b, .int .i64 c, .int .i64 x]) ∧ w' = (((((w.alloc (.cells #[.int .i64 a, .int .i64 b, .int .i64 c, .int .i64 x] 53)).alloc (.cells #[.int .i64 a, .int .i64 b, .int .i64 c, .int .i64 x] 56)).alloc (.cells #[.int .i64 a, .int .i64 b, .int .i64 c, .int .i64 x] 56)).alloc (.cells #[.int .i64 a, .int .i64 b] 34)).alloc (.cells #[.int .i64 a, .int .i64 b] 36)).alloc (.cells #[.int .i64 a, .int .i64 b] 36) := by
  go_enter Try.func40, Try.ntmps40
  go_wp2_with (go_at_call 29; refine (laws_toSubscriberID _ _ _).mono ?_; rintro e w1 ⟨rfl, rfl⟩)
  exact bodyPost_ret (v := .agg #[.int .i64 a, .int .i64 b, .int .i64 c, .int .i64 x]) (by simp [results, Try.results40, go_sem]) rfl ⟨rfl, rfl⟩
theorem laws_toUSIM_below (a b c x : Int) (w : World) :
    Calls Try.prog 40 #[.agg #[.int .i64 a, .int .i64 b, .int .i64 c, .int .i64 x]] w fun e w' => e = .returned (.agg #[.int .i64 a, .int .i64 b, .int .i64 c, .int .i64 x]) ∧ Below w.heap.size w w' :=
  (laws_toUSIM a b c x w).mono fun _ _ ⟨h1, h2⟩ => ⟨h1, h2 ▸ (by repeat (first | exact Below.refl _ _ | assumption | (refine Below.alloc ?_ (by simp <;> omega) _) | (refine below_drewN ?_ _) | (refine Below.setCell ?_ (by simp <;> omega) _)))⟩

theorem laws_toSubscriberRecord (a b c x : Int) (w : World) :
    Calls Try.prog 37 #[.agg #[.int .i64 a, .int .i64 b, .int .i64 c, .int .i64 x]] w fun e w' => e = .returned (.agg #[.int .i64 a, .int .i64 b, .int .i64 c, .int .i64 x]) ∧ w' = (((((w.alloc (.cells #[.int .i64 a, .int .i64 b, .int .i64 c, .int .i64 x] 46)).alloc (.cells #[.int .i64 a, .int .i64 b, .int .i64 c, .int .i64 x] 49)).alloc (.cells #[.int .i64 a, .int .i64 b, .int .i64 c, .int .i64 x] 49)).alloc (.cells #[.int .i64 a, .int .i64 b] 34)).alloc (.cells #[.int .i64 a, .int .i64 b] 36)).alloc (.cells #[.int .i64 a, .int .i64 b] 36) := by
  go_enter Try.func37, Try.ntmps37
  go_wp2_with (go_at_call 29; refine (laws_toSubscriberID _ _ _).mono ?_; rintro e w1 ⟨rfl, rfl⟩)
  exact bodyPost_ret (v := .agg #[.int .i64 a, .int .i64 b, .int .i64 c, .int .i64 x]) (by simp [results, Try.results37, go_sem]) rfl ⟨rfl, rfl⟩
theorem laws_toSubscriberRecord_below (a b c x : Int) (w : World) :
    Calls Try.prog 37 #[.agg #[.int .i64 a, .int .i64 b, .int .i64 c, .int .i64 x]] w fun e w' => e = .returned (.agg #[.int .i64 a, .int .i64 b, .int .i64 c, .int .i64 x]) ∧ Below w.heap.size w w' :=
  (laws_toSubscriberRecord a b c x w).mono fun _ _ ⟨h1, h2⟩ => ⟨h1, h2 ▸ (by repeat (first | exact Below.refl _ _ | assumption | (refine Below.alloc ?_ (by simp <;> omega) _) | (refine below_drewN ?_ _) | (refine Below.setCell ?_ (by simp <;> omega) _)))⟩

theorem impl_IsValidSubscriberID (a b : Int) (w : World) :
    Calls Try.prog 30 #[.agg #[.int .i64 a, .int .i64 b]] w fun e w' => e = .returned (.bool (M.vSid a b)) ∧ w' = w.alloc (.cells #[.int .i64 a, .int .i64 b] 36) := by
  unfold M.vSid
  cases h1 : M.inR a 0 3 <;> cases h2 : M.inR b 0 99
  all_goals
    go_enter Try.func30, Try.ntmps30
    go_wp2_with (go_at_call 16; refine (impl_InRange _ _ _ _).mono ?_; rintro e w1 ⟨rfl, rfl⟩)
    go_ret
    exact ⟨rfl, rfl⟩

theorem impl_IsValidTempID (a b : Int) (w : World) :
    Calls Try.prog 33 #[.agg #[.int .i64 a, .int .i64 b]] w fun e w' => e = .returned (.bool (M.vTid a b)) ∧ w' = w.alloc (.cells #[.int .i64 a, .int .i64 b] 42) := by
  unfold M.vTid
  cases h1 : M.inR a 0 3 <;> cases h2 : M.inR b 0 9999
  all_goals
    go_enter Try.func33, Try.ntmps33
    go_wp2_with (go_at_call 16; refine (impl_InRange _ _ _ _).mono ?_; rintro e w1 ⟨rfl, rfl⟩)
    go_ret
    exact ⟨rfl, rfl⟩

theorem impl_IsValidUSIM (a b c x : Int) (w : World) :
    Calls Try.prog 41 #[.agg #[.int .i64 a, .int .i64 b, .int .i64 c, .int .i64 x]] w fun e w' => e = .returned (.bool (M.vCard a b c x)) ∧ w' = (w.alloc (.cells #[.int .i64 a, .int .i64 b, .int .i64 c, .int .i64 x] 56)).alloc (.cells #[.int .i64 a, .int .i64 b] 36) := by
  unfold M.vCard
  cases h1 : M.vSid a b <;> cases h2 : M.inR c 1 2147483646 <;> cases h3 : M.inR x 0 999999
  all_goals
    go_enter Try.func41, Try.ntmps41
    go_wp2_with (first
      | (go_at_call 30; refine (impl_IsValidSubscriberID _ _ _).mono ?_; rintro e w1 ⟨rfl, rfl⟩)
      | (go_at_call 18; refine (impl_IsValidKey _ _).mono ?_; rintro e w1 ⟨rfl, rfl⟩)
      | (go_at_call 16; refine (impl_InRange _ _ _ _).mono ?_; rintro e w1 ⟨rfl, rfl⟩))
    go_ret
    exact ⟨rfl, rfl⟩

theorem impl_IsValidSubscriberRecord (a b c x : Int) (w : World) :
    Calls Try.prog 38 #[.agg #[.int .i64 a, .int .i64 b, .int .i64 c, .int .i64 x]] w fun e w' => e = .returned (.bool (M.vCard a b c x)) ∧ w' = (w.alloc (.cells #[.int .i64 a, .int .i64 b, .int .i64 c, .int .i64 x] 49)).alloc (.cells #[.int .i64 a, .int .i64 b] 36) := by
  unfold M.vCard
  cases h1 : M.vSid a b <;> cases h2 : M.inR c 1 2147483646 <;> cases h3 : M.inR x 0 999999
  all_goals
    go_enter Try.func38, Try.ntmps38
    go_wp2_with (first
      | (go_at_call 30; refine (impl_IsValidSubscriberID _ _ _).mono ?_; rintro e w1 ⟨rfl, rfl⟩)
      | (go_at_call 18; refine (impl_IsValidKey _ _).mono ?_; rintro e w1 ⟨rfl, rfl⟩)
      | (go_at_call 16; refine (impl_InRange _ _ _ _).mono ?_; rintro e w1 ⟨rfl, rfl⟩))
    go_ret
    exact ⟨rfl, rfl⟩

theorem impl_ResponseMatches (a b c x y r : Int) (w : World) :
    Calls Try.prog 25 #[.agg #[.int .i64 a, .int .i64 b, .int .i64 c, .int .i64 x, .int .i64 y], .int .i64 r] w fun e w' => e = .returned (.bool (r == x)) ∧ w' = w.alloc (.cells #[.int .i64 a, .int .i64 b, .int .i64 c, .int .i64 x, .int .i64 y] 30) := by
  go_enter Try.func25, Try.ntmps25
  go_wp2
  go_ret
  exact ⟨rfl, rfl⟩

theorem spec_IsValidSubscriberID (a b : Int) (w : World) :
    Calls Try.prog 28 #[.agg #[.int .i64 a, .int .i64 b]] w fun e w' => e = .returned (.bool (M.vSid a b)) ∧ w' = w.alloc (.cells #[.int .i64 a, .int .i64 b] 36) := by
  unfold M.vSid
  cases h1 : M.inR a 0 3 <;> cases h2 : M.inR b 0 99
  all_goals
    go_enter Try.func28, Try.ntmps28
    go_wp2_with (go_at_call 42; refine (spec_l1In _ _ _ _).mono ?_; rintro e w1 ⟨rfl, rfl⟩)
    go_ret
    exact ⟨rfl, rfl⟩

theorem spec_IsValidTempID (a b : Int) (w : World) :
    Calls Try.prog 31 #[.agg #[.int .i64 a, .int .i64 b]] w fun e w' => e = .returned (.bool (M.vTid a b)) ∧ w' = w.alloc (.cells #[.int .i64 a, .int .i64 b] 42) := by
  unfold M.vTid
  cases h1 : M.inR a 0 3 <;> cases h2 : M.inR b 0 9999
  all_goals
    go_enter Try.func31, Try.ntmps31
    go_wp2_with (go_at_call 42; refine (spec_l1In _ _ _ _).mono ?_; rintro e w1 ⟨rfl, rfl⟩)
    go_ret
    exact ⟨rfl, rfl⟩

theorem spec_IsValidUSIM (a b c x : Int) (w : World) :
    Calls Try.prog 39 #[.agg #[.int .i64 a, .int .i64 b, .int .i64 c, .int .i64 x]] w fun e w' => e = .returned (.bool (M.vCard a b c x)) ∧ w' = (w.alloc (.cells #[.int .i64 a, .int .i64 b, .int .i64 c, .int .i64 x] 56)).alloc (.cells #[.int .i64 a, .int .i64 b] 36) := by
  unfold M.vCard
  cases h1 : M.vSid a b <;> cases h2 : M.inR c 1 2147483646 <;> cases h3 : M.inR x 0 999999
  all_goals
    go_enter Try.func39, Try.ntmps39
    go_wp2_with (first
      | (go_at_call 28; refine (spec_IsValidSubscriberID _ _ _).mono ?_; rintro e w1 ⟨rfl, rfl⟩)
      | (go_at_call 17; refine (spec_IsValidKey _ _).mono ?_; rintro e w1 ⟨rfl, rfl⟩)
      | (go_at_call 42; refine (spec_l1In _ _ _ _).mono ?_; rintro e w1 ⟨rfl, rfl⟩))
    go_ret
    exact ⟨rfl, rfl⟩

theorem spec_IsValidSubscriberRecord (a b c x : Int) (w : World) :
    Calls Try.prog 36 #[.agg #[.int .i64 a, .int .i64 b, .int .i64 c, .int .i64 x]] w fun e w' => e = .returned (.bool (M.vCard a b c x)) ∧ w' = (w.alloc (.cells #[.int .i64 a, .int .i64 b, .int .i64 c, .int .i64 x] 49)).alloc (.cells #[.int .i64 a, .int .i64 b] 36) := by
  unfold M.vCard
  cases h1 : M.vSid a b <;> cases h2 : M.inR c 1 2147483646 <;> cases h3 : M.inR x 0 999999
  all_goals
    go_enter Try.func36, Try.ntmps36
    go_wp2_with (first
      | (go_at_call 28; refine (spec_IsValidSubscriberID _ _ _).mono ?_; rintro e w1 ⟨rfl, rfl⟩)
      | (go_at_call 17; refine (spec_IsValidKey _ _).mono ?_; rintro e w1 ⟨rfl, rfl⟩)
      | (go_at_call 42; refine (spec_l1In _ _ _ _).mono ?_; rintro e w1 ⟨rfl, rfl⟩))
    go_ret
    exact ⟨rfl, rfl⟩

theorem spec_ResponseMatches (a b c x y r : Int) (w : World) :
    Calls Try.prog 23 #[.agg #[.int .i64 a, .int .i64 b, .int .i64 c, .int .i64 x, .int .i64 y], .int .i64 r] w fun e w' => e = .returned (.bool (r == x)) ∧ w' = w.alloc (.cells #[.int .i64 a, .int .i64 b, .int .i64 c, .int .i64 x, .int .i64 y] 30) := by
  go_enter Try.func23, Try.ntmps23
  go_wp2
  go_ret
  exact ⟨rfl, rfl⟩

end Go.Proofs.Ytkgedfnlimeioaa
