/-
  Contracts: identities, vectors, cards and records as structs by value: copies made field by field, and their validity tests. Each makes new blocks at most; the world behind each is written out.
-/
import Derived.Test.YtfenmicakmjelaaArith
namespace Go.Proofs.Ytfenmicakmjelaa
open Go.RowKit

theorem laws_toSubscriberID (a b : Int) (w : World) :
    Calls Try.prog 38 #[.agg #[.int .i64 a, .int .i64 b]] w fun e w' => e = .returned (.agg #[.int .i64 a, .int .i64 b]) ∧ w' = ((w.alloc (.cells #[.int .i64 a, .int .i64 b] 23)).alloc (.cells #[.int .i64 a, .int .i64 b] 28)).alloc (.cells #[.int .i64 a, .int .i64 b] 28) := by
  go_enter Try.func38, Try.ntmps38
  go_wp2
  exact bodyPost_ret (v := .agg #[.int .i64 a, .int .i64 b]) (by simp [results, Try.results38, go_sem]) rfl ⟨rfl, rfl⟩
theorem laws_toSubscriberID_below (a b : Int) (w : World) :
    Calls Try.prog 38 #[.agg #[.int .i64 a, .int .i64 b]] w fun e w' => e = .returned (.agg #[.int .i64 a, .int .i64 b]) ∧ Below w.heap.size w w' :=
  (laws_toSubscriberID a b w).mono fun _ _ ⟨h1, h2⟩ => ⟨h1, h2 ▸ (by repeat (first | exact Below.refl _ _ | assumption | (refine Below.alloc ?_ (by simp <;> omega) _) | (refine below_drewN ?_ _) | (refine Below.setCell ?_ (by simp <;> omega) _)))⟩


theorem laws_toAuthVector (a b c x y : Int) (w : World) :
    Calls Try.prog 30 #[.agg #[.int .i64 a, .int .i64 b, .int .i64 c, .int .i64 x, .int .i64 y]] w fun e w' => e = .returned (.agg #[.int .i64 a, .int .i64 b, .int .i64 c, .int .i64 x, .int .i64 y]) ∧ w' = ((w.alloc (.cells #[.int .i64 a, .int .i64 b, .int .i64 c, .int .i64 x, .int .i64 y] 59)).alloc (.cells #[.int .i64 a, .int .i64 b, .int .i64 c, .int .i64 x, .int .i64 y] 45)).alloc (.cells #[.int .i64 a, .int .i64 b, .int .i64 c, .int .i64 x, .int .i64 y] 45) := by
  go_enter Try.func30, Try.ntmps30
  go_wp2
  exact bodyPost_ret (v := .agg #[.int .i64 a, .int .i64 b, .int .i64 c, .int .i64 x, .int .i64 y]) (by simp [results, Try.results30, go_sem]) rfl ⟨rfl, rfl⟩
theorem laws_toAuthVector_below (a b c x y : Int) (w : World) :
    Calls Try.prog 30 #[.agg #[.int .i64 a, .int .i64 b, .int .i64 c, .int .i64 x, .int .i64 y]] w fun e w' => e = .returned (.agg #[.int .i64 a, .int .i64 b, .int .i64 c, .int .i64 x, .int .i64 y]) ∧ Below w.heap.size w w' :=
  (laws_toAuthVector a b c x y w).mono fun _ _ ⟨h1, h2⟩ => ⟨h1, h2 ▸ (by repeat (first | exact Below.refl _ _ | assumption | (refine Below.alloc ?_ (by simp <;> omega) _) | (refine below_drewN ?_ _) | (refine Below.setCell ?_ (by simp <;> omega) _)))⟩

theorem laws_toUSIM (a b c x : Int) (w : World) :
    Calls Try.prog 9 #[.agg #[.int .i64 a, .int .i64 b, .int .i64 c, .int .i64 x]] w fun e w' => e = .returned (.agg #[.int .i64 a, .int .i64 b, .int .i64 c, .int .i64 x]) ∧ w' = (((((w.alloc (.cells #[.int .i64 a, .int .i64 b, .int .i64 c, .int .i64 x] 25)).alloc (.cells #[.int .i64 a, .int .i64 b, .int .i64 c, .int .i64 x] 30)).alloc (.cells #[.int .i64 a, .int .i64 b, .int .i64 c, .int .i64 x] 30)).alloc (.cells #[.int .i64 a, .int .i64 b] 23)).alloc (.cells #[.int .i64 a, .int .i64 b] 28)).alloc (.cells #[.int .i64 a, .int .i64 b] 28) := by
  go_enter Try.func9, Try.ntmps9
  go_wp2_with (go_at_call 38; refine (laws_toSubscriberID _ _ _).mono ?_; rintro e w1 ⟨rfl, rfl⟩)
  exact bodyPost_ret (v := .agg #[.int .i64 a, .int .i64 b, .int .i64 c, .int .i64 x]) (by simp [results, Try.results9, go_sem]) rfl ⟨rfl, rfl⟩
theorem laws_toUSIM_below (a b c x : Int) (w : World) :
    Calls Try.prog 9 #[.agg #[.int .i64 a, .int .i64 b, .int .i64 c, .int .i64 x]] w fun e w' => e = .returned (.agg #[.int .i64 a, .int .i64 b, .int .i64 c, .int .i64 x]) ∧ Below w.heap.size w w' :=
  (laws_toUSIM a b c x w).mono fun _ _ ⟨h1, h2⟩ => ⟨h1, h2 ▸ (by repeat (first | exact Below.refl _ _ | assumption | (refine Below.alloc ?_ (by simp <;> omega) _) | (refine below_drewN ?_ _) | (refine Below.setCell ?_ (by simp <;> omega) _)))⟩

theorem laws_toSubscriberRecord (a b c x : Int) (w : World) :
    Calls Try.prog 10 #[.agg #[.int .i64 a, .int .i64 b, .int .i64 c, .int .i64 x]] w fun e w' => e = .returned (.agg #[.int .i64 a, .int .i64 b, .int .i64 c, .int .i64 x]) ∧ w' = (((((w.alloc (.cells #[.int .i64 a, .int .i64 b, .int .i64 c, .int .i64 x] 27)).alloc (.cells #[.int .i64 a, .int .i64 b, .int .i64 c, .int .i64 x] 32)).alloc (.cells #[.int .i64 a, .int .i64 b, .int .i64 c, .int .i64 x] 32)).alloc (.cells #[.int .i64 a, .int .i64 b] 23)).alloc (.cells #[.int .i64 a, .int .i64 b] 28)).alloc (.cells #[.int .i64 a, .int .i64 b] 28) := by
  go_enter Try.func10, Try.ntmps10
  go_wp2_with (go_at_call 38; refine (laws_toSubscriberID _ _ _).mono ?_; rintro e w1 ⟨rfl, rfl⟩)
  exact bodyPost_ret (v := .agg #[.int .i64 a, .int .i64 b, .int .i64 c, .int .i64 x]) (by simp [results, Try.results10, go_sem]) rfl ⟨rfl, rfl⟩
theorem laws_toSubscriberRecord_below (a b c x : Int) (w : World) :
    Calls Try.prog 10 #[.agg #[.int .i64 a, .int .i64 b, .int .i64 c, .int .i64 x]] w fun e w' => e = .returned (.agg #[.int .i64 a, .int .i64 b, .int .i64 c, .int .i64 x]) ∧ Below w.heap.size w w' :=
  (laws_toSubscriberRecord a b c x w).mono fun _ _ ⟨h1, h2⟩ => ⟨h1, h2 ▸ (by repeat (first | exact Below.refl _ _ | assumption | (refine Below.alloc ?_ (by simp <;> omega) _) | (refine below_drewN ?_ _) | (refine Below.setCell ?_ (by simp <;> omega) _)))⟩

theorem impl_IsValidSubscriberID (a b : Int) (w : World) :
    Calls Try.prog 54 #[.agg #[.int .i64 a, .int .i64 b]] w fun e w' => e = .returned (.bool (M.vSid a b)) ∧ w' = w.alloc (.cells #[.int .i64 a, .int .i64 b] 28) := by
  unfold M.vSid
  cases h1 : M.inR a 0 3 <;> cases h2 : M.inR b 0 99
  all_goals
    go_enter Try.func54, Try.ntmps54
    go_wp2_with (go_at_call 45; refine (impl_InRange _ _ _ _).mono ?_; rintro e w1 ⟨rfl, rfl⟩)
    go_ret
    exact ⟨rfl, rfl⟩


theorem impl_IsValidUSIM (a b c x : Int) (w : World) :
    Calls Try.prog 25 #[.agg #[.int .i64 a, .int .i64 b, .int .i64 c, .int .i64 x]] w fun e w' => e = .returned (.bool (M.vCard a b c x)) ∧ w' = (w.alloc (.cells #[.int .i64 a, .int .i64 b, .int .i64 c, .int .i64 x] 30)).alloc (.cells #[.int .i64 a, .int .i64 b] 28) := by
  unfold M.vCard
  cases h1 : M.vSid a b <;> cases h2 : M.inR c 1 2147483646 <;> cases h3 : M.inR x 0 999999
  all_goals
    go_enter Try.func25, Try.ntmps25
    go_wp2_with (first
      | (go_at_call 54; refine (impl_IsValidSubscriberID _ _ _).mono ?_; rintro e w1 ⟨rfl, rfl⟩)
      | (go_at_call 27; refine (impl_IsValidKey _ _).mono ?_; rintro e w1 ⟨rfl, rfl⟩)
      | (go_at_call 45; refine (impl_InRange _ _ _ _).mono ?_; rintro e w1 ⟨rfl, rfl⟩))
    go_ret
    exact ⟨rfl, rfl⟩

theorem impl_IsValidSubscriberRecord (a b c x : Int) (w : World) :
    Calls Try.prog 26 #[.agg #[.int .i64 a, .int .i64 b, .int .i64 c, .int .i64 x]] w fun e w' => e = .returned (.bool (M.vCard a b c x)) ∧ w' = (w.alloc (.cells #[.int .i64 a, .int .i64 b, .int .i64 c, .int .i64 x] 32)).alloc (.cells #[.int .i64 a, .int .i64 b] 28) := by
  unfold M.vCard
  cases h1 : M.vSid a b <;> cases h2 : M.inR c 1 2147483646 <;> cases h3 : M.inR x 0 999999
  all_goals
    go_enter Try.func26, Try.ntmps26
    go_wp2_with (first
      | (go_at_call 54; refine (impl_IsValidSubscriberID _ _ _).mono ?_; rintro e w1 ⟨rfl, rfl⟩)
      | (go_at_call 27; refine (impl_IsValidKey _ _).mono ?_; rintro e w1 ⟨rfl, rfl⟩)
      | (go_at_call 45; refine (impl_InRange _ _ _ _).mono ?_; rintro e w1 ⟨rfl, rfl⟩))
    go_ret
    exact ⟨rfl, rfl⟩

theorem impl_ResponseMatches (a b c x y r : Int) (w : World) :
    Calls Try.prog 19 #[.agg #[.int .i64 a, .int .i64 b, .int .i64 c, .int .i64 x, .int .i64 y], .int .i64 r] w fun e w' => e = .returned (.bool (r == x)) ∧ w' = w.alloc (.cells #[.int .i64 a, .int .i64 b, .int .i64 c, .int .i64 x, .int .i64 y] 45) := by
  go_enter Try.func19, Try.ntmps19
  go_wp2
  go_ret
  exact ⟨rfl, rfl⟩

theorem spec_IsValidSubscriberID (a b : Int) (w : World) :
    Calls Try.prog 53 #[.agg #[.int .i64 a, .int .i64 b]] w fun e w' => e = .returned (.bool (M.vSid a b)) ∧ w' = w.alloc (.cells #[.int .i64 a, .int .i64 b] 28) := by
  unfold M.vSid
  cases h1 : M.inR a 0 3 <;> cases h2 : M.inR b 0 99
  all_goals
    go_enter Try.func53, Try.ntmps53
    go_wp2_with (go_at_call 49; refine (spec_l1In _ _ _ _).mono ?_; rintro e w1 ⟨rfl, rfl⟩)
    go_ret
    exact ⟨rfl, rfl⟩


theorem spec_IsValidUSIM (a b c x : Int) (w : World) :
    Calls Try.prog 23 #[.agg #[.int .i64 a, .int .i64 b, .int .i64 c, .int .i64 x]] w fun e w' => e = .returned (.bool (M.vCard a b c x)) ∧ w' = (w.alloc (.cells #[.int .i64 a, .int .i64 b, .int .i64 c, .int .i64 x] 30)).alloc (.cells #[.int .i64 a, .int .i64 b] 28) := by
  unfold M.vCard
  cases h1 : M.vSid a b <;> cases h2 : M.inR c 1 2147483646 <;> cases h3 : M.inR x 0 999999
  all_goals
    go_enter Try.func23, Try.ntmps23
    go_wp2_with (first
      | (go_at_call 53; refine (spec_IsValidSubscriberID _ _ _).mono ?_; rintro e w1 ⟨rfl, rfl⟩)
      | (go_at_call 18; refine (spec_IsValidKey _ _).mono ?_; rintro e w1 ⟨rfl, rfl⟩)
      | (go_at_call 49; refine (spec_l1In _ _ _ _).mono ?_; rintro e w1 ⟨rfl, rfl⟩))
    go_ret
    exact ⟨rfl, rfl⟩

theorem spec_IsValidSubscriberRecord (a b c x : Int) (w : World) :
    Calls Try.prog 24 #[.agg #[.int .i64 a, .int .i64 b, .int .i64 c, .int .i64 x]] w fun e w' => e = .returned (.bool (M.vCard a b c x)) ∧ w' = (w.alloc (.cells #[.int .i64 a, .int .i64 b, .int .i64 c, .int .i64 x] 32)).alloc (.cells #[.int .i64 a, .int .i64 b] 28) := by
  unfold M.vCard
  cases h1 : M.vSid a b <;> cases h2 : M.inR c 1 2147483646 <;> cases h3 : M.inR x 0 999999
  all_goals
    go_enter Try.func24, Try.ntmps24
    go_wp2_with (first
      | (go_at_call 53; refine (spec_IsValidSubscriberID _ _ _).mono ?_; rintro e w1 ⟨rfl, rfl⟩)
      | (go_at_call 18; refine (spec_IsValidKey _ _).mono ?_; rintro e w1 ⟨rfl, rfl⟩)
      | (go_at_call 49; refine (spec_l1In _ _ _ _).mono ?_; rintro e w1 ⟨rfl, rfl⟩))
    go_ret
    exact ⟨rfl, rfl⟩

theorem spec_ResponseMatches (a b c x y r : Int) (w : World) :
    Calls Try.prog 37 #[.agg #[.int .i64 a, .int .i64 b, .int .i64 c, .int .i64 x, .int .i64 y], .int .i64 r] w fun e w' => e = .returned (.bool (r == x)) ∧ w' = w.alloc (.cells #[.int .i64 a, .int .i64 b, .int .i64 c, .int .i64 x, .int .i64 y] 45) := by
  go_enter Try.func37, Try.ntmps37
  go_wp2
  go_ret
  exact ⟨rfl, rfl⟩

end Go.Proofs.Ytfenmicakmjelaa
