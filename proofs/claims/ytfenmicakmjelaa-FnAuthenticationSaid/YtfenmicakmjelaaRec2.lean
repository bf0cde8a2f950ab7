/-
  Contracts: records resynchronized; pairs in step; structs compared field by field.
-/
import Derived.Test.YtfenmicakmjelaaVec
namespace Go.Proofs.Ytfenmicakmjelaa
open Go.RowKit

namespace M
def rsSeq (c x r t : Int) : Int := if pOk c r t = true then (if x < t % 1000000 then t % 1000000 else if t % 1000000 < wrap64 (x - 1000) then t % 1000000 else x) else x
def sync (a b k l a' b' k' s : Int) : Bool := vCard a b k l && (vCard a' b' k' s && (decide (a = a') && (decide (b = b') && (decide (k = k') && inR (s - l) 0 1000))))
theorem pSeq_ok {c r t : Int} (h : pOk c r t = true) : pSeq c r t = t % 1000000 := by unfold pSeq; rw [if_pos h]
end M

theorem laws_eqSubscriberID_same (a b : Int) (w : World) :
    Calls Try.prog 41 #[.agg #[.int .i64 a, .int .i64 b], .agg #[.int .i64 a, .int .i64 b]] w fun e w' => e = .returned (.bool true) ∧ w' = (w.alloc (.cells #[.int .i64 a, .int .i64 b] 28)).alloc (.cells #[.int .i64 a, .int .i64 b] 28) := by
  go_enter Try.func41, Try.ntmps41
  go_wp2
  go_ret
  exact ⟨rfl, rfl⟩
theorem laws_eqSubscriberID_below (a b : Int) (w : World) :
    Calls Try.prog 41 #[.agg #[.int .i64 a, .int .i64 b], .agg #[.int .i64 a, .int .i64 b]] w fun e w' => e = .returned (.bool true) ∧ Below w.heap.size w w' :=
  (laws_eqSubscriberID_same a b w).mono fun _ _ ⟨h1, h2⟩ => ⟨h1, h2 ▸ (by repeat (first | (with_reducible exact Below.refl _ _) | (with_reducible refine Below.al ?_ _) | (with_reducible refine Below.dn ?_ _)))⟩
theorem laws_eqUSIM_same (a b c x : Int) (w : World) :
    Calls Try.prog 12 #[.agg #[.int .i64 a, .int .i64 b, .int .i64 c, .int .i64 x], .agg #[.int .i64 a, .int .i64 b, .int .i64 c, .int .i64 x]] w fun e w' => e = .returned (.bool true) ∧ Below w.heap.size w w' := by
  go_enter Try.func12, Try.ntmps12
  go_wp2_with (go_at_call 41; refine (laws_eqSubscriberID_same _ _ _).mono ?_; rintro e w1 ⟨rfl, rfl⟩)
  go_ret
  exact ⟨rfl, (by repeat (first | (with_reducible exact Below.refl _ _) | (with_reducible refine Below.al ?_ _) | (with_reducible refine Below.dn ?_ _)))⟩
theorem laws_eqSubscriberRecord_same (a b c x : Int) (w : World) :
    Calls Try.prog 13 #[.agg #[.int .i64 a, .int .i64 b, .int .i64 c, .int .i64 x], .agg #[.int .i64 a, .int .i64 b, .int .i64 c, .int .i64 x]] w fun e w' => e = .returned (.bool true) ∧ Below w.heap.size w w' := by
  go_enter Try.func13, Try.ntmps13
  go_wp2_with (go_at_call 41; refine (laws_eqSubscriberID_same _ _ _).mono ?_; rintro e w1 ⟨rfl, rfl⟩)
  go_ret
  exact ⟨rfl, (by repeat (first | (with_reducible exact Below.refl _ _) | (with_reducible refine Below.al ?_ _) | (with_reducible refine Below.dn ?_ _)))⟩
theorem laws_eqAuthResponse_same (a b c x : Int) (w : World) :
    Calls Try.prog 31 #[.agg #[.int .i64 a, .int .i64 b, .int .i64 c, .int .i64 x], .agg #[.int .i64 a, .int .i64 b, .int .i64 c, .int .i64 x]] w fun e w' => e = .returned (.bool true) ∧ Below w.heap.size w w' := by
  go_enter Try.func31, Try.ntmps31
  go_wp2
  go_ret
  exact ⟨rfl, (by repeat (first | (with_reducible exact Below.refl _ _) | (with_reducible refine Below.al ?_ _) | (with_reducible refine Below.dn ?_ _)))⟩
set_option maxHeartbeats 4000000 in
theorem impl_Resynchronize (a b c x r t : Int) (w : World) (hc : (Lit.int .i64 c).wf = true) (hr : (Lit.int .i64 r).wf = true) (ht : (Lit.int .i64 t).wf = true) :
    Calls Try.prog 40 #[.agg #[.int .i64 a, .int .i64 b, .int .i64 c, .int .i64 x], .int .i64 r, .int .i64 t] w fun e w' => e = .returned (.tuple #[.agg #[.int .i64 a, .int .i64 b, .int .i64 c, .int .i64 (M.rsSeq c x r t)], .bool (M.pOk c r t)]) ∧ Below w.heap.size w w' := by
  unfold M.rsSeq
  cases hp : M.pOk c r t
  · simp only [Bool.false_eq_true, if_false]
    go_enter Try.func40, Try.ntmps40
    have B0 := Below.refl w.heap.size w
    have HP := Lib.hid (newBlk (w) #[.int .i64 a, .int .i64 b, .int .i64 c, .int .i64 x] 32 (w.heap.size) (by simp))
    replace B0 := Below.al B0 (.cells #[.int .i64 a, .int .i64 b, .int .i64 c, .int .i64 x] 32)
    replace HP := Lib.hid (oldBlk (.cells #[.int .i64 0, .int .i64 0, .int .i64 0, .int .i64 0] 32) HP.out)
    have HQ := Lib.hid (newBlk ((w).alloc (.cells #[.int .i64 a, .int .i64 b, .int .i64 c, .int .i64 x] 32)) #[.int .i64 0, .int .i64 0, .int .i64 0, .int .i64 0] 32 (w.heap.size + 1) (by simp))
    replace B0 := Below.al B0 (.cells #[.int .i64 0, .int .i64 0, .int .i64 0, .int .i64 0] 32)
    go_wp2_with fail
    refine (impl_ParseResyncToken _ _ _ _ hc hr ht).mono ?_
    rintro e u1 ⟨rfl, b1⟩
    replace HP := Lib.hid (cells_of_below b1 HP.out)
    replace HQ := Lib.hid (cells_of_below b1 HQ.out)
    replace B0 := Below.next B0 b1
    clear b1
    have cP0 := cell_of HP.out 0
    have cP1 := cell_of HP.out 1
    have cP2 := cell_of HP.out 2
    have cP3 := cell_of HP.out 3
    simp only [List.getElem?_toArray, List.getElem?_cons_zero, List.getElem?_cons_succ] at cP0 cP1 cP2 cP3
    have fP := free_of HP.out
    have cQ0 := cell_of HQ.out 0
    have cQ1 := cell_of HQ.out 1
    have cQ2 := cell_of HQ.out 2
    have cQ3 := cell_of HQ.out 3
    simp only [List.getElem?_toArray, List.getElem?_cons_zero, List.getElem?_cons_succ] at cQ0 cQ1 cQ2 cQ3
    have fQ := free_of HQ.out
    have hz : w.heap.size + 1 < u1.heap.size := (Array.getElem?_eq_some_iff.1 HQ.out).1
    go_wp2
    refine bodyPost_ret (v := .tuple #[.agg #[.int .i64 a, .int .i64 b, .int .i64 c, .int .i64 x], .bool false]) (by simp [results, Try.results40, go_sem, *]) rfl ⟨rfl, ?_⟩
    exact (by repeat (first | (with_reducible exact B0) | (with_reducible refine Below.st ?_ _ _ _ (by omega)) | (with_reducible refine Below.al ?_ _) | (with_reducible refine Below.dn ?_ _) | (with_reducible refine Below.drew ?_)))
  · simp only [if_true]
    have hq := M.pSeq_ok hp
    obtain ⟨q, hqq⟩ : ∃ q, q = t % 1000000 := ⟨_, rfl⟩
    rw [← hqq] at hq ⊢
    clear hqq
    by_cases h1 : x < q
    · rw [if_pos h1]
      go_enter Try.func40, Try.ntmps40
      have B0 := Below.refl w.heap.size w
      have HP := Lib.hid (newBlk (w) #[.int .i64 a, .int .i64 b, .int .i64 c, .int .i64 x] 32 (w.heap.size) (by simp))
      replace B0 := Below.al B0 (.cells #[.int .i64 a, .int .i64 b, .int .i64 c, .int .i64 x] 32)
      replace HP := Lib.hid (oldBlk (.cells #[.int .i64 0, .int .i64 0, .int .i64 0, .int .i64 0] 32) HP.out)
      have HQ := Lib.hid (newBlk ((w).alloc (.cells #[.int .i64 a, .int .i64 b, .int .i64 c, .int .i64 x] 32)) #[.int .i64 0, .int .i64 0, .int .i64 0, .int .i64 0] 32 (w.heap.size + 1) (by simp))
      replace B0 := Below.al B0 (.cells #[.int .i64 0, .int .i64 0, .int .i64 0, .int .i64 0] 32)
      go_wp2_with fail
      refine (impl_ParseResyncToken _ _ _ _ hc hr ht).mono ?_
      rintro e u1 ⟨rfl, b1⟩
      replace HP := Lib.hid (cells_of_below b1 HP.out)
      replace HQ := Lib.hid (cells_of_below b1 HQ.out)
      replace B0 := Below.next B0 b1
      clear b1
      have cP0 := cell_of HP.out 0
      have cP1 := cell_of HP.out 1
      have cP2 := cell_of HP.out 2
      have cP3 := cell_of HP.out 3
      simp only [List.getElem?_toArray, List.getElem?_cons_zero, List.getElem?_cons_succ] at cP0 cP1 cP2 cP3
      have fP := free_of HP.out
      have cQ0 := cell_of HQ.out 0
      have cQ1 := cell_of HQ.out 1
      have cQ2 := cell_of HQ.out 2
      have cQ3 := cell_of HQ.out 3
      simp only [List.getElem?_toArray, List.getElem?_cons_zero, List.getElem?_cons_succ] at cQ0 cQ1 cQ2 cQ3
      have fQ := free_of HQ.out
      have hz : w.heap.size + 1 < u1.heap.size := (Array.getElem?_eq_some_iff.1 HQ.out).1
      go_wp2
      refine bodyPost_ret (v := .tuple #[.agg #[.int .i64 a, .int .i64 b, .int .i64 c, .int .i64 q], .bool true]) (by simp [results, Try.results40, go_sem, *]) rfl ⟨rfl, ?_⟩
      exact (by repeat (first | (with_reducible exact B0) | (with_reducible refine Below.st ?_ _ _ _ (by omega)) | (with_reducible refine Below.al ?_ _) | (with_reducible refine Below.dn ?_ _) | (with_reducible refine Below.drew ?_)))
    · rw [if_neg h1]
      by_cases h2 : q < wrap64 (x - 1000)
      · rw [if_pos h2]
        go_enter Try.func40, Try.ntmps40
        have B0 := Below.refl w.heap.size w
        have HP := Lib.hid (newBlk (w) #[.int .i64 a, .int .i64 b, .int .i64 c, .int .i64 x] 32 (w.heap.size) (by simp))
        replace B0 := Below.al B0 (.cells #[.int .i64 a, .int .i64 b, .int .i64 c, .int .i64 x] 32)
        replace HP := Lib.hid (oldBlk (.cells #[.int .i64 0, .int .i64 0, .int .i64 0, .int .i64 0] 32) HP.out)
        have HQ := Lib.hid (newBlk ((w).alloc (.cells #[.int .i64 a, .int .i64 b, .int .i64 c, .int .i64 x] 32)) #[.int .i64 0, .int .i64 0, .int .i64 0, .int .i64 0] 32 (w.heap.size + 1) (by simp))
        replace B0 := Below.al B0 (.cells #[.int .i64 0, .int .i64 0, .int .i64 0, .int .i64 0] 32)
        go_wp2_with fail
        refine (impl_ParseResyncToken _ _ _ _ hc hr ht).mono ?_
        rintro e u1 ⟨rfl, b1⟩
        replace HP := Lib.hid (cells_of_below b1 HP.out)
        replace HQ := Lib.hid (cells_of_below b1 HQ.out)
        replace B0 := Below.next B0 b1
        clear b1
        have cP0 := cell_of HP.out 0
        have cP1 := cell_of HP.out 1
        have cP2 := cell_of HP.out 2
        have cP3 := cell_of HP.out 3
        simp only [List.getElem?_toArray, List.getElem?_cons_zero, List.getElem?_cons_succ] at cP0 cP1 cP2 cP3
        have fP := free_of HP.out
        have cQ0 := cell_of HQ.out 0
        have cQ1 := cell_of HQ.out 1
        have cQ2 := cell_of HQ.out 2
        have cQ3 := cell_of HQ.out 3
        simp only [List.getElem?_toArray, List.getElem?_cons_zero, List.getElem?_cons_succ] at cQ0 cQ1 cQ2 cQ3
        have fQ := free_of HQ.out
        have hz : w.heap.size + 1 < u1.heap.size := (Array.getElem?_eq_some_iff.1 HQ.out).1
        go_wp2
        refine bodyPost_ret (v := .tuple #[.agg #[.int .i64 a, .int .i64 b, .int .i64 c, .int .i64 q], .bool true]) (by simp [results, Try.results40, go_sem, *]) rfl ⟨rfl, ?_⟩
        exact (by repeat (first | (with_reducible exact B0) | (with_reducible refine Below.st ?_ _ _ _ (by omega)) | (with_reducible refine Below.al ?_ _) | (with_reducible refine Below.dn ?_ _) | (with_reducible refine Below.drew ?_)))
      · rw [if_neg h2]
        go_enter Try.func40, Try.ntmps40
        have B0 := Below.refl w.heap.size w
        have HP := Lib.hid (newBlk (w) #[.int .i64 a, .int .i64 b, .int .i64 c, .int .i64 x] 32 (w.heap.size) (by simp))
        replace B0 := Below.al B0 (.cells #[.int .i64 a, .int .i64 b, .int .i64 c, .int .i64 x] 32)
        replace HP := Lib.hid (oldBlk (.cells #[.int .i64 0, .int .i64 0, .int .i64 0, .int .i64 0] 32) HP.out)
        have HQ := Lib.hid (newBlk ((w).alloc (.cells #[.int .i64 a, .int .i64 b, .int .i64 c, .int .i64 x] 32)) #[.int .i64 0, .int .i64 0, .int .i64 0, .int .i64 0] 32 (w.heap.size + 1) (by simp))
        replace B0 := Below.al B0 (.cells #[.int .i64 0, .int .i64 0, .int .i64 0, .int .i64 0] 32)
        go_wp2_with fail
        refine (impl_ParseResyncToken _ _ _ _ hc hr ht).mono ?_
        rintro e u1 ⟨rfl, b1⟩
        replace HP := Lib.hid (cells_of_below b1 HP.out)
        replace HQ := Lib.hid (cells_of_below b1 HQ.out)
        replace B0 := Below.next B0 b1
        clear b1
        have cP0 := cell_of HP.out 0
        have cP1 := cell_of HP.out 1
        have cP2 := cell_of HP.out 2
        have cP3 := cell_of HP.out 3
        simp only [List.getElem?_toArray, List.getElem?_cons_zero, List.getElem?_cons_succ] at cP0 cP1 cP2 cP3
        have fP := free_of HP.out
        have cQ0 := cell_of HQ.out 0
        have cQ1 := cell_of HQ.out 1
        have cQ2 := cell_of HQ.out 2
        have cQ3 := cell_of HQ.out 3
        simp only [List.getElem?_toArray, List.getElem?_cons_zero, List.getElem?_cons_succ] at cQ0 cQ1 cQ2 cQ3
        have fQ := free_of HQ.out
        have hz : w.heap.size + 1 < u1.heap.size := (Array.getElem?_eq_some_iff.1 HQ.out).1
        go_wp2
        refine bodyPost_ret (v := .tuple #[.agg #[.int .i64 a, .int .i64 b, .int .i64 c, .int .i64 x], .bool true]) (by simp [results, Try.results40, go_sem, *]) rfl ⟨rfl, ?_⟩
        exact (by repeat (first | (with_reducible exact B0) | (with_reducible refine Below.st ?_ _ _ _ (by omega)) | (with_reducible refine Below.al ?_ _) | (with_reducible refine Below.dn ?_ _) | (with_reducible refine Below.drew ?_)))
set_option maxHeartbeats 4000000 in
theorem spec_Resynchronize (a b c x r t : Int) (w : World) (hc : (Lit.int .i64 c).wf = true) (hr : (Lit.int .i64 r).wf = true) (ht : (Lit.int .i64 t).wf = true) :
    Calls Try.prog 36 #[.agg #[.int .i64 a, .int .i64 b, .int .i64 c, .int .i64 x], .int .i64 r, .int .i64 t] w fun e w' => e = .returned (.tuple #[.agg #[.int .i64 a, .int .i64 b, .int .i64 c, .int .i64 (M.rsSeq c x r t)], .bool (M.pOk c r t)]) ∧ Below w.heap.size w w' := by
  unfold M.rsSeq
  cases hp : M.pOk c r t
  · simp only [Bool.false_eq_true, if_false]
    go_enter Try.func36, Try.ntmps36
    have B0 := Below.refl w.heap.size w
    have HP := Lib.hid (newBlk (w) #[.int .i64 a, .int .i64 b, .int .i64 c, .int .i64 x] 32 (w.heap.size) (by simp))
    replace B0 := Below.al B0 (.cells #[.int .i64 a, .int .i64 b, .int .i64 c, .int .i64 x] 32)
    replace HP := Lib.hid (oldBlk (.cells #[.int .i64 0, .int .i64 0, .int .i64 0, .int .i64 0] 32) HP.out)
    have HQ := Lib.hid (newBlk ((w).alloc (.cells #[.int .i64 a, .int .i64 b, .int .i64 c, .int .i64 x] 32)) #[.int .i64 0, .int .i64 0, .int .i64 0, .int .i64 0] 32 (w.heap.size + 1) (by simp))
    replace B0 := Below.al B0 (.cells #[.int .i64 0, .int .i64 0, .int .i64 0, .int .i64 0] 32)
    go_wp2_with fail
    refine (spec_ParseResyncToken _ _ _ _ hc hr ht).mono ?_
    rintro e u1 ⟨rfl, b1⟩
    replace HP := Lib.hid (cells_of_below b1 HP.out)
    replace HQ := Lib.hid (cells_of_below b1 HQ.out)
    replace B0 := Below.next B0 b1
    clear b1
    have cP0 := cell_of HP.out 0
    have cP1 := cell_of HP.out 1
    have cP2 := cell_of HP.out 2
    have cP3 := cell_of HP.out 3
    simp only [List.getElem?_toArray, List.getElem?_cons_zero, List.getElem?_cons_succ] at cP0 cP1 cP2 cP3
    have fP := free_of HP.out
    have cQ0 := cell_of HQ.out 0
    have cQ1 := cell_of HQ.out 1
    have cQ2 := cell_of HQ.out 2
    have cQ3 := cell_of HQ.out 3
    simp only [List.getElem?_toArray, List.getElem?_cons_zero, List.getElem?_cons_succ] at cQ0 cQ1 cQ2 cQ3
    have fQ := free_of HQ.out
    have dP0 := fun o => cell_of (oldBlk o HP.out) 0
    have dP1 := fun o => cell_of (oldBlk o HP.out) 1
    have dP2 := fun o => cell_of (oldBlk o HP.out) 2
    have dP3 := fun o => cell_of (oldBlk o HP.out) 3
    simp only [List.getElem?_toArray, List.getElem?_cons_zero, List.getElem?_cons_succ] at dP0 dP1 dP2 dP3
    have gP := fun o => free_of (oldBlk o HP.out)
    have dQ0 := fun o => cell_of (oldBlk o HQ.out) 0
    have dQ1 := fun o => cell_of (oldBlk o HQ.out) 1
    have dQ2 := fun o => cell_of (oldBlk o HQ.out) 2
    have dQ3 := fun o => cell_of (oldBlk o HQ.out) 3
    simp only [List.getElem?_toArray, List.getElem?_cons_zero, List.getElem?_cons_succ] at dQ0 dQ1 dQ2 dQ3
    have gQ := fun o => free_of (oldBlk o HQ.out)
    have hz : w.heap.size + 1 < u1.heap.size := (Array.getElem?_eq_some_iff.1 HQ.out).1
    go_wp2
    refine bodyPost_ret (v := .tuple #[.agg #[.int .i64 a, .int .i64 b, .int .i64 c, .int .i64 x], .bool false]) (by simp [results, Try.results36, go_sem, *]) rfl ⟨rfl, ?_⟩
    exact (by repeat (first | (with_reducible exact B0) | (with_reducible refine Below.st ?_ _ _ _ (by omega)) | (with_reducible refine Below.al ?_ _) | (with_reducible refine Below.dn ?_ _) | (with_reducible refine Below.drew ?_)))
  · simp only [if_true]
    have hq := M.pSeq_ok hp
    obtain ⟨q, hqq⟩ : ∃ q, q = t % 1000000 := ⟨_, rfl⟩
    rw [← hqq] at hq ⊢
    clear hqq
    by_cases h1 : x < q
    · rw [if_pos h1]
      go_enter Try.func36, Try.ntmps36
      have B0 := Below.refl w.heap.size w
      have HP := Lib.hid (newBlk (w) #[.int .i64 a, .int .i64 b, .int .i64 c, .int .i64 x] 32 (w.heap.size) (by simp))
      replace B0 := Below.al B0 (.cells #[.int .i64 a, .int .i64 b, .int .i64 c, .int .i64 x] 32)
      replace HP := Lib.hid (oldBlk (.cells #[.int .i64 0, .int .i64 0, .int .i64 0, .int .i64 0] 32) HP.out)
      have HQ := Lib.hid (newBlk ((w).alloc (.cells #[.int .i64 a, .int .i64 b, .int .i64 c, .int .i64 x] 32)) #[.int .i64 0, .int .i64 0, .int .i64 0, .int .i64 0] 32 (w.heap.size + 1) (by simp))
      replace B0 := Below.al B0 (.cells #[.int .i64 0, .int .i64 0, .int .i64 0, .int .i64 0] 32)
      go_wp2_with fail
      refine (spec_ParseResyncToken _ _ _ _ hc hr ht).mono ?_
      rintro e u1 ⟨rfl, b1⟩
      replace HP := Lib.hid (cells_of_below b1 HP.out)
      replace HQ := Lib.hid (cells_of_below b1 HQ.out)
      replace B0 := Below.next B0 b1
      clear b1
      have cP0 := cell_of HP.out 0
      have cP1 := cell_of HP.out 1
      have cP2 := cell_of HP.out 2
      have cP3 := cell_of HP.out 3
      simp only [List.getElem?_toArray, List.getElem?_cons_zero, List.getElem?_cons_succ] at cP0 cP1 cP2 cP3
      have fP := free_of HP.out
      have cQ0 := cell_of HQ.out 0
      have cQ1 := cell_of HQ.out 1
      have cQ2 := cell_of HQ.out 2
      have cQ3 := cell_of HQ.out 3
      simp only [List.getElem?_toArray, List.getElem?_cons_zero, List.getElem?_cons_succ] at cQ0 cQ1 cQ2 cQ3
      have fQ := free_of HQ.out
      have dP0 := fun o => cell_of (oldBlk o HP.out) 0
      have dP1 := fun o => cell_of (oldBlk o HP.out) 1
      have dP2 := fun o => cell_of (oldBlk o HP.out) 2
      have dP3 := fun o => cell_of (oldBlk o HP.out) 3
      simp only [List.getElem?_toArray, List.getElem?_cons_zero, List.getElem?_cons_succ] at dP0 dP1 dP2 dP3
      have gP := fun o => free_of (oldBlk o HP.out)
      have dQ0 := fun o => cell_of (oldBlk o HQ.out) 0
      have dQ1 := fun o => cell_of (oldBlk o HQ.out) 1
      have dQ2 := fun o => cell_of (oldBlk o HQ.out) 2
      have dQ3 := fun o => cell_of (oldBlk o HQ.out) 3
      simp only [List.getElem?_toArray, List.getElem?_cons_zero, List.getElem?_cons_succ] at dQ0 dQ1 dQ2 dQ3
      have gQ := fun o => free_of (oldBlk o HQ.out)
      have hz : w.heap.size + 1 < u1.heap.size := (Array.getElem?_eq_some_iff.1 HQ.out).1
      go_wp2
      refine bodyPost_ret (v := .tuple #[.agg #[.int .i64 a, .int .i64 b, .int .i64 c, .int .i64 q], .bool true]) (by simp [results, Try.results36, go_sem, *]) rfl ⟨rfl, ?_⟩
      exact (by repeat (first | (with_reducible exact B0) | (with_reducible refine Below.st ?_ _ _ _ (by omega)) | (with_reducible refine Below.al ?_ _) | (with_reducible refine Below.dn ?_ _) | (with_reducible refine Below.drew ?_)))
    · rw [if_neg h1]
      by_cases h2 : q < wrap64 (x - 1000)
      · rw [if_pos h2]
        go_enter Try.func36, Try.ntmps36
        have B0 := Below.refl w.heap.size w
        have HP := Lib.hid (newBlk (w) #[.int .i64 a, .int .i64 b, .int .i64 c, .int .i64 x] 32 (w.heap.size) (by simp))
        replace B0 := Below.al B0 (.cells #[.int .i64 a, .int .i64 b, .int .i64 c, .int .i64 x] 32)
        replace HP := Lib.hid (oldBlk (.cells #[.int .i64 0, .int .i64 0, .int .i64 0, .int .i64 0] 32) HP.out)
        have HQ := Lib.hid (newBlk ((w).alloc (.cells #[.int .i64 a, .int .i64 b, .int .i64 c, .int .i64 x] 32)) #[.int .i64 0, .int .i64 0, .int .i64 0, .int .i64 0] 32 (w.heap.size + 1) (by simp))
        replace B0 := Below.al B0 (.cells #[.int .i64 0, .int .i64 0, .int .i64 0, .int .i64 0] 32)
        go_wp2_with fail
        refine (spec_ParseResyncToken _ _ _ _ hc hr ht).mono ?_
        rintro e u1 ⟨rfl, b1⟩
        replace HP := Lib.hid (cells_of_below b1 HP.out)
        replace HQ := Lib.hid (cells_of_below b1 HQ.out)
        replace B0 := Below.next B0 b1
        clear b1
        have cP0 := cell_of HP.out 0
        have cP1 := cell_of HP.out 1
        have cP2 := cell_of HP.out 2
        have cP3 := cell_of HP.out 3
        simp only [List.getElem?_toArray, List.getElem?_cons_zero, List.getElem?_cons_succ] at cP0 cP1 cP2 cP3
        have fP := free_of HP.out
        have cQ0 := cell_of HQ.out 0
        have cQ1 := cell_of HQ.out 1
        have cQ2 := cell_of HQ.out 2
        have cQ3 := cell_of HQ.out 3
        simp only [List.getElem?_toArray, List.getElem?_cons_zero, List.getElem?_cons_succ] at cQ0 cQ1 cQ2 cQ3
        have fQ := free_of HQ.out
        have dP0 := fun o => cell_of (oldBlk o HP.out) 0
        have dP1 := fun o => cell_of (oldBlk o HP.out) 1
        have dP2 := fun o => cell_of (oldBlk o HP.out) 2
        have dP3 := fun o => cell_of (oldBlk o HP.out) 3
        simp only [List.getElem?_toArray, List.getElem?_cons_zero, List.getElem?_cons_succ] at dP0 dP1 dP2 dP3
        have gP := fun o => free_of (oldBlk o HP.out)
        have dQ0 := fun o => cell_of (oldBlk o HQ.out) 0
        have dQ1 := fun o => cell_of (oldBlk o HQ.out) 1
        have dQ2 := fun o => cell_of (oldBlk o HQ.out) 2
        have dQ3 := fun o => cell_of (oldBlk o HQ.out) 3
        simp only [List.getElem?_toArray, List.getElem?_cons_zero, List.getElem?_cons_succ] at dQ0 dQ1 dQ2 dQ3
        have gQ := fun o => free_of (oldBlk o HQ.out)
        have hz : w.heap.size + 1 < u1.heap.size := (Array.getElem?_eq_some_iff.1 HQ.out).1
        go_wp2
        refine bodyPost_ret (v := .tuple #[.agg #[.int .i64 a, .int .i64 b, .int .i64 c, .int .i64 q], .bool true]) (by simp [results, Try.results36, go_sem, *]) rfl ⟨rfl, ?_⟩
        exact (by repeat (first | (with_reducible exact B0) | (with_reducible refine Below.st ?_ _ _ _ (by omega)) | (with_reducible refine Below.al ?_ _) | (with_reducible refine Below.dn ?_ _) | (with_reducible refine Below.drew ?_)))
      · rw [if_neg h2]
        go_enter Try.func36, Try.ntmps36
        have B0 := Below.refl w.heap.size w
        have HP := Lib.hid (newBlk (w) #[.int .i64 a, .int .i64 b, .int .i64 c, .int .i64 x] 32 (w.heap.size) (by simp))
        replace B0 := Below.al B0 (.cells #[.int .i64 a, .int .i64 b, .int .i64 c, .int .i64 x] 32)
        replace HP := Lib.hid (oldBlk (.cells #[.int .i64 0, .int .i64 0, .int .i64 0, .int .i64 0] 32) HP.out)
        have HQ := Lib.hid (newBlk ((w).alloc (.cells #[.int .i64 a, .int .i64 b, .int .i64 c, .int .i64 x] 32)) #[.int .i64 0, .int .i64 0, .int .i64 0, .int .i64 0] 32 (w.heap.size + 1) (by simp))
        replace B0 := Below.al B0 (.cells #[.int .i64 0, .int .i64 0, .int .i64 0, .int .i64 0] 32)
        go_wp2_with fail
        refine (spec_ParseResyncToken _ _ _ _ hc hr ht).mono ?_
        rintro e u1 ⟨rfl, b1⟩
        replace HP := Lib.hid (cells_of_below b1 HP.out)
        replace HQ := Lib.hid (cells_of_below b1 HQ.out)
        replace B0 := Below.next B0 b1
        clear b1
        have cP0 := cell_of HP.out 0
        have cP1 := cell_of HP.out 1
        have cP2 := cell_of HP.out 2
        have cP3 := cell_of HP.out 3
        simp only [List.getElem?_toArray, List.getElem?_cons_zero, List.getElem?_cons_succ] at cP0 cP1 cP2 cP3
        have fP := free_of HP.out
        have cQ0 := cell_of HQ.out 0
        have cQ1 := cell_of HQ.out 1
        have cQ2 := cell_of HQ.out 2
        have cQ3 := cell_of HQ.out 3
        simp only [List.getElem?_toArray, List.getElem?_cons_zero, List.getElem?_cons_succ] at cQ0 cQ1 cQ2 cQ3
        have fQ := free_of HQ.out
        have dP0 := fun o => cell_of (oldBlk o HP.out) 0
        have dP1 := fun o => cell_of (oldBlk o HP.out) 1
        have dP2 := fun o => cell_of (oldBlk o HP.out) 2
        have dP3 := fun o => cell_of (oldBlk o HP.out) 3
        simp only [List.getElem?_toArray, List.getElem?_cons_zero, List.getElem?_cons_succ] at dP0 dP1 dP2 dP3
        have gP := fun o => free_of (oldBlk o HP.out)
        have dQ0 := fun o => cell_of (oldBlk o HQ.out) 0
        have dQ1 := fun o => cell_of (oldBlk o HQ.out) 1
        have dQ2 := fun o => cell_of (oldBlk o HQ.out) 2
        have dQ3 := fun o => cell_of (oldBlk o HQ.out) 3
        simp only [List.getElem?_toArray, List.getElem?_cons_zero, List.getElem?_cons_succ] at dQ0 dQ1 dQ2 dQ3
        have gQ := fun o => free_of (oldBlk o HQ.out)
        have hz : w.heap.size + 1 < u1.heap.size := (Array.getElem?_eq_some_iff.1 HQ.out).1
        go_wp2
        refine bodyPost_ret (v := .tuple #[.agg #[.int .i64 a, .int .i64 b, .int .i64 c, .int .i64 x], .bool true]) (by simp [results, Try.results36, go_sem, *]) rfl ⟨rfl, ?_⟩
        exact (by repeat (first | (with_reducible exact B0) | (with_reducible refine Below.st ?_ _ _ _ (by omega)) | (with_reducible refine Below.al ?_ _) | (with_reducible refine Below.dn ?_ _) | (with_reducible refine Below.drew ?_)))
set_option maxHeartbeats 4000000 in
theorem impl_InSync (a b k l a' b' k' s : Int) (w : World) :
    Calls Try.prog 28 #[.agg #[.int .i64 a, .int .i64 b, .int .i64 k, .int .i64 l], .agg #[.int .i64 a', .int .i64 b', .int .i64 k', .int .i64 s]] w fun e w' => e = .returned (.bool (M.sync a b k l a' b' k' s)) ∧ Below w.heap.size w w' := by
  unfold M.sync
  cases h1 : M.vCard a b k l
  · simp only [Bool.false_and]
    go_enter Try.func28, Try.ntmps28
    go_wp2_with (first
          | (go_at_call 25; refine (impl_IsValidUSIM _ _ _ _ _).mono ?_; rintro e w1 ⟨rfl, rfl⟩)
          | (go_at_call 26; refine (impl_IsValidSubscriberRecord _ _ _ _ _).mono ?_; rintro e w1 ⟨rfl, rfl⟩)
          | (go_at_call 45; refine (impl_InRange _ _ _ _).mono ?_; rintro e w1 ⟨rfl, rfl⟩))
    go_ret
    exact ⟨rfl, (by repeat (first | (with_reducible exact Below.refl _ _) | (with_reducible refine Below.al ?_ _) | (with_reducible refine Below.dn ?_ _)))⟩
  · cases h2 : M.vCard a' b' k' s
    · simp only [Bool.false_and, Bool.true_and]
      go_enter Try.func28, Try.ntmps28
      go_wp2_with (first
            | (go_at_call 25; refine (impl_IsValidUSIM _ _ _ _ _).mono ?_; rintro e w1 ⟨rfl, rfl⟩)
            | (go_at_call 26; refine (impl_IsValidSubscriberRecord _ _ _ _ _).mono ?_; rintro e w1 ⟨rfl, rfl⟩)
            | (go_at_call 45; refine (impl_InRange _ _ _ _).mono ?_; rintro e w1 ⟨rfl, rfl⟩))
      go_ret
      exact ⟨rfl, (by repeat (first | (with_reducible exact Below.refl _ _) | (with_reducible refine Below.al ?_ _) | (with_reducible refine Below.dn ?_ _)))⟩
    · by_cases e1 : a = a'
      · by_cases e2 : b = b'
        · by_cases e3 : k = k'
          · subst e1; subst e2; subst e3
            cases h4 : M.inR (s - l) 0 1000
            all_goals
              simp only [decide_true, Bool.true_and]
              have hb1 := h1
              have hb2 := h2
              unfold M.vCard at hb1 hb2
              simp only [Bool.and_eq_true] at hb1 hb2
              obtain ⟨l0, l1⟩ := (M.inR_iff _ _ _).1 hb1.2.2
              obtain ⟨s0, s1⟩ := (M.inR_iff _ _ _).1 hb2.2.2
              clear hb1 hb2
              go_enter Try.func28, Try.ntmps28
              go_wp2_with (first
                    | (go_at_call 25; refine (impl_IsValidUSIM _ _ _ _ _).mono ?_; rintro e w1 ⟨rfl, rfl⟩)
                    | (go_at_call 26; refine (impl_IsValidSubscriberRecord _ _ _ _ _).mono ?_; rintro e w1 ⟨rfl, rfl⟩)
                    | (go_at_call 45; refine (impl_InRange _ _ _ _).mono ?_; rintro e w1 ⟨rfl, rfl⟩))
              go_ret
              exact ⟨rfl, (by repeat (first | (with_reducible exact Below.refl _ _) | (with_reducible refine Below.al ?_ _) | (with_reducible refine Below.dn ?_ _)))⟩
          · subst e1; subst e2
            have e3' : (k == k') = false := by simp [e3]
            simp only [decide_true, Bool.true_and, decide_eq_false e3, Bool.false_and]
            go_enter Try.func28, Try.ntmps28
            go_wp2_with (first
                  | (go_at_call 25; refine (impl_IsValidUSIM _ _ _ _ _).mono ?_; rintro e w1 ⟨rfl, rfl⟩)
                  | (go_at_call 26; refine (impl_IsValidSubscriberRecord _ _ _ _ _).mono ?_; rintro e w1 ⟨rfl, rfl⟩)
                  | (go_at_call 45; refine (impl_InRange _ _ _ _).mono ?_; rintro e w1 ⟨rfl, rfl⟩))
            go_ret
            exact ⟨rfl, (by repeat (first | (with_reducible exact Below.refl _ _) | (with_reducible refine Below.al ?_ _) | (with_reducible refine Below.dn ?_ _)))⟩
        · subst e1
          have e2' : (b == b') = false := by simp [e2]
          simp only [decide_true, Bool.true_and, decide_eq_false e2, Bool.false_and]
          go_enter Try.func28, Try.ntmps28
          go_wp2_with (first
                | (go_at_call 25; refine (impl_IsValidUSIM _ _ _ _ _).mono ?_; rintro e w1 ⟨rfl, rfl⟩)
                | (go_at_call 26; refine (impl_IsValidSubscriberRecord _ _ _ _ _).mono ?_; rintro e w1 ⟨rfl, rfl⟩)
                | (go_at_call 45; refine (impl_InRange _ _ _ _).mono ?_; rintro e w1 ⟨rfl, rfl⟩))
          go_ret
          exact ⟨rfl, (by repeat (first | (with_reducible exact Below.refl _ _) | (with_reducible refine Below.al ?_ _) | (with_reducible refine Below.dn ?_ _)))⟩
      · have e1' : (a == a') = false := by simp [e1]
        simp only [decide_eq_false e1, Bool.true_and, Bool.false_and]
        go_enter Try.func28, Try.ntmps28
        go_wp2_with (first
              | (go_at_call 25; refine (impl_IsValidUSIM _ _ _ _ _).mono ?_; rintro e w1 ⟨rfl, rfl⟩)
              | (go_at_call 26; refine (impl_IsValidSubscriberRecord _ _ _ _ _).mono ?_; rintro e w1 ⟨rfl, rfl⟩)
              | (go_at_call 45; refine (impl_InRange _ _ _ _).mono ?_; rintro e w1 ⟨rfl, rfl⟩))
        go_ret
        exact ⟨rfl, (by repeat (first | (with_reducible exact Below.refl _ _) | (with_reducible refine Below.al ?_ _) | (with_reducible refine Below.dn ?_ _)))⟩
end Go.Proofs.Ytfenmicakmjelaa
