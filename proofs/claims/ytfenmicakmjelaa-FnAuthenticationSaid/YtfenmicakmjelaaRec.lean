/-
  Contracts: what the home network keeps: the next vector, resynchronization, synchronized pairs, records compared.
-/
import Derived.Test.YtfenmicakmjelaaVec
namespace Go.Proofs.Ytfenmicakmjelaa
open Go.RowKit

theorem set_far (u : World) (g1 g i j : Nat) (v : Value) (h : g1 ≠ g) : (u.setCell ⟨g1, i, none⟩ v).cell? ⟨g, j, none⟩ = u.cell? ⟨g, j, none⟩ :=
  World.cell?_setCell_other _ _ _ _ (fun e => h (by injection e))
theorem set_far4 (u : World) (g1 g j : Nat) (v0 v1 v2 v3 : Value) (h : g1 ≠ g) :
    ((((u.setCell ⟨g1, 0, none⟩ v0).setCell ⟨g1, 1, none⟩ v1).setCell ⟨g1, 2, none⟩ v2).setCell ⟨g1, 3, none⟩ v3).cell? ⟨g, j, none⟩ = u.cell? ⟨g, j, none⟩ := by
  rw [set_far _ _ _ _ _ _ h, set_far _ _ _ _ _ _ h, set_far _ _ _ _ _ _ h, set_far _ _ _ _ _ _ h]
theorem set_far5 (u : World) (g1 g j : Nat) (v0 v1 v2 v3 v4 : Value) (h : g1 ≠ g) :
    (((((u.setCell ⟨g1, 0, none⟩ v0).setCell ⟨g1, 1, none⟩ v1).setCell ⟨g1, 2, none⟩ v2).setCell ⟨g1, 3, none⟩ v3).setCell ⟨g1, 4, none⟩ v4).cell? ⟨g, j, none⟩ = u.cell? ⟨g, j, none⟩ := by
  rw [set_far _ _ _ _ _ _ h, set_far4 _ _ _ _ _ _ _ _ h]

namespace M
def nOk (a b c x : Int) : Bool := vCard a b c x && (x != 999999)
def nSeq (a b c x : Int) : Int := if nOk a b c x = true then x + 1 else x
def na0 (a b c x r : Int) : Int := if nOk a b c x = true then nv0 r (x + 1) else 0
def na1 (a b c x r : Int) : Int := if nOk a b c x = true then nv1 c r (x + 1) else 0
def na2 (a b c x r : Int) : Int := if nOk a b c x = true then nv2 c r (x + 1) else 0
def na3 (a b c x r : Int) : Int := if nOk a b c x = true then nv3 c r (x + 1) else 0
def na4 (a b c x r : Int) : Int := if nOk a b c x = true then nv4 c r (x + 1) else 0
theorem vCard_bd {a b c x : Int} (h : vCard a b c x = true) : (1 ≤ c ∧ c ≤ 2147483646) ∧ (0 ≤ x ∧ x ≤ 999999) := by
  unfold vCard at h
  simp only [Bool.and_eq_true] at h
  exact ⟨(inR_iff _ _ _).1 h.2.1, (inR_iff _ _ _).1 h.2.2⟩
end M

set_option maxHeartbeats 4000000 in
theorem impl_NextAuthVector (a b c x r : Int) (w : World) (hr : (Lit.int .i64 r).wf = true) :
    Calls Try.prog 39 #[.agg #[.int .i64 a, .int .i64 b, .int .i64 c, .int .i64 x], .int .i64 r] w fun e w' => e = .returned (.tuple #[.agg #[.int .i64 a, .int .i64 b, .int .i64 c, .int .i64 (M.nSeq a b c x)], .agg #[.int .i64 (M.na0 a b c x r), .int .i64 (M.na1 a b c x r), .int .i64 (M.na2 a b c x r), .int .i64 (M.na3 a b c x r), .int .i64 (M.na4 a b c x r)]]) ∧ Below w.heap.size w w' := by
  unfold M.nSeq M.na0 M.na1 M.na2 M.na3 M.na4
  cases hok : M.nOk a b c x
  · simp only [Bool.false_eq_true, if_false]
    unfold M.nOk at hok
    cases hv : M.vCard a b c x
    · clear hok
      go_enter Try.func39, Try.ntmps39
      go_wp2_with fail
      refine (impl_IsValidSubscriberRecord _ _ _ _ _).mono ?_
      rw [hv]
      rintro e w' ⟨rfl, rfl⟩
      go_wp2
      refine bodyPost_ret (v := .tuple #[.agg #[.int .i64 a, .int .i64 b, .int .i64 c, .int .i64 x], .agg #[.int .i64 0, .int .i64 0, .int .i64 0, .int .i64 0, .int .i64 0]]) (by simp [results, Try.results39, go_sem]) rfl ⟨rfl, ?_⟩
      exact (by repeat (first | (with_reducible exact Below.refl _ _) | (with_reducible refine Below.al ?_ _) | (with_reducible refine Below.dn ?_ _)))
    · rw [hv] at hok
      have hx : x = 999999 := by simpa using hok
      clear hok
      subst hx
      go_enter Try.func39, Try.ntmps39
      go_wp2_with fail
      refine (impl_IsValidSubscriberRecord _ _ _ _ _).mono ?_
      rw [hv]
      rintro e w' ⟨rfl, rfl⟩
      go_wp2
      refine bodyPost_ret (v := .tuple #[.agg #[.int .i64 a, .int .i64 b, .int .i64 c, .int .i64 999999], .agg #[.int .i64 0, .int .i64 0, .int .i64 0, .int .i64 0, .int .i64 0]]) (by simp [results, Try.results39, go_sem]) rfl ⟨rfl, ?_⟩
      exact (by repeat (first | (with_reducible exact Below.refl _ _) | (with_reducible refine Below.al ?_ _) | (with_reducible refine Below.dn ?_ _)))
  · simp only [if_true]
    unfold M.nOk at hok
    simp only [Bool.and_eq_true] at hok
    obtain ⟨hv, hx⟩ := hok
    have hx' : ¬ x = 999999 := by simpa using hx
    obtain ⟨⟨k0, k1⟩, x0, x1⟩ := M.vCard_bd hv
    have hxe : (x == 999999) = false := by simp [hx']
    clear hx hx'
    have hc : (Lit.int .i64 c).wf = true := WalkArith.wf_i64 (by omega)
    have hxw : (Lit.int .i64 (x + 1)).wf = true := WalkArith.wf_i64 (by omega)
    go_enter Try.func39, Try.ntmps39
    go_wp2_with fail
    refine (impl_IsValidSubscriberRecord _ _ _ _ _).mono ?_
    rw [hv]
    rintro e w' ⟨rfl, rfl⟩
    go_wp2
    obtain ⟨W, hW⟩ : ∃ W, W = (((((w).alloc (.cells #[.int .i64 a, .int .i64 b, .int .i64 c, .int .i64 (x + 1)] 32)).alloc (.cells #[.int .i64 0, .int .i64 0, .int .i64 0, .int .i64 0] 32)).alloc (.cells #[.int .i64 0, .int .i64 0, .int .i64 0, .int .i64 0, .int .i64 0] 45)).alloc (.cells #[.int .i64 a, .int .i64 b, .int .i64 c, .int .i64 x] 32)).alloc (.cells #[.int .i64 a, .int .i64 b] 28) := ⟨_, rfl⟩
    rw [← hW]
    have HQ0 : Hid (W.heap[w.heap.size]? = some (.cells #[.int .i64 a, .int .i64 b, .int .i64 c, .int .i64 (x + 1)] 32 (0, 0))) := Lib.hid (by rw [hW]; exact oldBlk _ (oldBlk _ (oldBlk _ (oldBlk _ (newBlk w _ _ _ rfl)))))
    have HQ1 : Hid (W.heap[w.heap.size + 1]? = some (.cells #[.int .i64 0, .int .i64 0, .int .i64 0, .int .i64 0] 32 (0, 0))) := Lib.hid (by rw [hW]; exact oldBlk _ (oldBlk _ (oldBlk _ (newBlk _ _ _ _ (by simp)))))
    have HQ2 : Hid (W.heap[w.heap.size + 1 + 1]? = some (.cells #[.int .i64 0, .int .i64 0, .int .i64 0, .int .i64 0, .int .i64 0] 45 (0, 0))) := Lib.hid (by rw [hW]; exact oldBlk _ (oldBlk _ (newBlk _ _ _ _ (by simp))))
    have B0 : Below w.heap.size w W := by rw [hW]; exact (by repeat (first | (with_reducible exact Below.refl _ _) | (with_reducible refine Below.al ?_ _) | (with_reducible refine Below.dn ?_ _)))
    clear hW
    have c0 := cell_of (w := W) HQ0.out 0; have c1 := cell_of (w := W) HQ0.out 1; have c2 := cell_of (w := W) HQ0.out 2; have c3 := cell_of (w := W) HQ0.out 3; simp only [List.getElem?_toArray, List.getElem?_cons_zero, List.getElem?_cons_succ] at c0 c1 c2 c3
    go_region_held3 (fun w' => w'.cell? ⟨w.heap.size, 0, none⟩ = some (.int .i64 a) ∧ w'.cell? ⟨w.heap.size, 1, none⟩ = some (.int .i64 b) ∧ w'.cell? ⟨w.heap.size, 2, none⟩ = some (.int .i64 c) ∧ w'.cell? ⟨w.heap.size, 3, none⟩ = some (.int .i64 (x + 1))) (first | (refine ⟨?_, ?_, ?_, ?_⟩ <;> (first | (rw [set_far5 _ _ _ _ _ _ _ _ _ (by omega), set_far4 _ _ _ _ _ _ _ _ (by omega)]; assumption) | (rw [set_far4 _ _ _ _ _ _ _ _ (by omega)]; assumption))) | go_keep)
      (first
        | (go_at_call 16; refine (impl_NewAuthVector _ _ _ _ hc hr hxw).mono ?_; rintro e u1 ⟨rfl, b1⟩; have d0 := cell_of (w := u1) (cells_of_below (a := W.drew) b1 HQ0.out) 0; have d1 := cell_of (w := u1) (cells_of_below (a := W.drew) b1 HQ0.out) 1; have d2 := cell_of (w := u1) (cells_of_below (a := W.drew) b1 HQ0.out) 2; have d3 := cell_of (w := u1) (cells_of_below (a := W.drew) b1 HQ0.out) 3; simp only [List.getElem?_toArray, List.getElem?_cons_zero, List.getElem?_cons_succ] at d0 d1 d2 d3; have p0 := cell_of (w := u1) (cells_of_below (a := W.drew) b1 HQ1.out) 0; have p1 := cell_of (w := u1) (cells_of_below (a := W.drew) b1 HQ1.out) 1; have p2 := cell_of (w := u1) (cells_of_below (a := W.drew) b1 HQ1.out) 2; have p3 := cell_of (w := u1) (cells_of_below (a := W.drew) b1 HQ1.out) 3; simp only [List.getElem?_toArray, List.getElem?_cons_zero, List.getElem?_cons_succ] at p0 p1 p2 p3; have q0 := cell_of (w := u1) (cells_of_below (a := W.drew) b1 HQ2.out) 0; have q1 := cell_of (w := u1) (cells_of_below (a := W.drew) b1 HQ2.out) 1; have q2 := cell_of (w := u1) (cells_of_below (a := W.drew) b1 HQ2.out) 2; have q3 := cell_of (w := u1) (cells_of_below (a := W.drew) b1 HQ2.out) 3; have q4 := cell_of (w := u1) (cells_of_below (a := W.drew) b1 HQ2.out) 4; simp only [List.getElem?_toArray, List.getElem?_cons_zero, List.getElem?_cons_succ] at q0 q1 q2 q3 q4; have fp := free_of (w := u1) (cells_of_below (a := W.drew) b1 HQ1.out); have fq := free_of (w := u1) (cells_of_below (a := W.drew) b1 HQ2.out)))
    go_wp2
    have hz1 : w.heap.size < u1.heap.size := (Array.getElem?_eq_some_iff.1 (cells_of_below (a := W.drew) b1 HQ0.out)).1
    refine bodyPost_ret (v := .tuple #[.agg #[.int .i64 a, .int .i64 b, .int .i64 c, .int .i64 (x + 1)], .agg #[.int .i64 (M.nv0 r (x + 1)), .int .i64 (M.nv1 c r (x + 1)), .int .i64 (M.nv2 c r (x + 1)), .int .i64 (M.nv3 c r (x + 1)), .int .i64 (M.nv4 c r (x + 1))]]) (by simp [results, Try.results39, go_sem, *]) rfl ⟨rfl, ?_⟩
    exact (by repeat (first | (with_reducible exact Below.next (Below.drew B0) b1) | (with_reducible refine Below.st ?_ _ _ _ (by omega)) | (with_reducible refine Below.al ?_ _) | (with_reducible refine Below.dn ?_ _) | (with_reducible refine Below.drew ?_)))

set_option maxHeartbeats 4000000 in
theorem spec_NextAuthVector (a b c x r : Int) (w : World) (hr : (Lit.int .i64 r).wf = true) :
    Calls Try.prog 35 #[.agg #[.int .i64 a, .int .i64 b, .int .i64 c, .int .i64 x], .int .i64 r] w fun e w' => e = .returned (.tuple #[.agg #[.int .i64 a, .int .i64 b, .int .i64 c, .int .i64 (M.nSeq a b c x)], .agg #[.int .i64 (M.na0 a b c x r), .int .i64 (M.na1 a b c x r), .int .i64 (M.na2 a b c x r), .int .i64 (M.na3 a b c x r), .int .i64 (M.na4 a b c x r)]]) ∧ Below w.heap.size w w' := by
  unfold M.nSeq M.na0 M.na1 M.na2 M.na3 M.na4
  cases hok : M.nOk a b c x
  · simp only [Bool.false_eq_true, if_false]
    unfold M.nOk at hok
    cases hv : M.vCard a b c x
    · clear hok
      go_enter Try.func35, Try.ntmps35
      go_wp2_with fail
      refine (spec_IsValidSubscriberRecord _ _ _ _ _).mono ?_
      rw [hv]
      rintro e w' ⟨rfl, rfl⟩
      go_wp2
      refine bodyPost_ret (v := .tuple #[.agg #[.int .i64 a, .int .i64 b, .int .i64 c, .int .i64 x], .agg #[.int .i64 0, .int .i64 0, .int .i64 0, .int .i64 0, .int .i64 0]]) (by simp [results, Try.results35, go_sem]) rfl ⟨rfl, ?_⟩
      exact (by repeat (first | (with_reducible exact Below.refl _ _) | (with_reducible refine Below.al ?_ _) | (with_reducible refine Below.dn ?_ _)))
    · rw [hv] at hok
      have hx : x = 999999 := by simpa using hok
      clear hok
      subst hx
      go_enter Try.func35, Try.ntmps35
      go_wp2_with fail
      refine (spec_IsValidSubscriberRecord _ _ _ _ _).mono ?_
      rw [hv]
      rintro e w' ⟨rfl, rfl⟩
      go_wp2
      refine bodyPost_ret (v := .tuple #[.agg #[.int .i64 a, .int .i64 b, .int .i64 c, .int .i64 999999], .agg #[.int .i64 0, .int .i64 0, .int .i64 0, .int .i64 0, .int .i64 0]]) (by simp [results, Try.results35, go_sem]) rfl ⟨rfl, ?_⟩
      exact (by repeat (first | (with_reducible exact Below.refl _ _) | (with_reducible refine Below.al ?_ _) | (with_reducible refine Below.dn ?_ _)))
  · simp only [if_true]
    unfold M.nOk at hok
    simp only [Bool.and_eq_true] at hok
    obtain ⟨hv, hx⟩ := hok
    have hx' : ¬ x = 999999 := by simpa using hx
    obtain ⟨⟨k0, k1⟩, x0, x1⟩ := M.vCard_bd hv
    have hxe : (x == 999999) = false := by simp [hx']
    clear hx hx'
    have hc : (Lit.int .i64 c).wf = true := WalkArith.wf_i64 (by omega)
    have hxw : (Lit.int .i64 (x + 1)).wf = true := WalkArith.wf_i64 (by omega)
    go_enter Try.func35, Try.ntmps35
    go_wp2_with fail
    refine (spec_IsValidSubscriberRecord _ _ _ _ _).mono ?_
    rw [hv]
    rintro e w' ⟨rfl, rfl⟩
    go_wp2
    obtain ⟨W, hW⟩ : ∃ W, W = ((((((w).alloc (.cells #[.int .i64 a, .int .i64 b, .int .i64 c, .int .i64 x] 32)).alloc (.cells #[.int .i64 0, .int .i64 0, .int .i64 0, .int .i64 0] 32)).alloc (.cells #[.int .i64 0, .int .i64 0, .int .i64 0, .int .i64 0, .int .i64 0] 45)).alloc (.cells #[.int .i64 a, .int .i64 b, .int .i64 c, .int .i64 x] 32)).alloc (.cells #[.int .i64 a, .int .i64 b] 28)).alloc (.cells #[.int .i64 a, .int .i64 b, .int .i64 c, .int .i64 (x + 1)] 32) := ⟨_, rfl⟩
    rw [← hW]
    have HQ0 : Hid (W.heap[w.heap.size]? = some (.cells #[.int .i64 a, .int .i64 b, .int .i64 c, .int .i64 x] 32 (0, 0))) := Lib.hid (by rw [hW]; exact oldBlk _ (oldBlk _ (oldBlk _ (oldBlk _ (oldBlk _ (newBlk w _ _ _ rfl))))))
    have HQ1 : Hid (W.heap[w.heap.size + 1]? = some (.cells #[.int .i64 0, .int .i64 0, .int .i64 0, .int .i64 0] 32 (0, 0))) := Lib.hid (by rw [hW]; exact oldBlk _ (oldBlk _ (oldBlk _ (oldBlk _ (newBlk _ _ _ _ (by simp))))))
    have HQ2 : Hid (W.heap[w.heap.size + 1 + 1]? = some (.cells #[.int .i64 0, .int .i64 0, .int .i64 0, .int .i64 0, .int .i64 0] 45 (0, 0))) := Lib.hid (by rw [hW]; exact oldBlk _ (oldBlk _ (oldBlk _ (newBlk _ _ _ _ (by simp)))))
    have HQ3 : Hid (W.heap[w.heap.size + 1 + 1 + 1 + 1 + 1]? = some (.cells #[.int .i64 a, .int .i64 b, .int .i64 c, .int .i64 (x + 1)] 32 (0, 0))) := Lib.hid (by rw [hW]; exact newBlk _ _ _ _ (by simp))
    have B0 : Below w.heap.size w W := by rw [hW]; exact (by repeat (first | (with_reducible exact Below.refl _ _) | (with_reducible refine Below.al ?_ _) | (with_reducible refine Below.dn ?_ _)))
    clear hW
    have c0 := cell_of (w := W) HQ3.out 0; have c1 := cell_of (w := W) HQ3.out 1; have c2 := cell_of (w := W) HQ3.out 2; have c3 := cell_of (w := W) HQ3.out 3; simp only [List.getElem?_toArray, List.getElem?_cons_zero, List.getElem?_cons_succ] at c0 c1 c2 c3
    have k0 := cell_of (w := W) HQ0.out 0; have k1 := cell_of (w := W) HQ0.out 1; have k2 := cell_of (w := W) HQ0.out 2; have k3 := cell_of (w := W) HQ0.out 3; simp only [List.getElem?_toArray, List.getElem?_cons_zero, List.getElem?_cons_succ] at k0 k1 k2 k3
    go_region_held3 (fun w' => w'.cell? ⟨w.heap.size + 1 + 1 + 1 + 1 + 1, 0, none⟩ = some (.int .i64 a) ∧ w'.cell? ⟨w.heap.size + 1 + 1 + 1 + 1 + 1, 1, none⟩ = some (.int .i64 b) ∧ w'.cell? ⟨w.heap.size + 1 + 1 + 1 + 1 + 1, 2, none⟩ = some (.int .i64 c) ∧ w'.cell? ⟨w.heap.size + 1 + 1 + 1 + 1 + 1, 3, none⟩ = some (.int .i64 (x + 1)) ∧ w'.cell? ⟨w.heap.size, 2, none⟩ = some (.int .i64 c)) (first | (refine ⟨?_, ?_, ?_, ?_, ?_⟩ <;> (first | (rw [set_far5 _ _ _ _ _ _ _ _ _ (by omega), set_far4 _ _ _ _ _ _ _ _ (by omega)]; assumption) | (rw [set_far4 _ _ _ _ _ _ _ _ (by omega)]; assumption))) | go_keep)
      (first
        | (go_at_call 57; refine (spec_NewAuthVector _ _ _ _ hc hr hxw).mono ?_; rintro e u1 ⟨rfl, b1⟩; have d0 := cell_of (w := u1) (cells_of_below (a := W.drew) b1 HQ3.out) 0; have d1 := cell_of (w := u1) (cells_of_below (a := W.drew) b1 HQ3.out) 1; have d2 := cell_of (w := u1) (cells_of_below (a := W.drew) b1 HQ3.out) 2; have d3 := cell_of (w := u1) (cells_of_below (a := W.drew) b1 HQ3.out) 3; simp only [List.getElem?_toArray, List.getElem?_cons_zero, List.getElem?_cons_succ] at d0 d1 d2 d3; have l0 := cell_of (w := u1) (cells_of_below (a := W.drew) b1 HQ0.out) 0; have l1 := cell_of (w := u1) (cells_of_below (a := W.drew) b1 HQ0.out) 1; have l2 := cell_of (w := u1) (cells_of_below (a := W.drew) b1 HQ0.out) 2; have l3 := cell_of (w := u1) (cells_of_below (a := W.drew) b1 HQ0.out) 3; simp only [List.getElem?_toArray, List.getElem?_cons_zero, List.getElem?_cons_succ] at l0 l1 l2 l3; have p0 := cell_of (w := u1) (cells_of_below (a := W.drew) b1 HQ1.out) 0; have p1 := cell_of (w := u1) (cells_of_below (a := W.drew) b1 HQ1.out) 1; have p2 := cell_of (w := u1) (cells_of_below (a := W.drew) b1 HQ1.out) 2; have p3 := cell_of (w := u1) (cells_of_below (a := W.drew) b1 HQ1.out) 3; simp only [List.getElem?_toArray, List.getElem?_cons_zero, List.getElem?_cons_succ] at p0 p1 p2 p3; have q0 := cell_of (w := u1) (cells_of_below (a := W.drew) b1 HQ2.out) 0; have q1 := cell_of (w := u1) (cells_of_below (a := W.drew) b1 HQ2.out) 1; have q2 := cell_of (w := u1) (cells_of_below (a := W.drew) b1 HQ2.out) 2; have q3 := cell_of (w := u1) (cells_of_below (a := W.drew) b1 HQ2.out) 3; have q4 := cell_of (w := u1) (cells_of_below (a := W.drew) b1 HQ2.out) 4; simp only [List.getElem?_toArray, List.getElem?_cons_zero, List.getElem?_cons_succ] at q0 q1 q2 q3 q4; have fp := free_of (w := u1) (cells_of_below (a := W.drew) b1 HQ1.out); have fq := free_of (w := u1) (cells_of_below (a := W.drew) b1 HQ2.out)))
    go_wp2
    have hz1 : w.heap.size < u1.heap.size := (Array.getElem?_eq_some_iff.1 (cells_of_below (a := W.drew) b1 HQ0.out)).1
    refine bodyPost_ret (v := .tuple #[.agg #[.int .i64 a, .int .i64 b, .int .i64 c, .int .i64 (x + 1)], .agg #[.int .i64 (M.nv0 r (x + 1)), .int .i64 (M.nv1 c r (x + 1)), .int .i64 (M.nv2 c r (x + 1)), .int .i64 (M.nv3 c r (x + 1)), .int .i64 (M.nv4 c r (x + 1))]]) (by simp [results, Try.results35, go_sem, *]) rfl ⟨rfl, ?_⟩
    exact (by repeat (first | (with_reducible exact Below.next (Below.drew B0) b1) | (with_reducible refine Below.st ?_ _ _ _ (by omega)) | (with_reducible refine Below.al ?_ _) | (with_reducible refine Below.dn ?_ _) | (with_reducible refine Below.drew ?_)))

end Go.Proofs.Ytfenmicakmjelaa
