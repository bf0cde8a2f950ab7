/-
  Contracts: a temporary identity allocated, by the program and by the reference.
-/
import Derived.Test.YtgoelmhaobloaaaPairs
import Derived.Test.YtgoelmhaobloaaaTemp
import Derived.Test.YtgoelmhaobloaaaDrawI
namespace Go.Proofs.Ytgoelmhaobloaaa
open Go.RowKit

namespace M
/-- The first of fifty attempts that gives an identity which is not in use. -/
def alF (key p a b : Int) (zs : List Int) (n : Nat) : Option Nat := (List.range 50).find? fun (k : Nat) => !hasP zs p (cand key a b k) n
def alOk (key p a b : Int) (zs : List Int) (n : Nat) : Bool := (alF key p a b zs n).isSome
def alX (key p a b : Int) (zs : List Int) (n : Nat) : Int := match alF key p a b zs n with | some _ => p | none => 0
def alY (key p a b : Int) (zs : List Int) (n : Nat) : Int := match alF key p a b zs n with | some k => cand key a b k | none => 0
/-- The first k attempts give what is in use. -/
def Used (key p a b : Int) (zs : List Int) (n k : Nat) : Prop := ∀ j : Nat, j < k → hasP zs p (cand key a b j) n = true
theorem Used.zero (key p a b : Int) (zs : List Int) (n : Nat) : Used key p a b zs n 0 := fun j hj => absurd hj (by omega)
theorem Used.succ {key p a b : Int} {zs : List Int} {n k : Nat} (h : Used key p a b zs n k) (hk : hasP zs p (cand key a b k) n = true) : Used key p a b zs n (k + 1) := fun j hj => by
  by_cases e : j = k
  · subst e; exact hk
  · exact h j (by omega)
theorem Used.found {key p a b : Int} {zs : List Int} {n k : Nat} (h : Used key p a b zs n k) (hk : hasP zs p (cand key a b k) n = false) (h50 : k < 50) : alF key p a b zs n = some k := by
  unfold alF
  rw [List.find?_range_eq_some]
  exact ⟨by rw [hk]; rfl, by simpa using h50, fun j hj => by rw [h j hj]; rfl⟩
theorem Used.none_ {key p a b : Int} {zs : List Int} {n : Nat} (h : Used key p a b zs n 50) : alF key p a b zs n = none := by
  unfold alF
  rw [List.find?_eq_none]
  intro j hj
  rw [h j (List.mem_range.1 hj)]
  simp
theorem al_some {key p a b : Int} {zs : List Int} {n k : Nat} (h : alF key p a b zs n = some k) : alOk key p a b zs n = true ∧ alX key p a b zs n = p ∧ alY key p a b zs n = cand key a b k := by
  unfold alOk alX alY; rw [h]; exact ⟨rfl, rfl, rfl⟩
theorem al_none {key p a b : Int} {zs : List Int} {n : Nat} (h : alF key p a b zs n = none) : alOk key p a b zs n = false ∧ alX key p a b zs n = 0 ∧ alY key p a b zs n = 0 := by
  unfold alOk alX alY; rw [h]; exact ⟨rfl, rfl, rfl⟩
end M

set_option maxRecDepth 100000 in
set_option maxHeartbeats 4000000 in
theorem impl_AllocateTempID (key p a b : Int) (va : Value) (n : Nat) (zs : List Int) (w : World) (hk : (Lit.int .i64 key).wf = true) (ha : (Lit.int .i64 a).wf = true) (hb : (Lit.int .i64 b).wf = true) (hr : RdP w va n zs)
    (X Y : Int) (Q : Bool) (hX : X = M.alX key p a b zs n) (hY : Y = M.alY key p a b zs n) (hQ : Q = M.alOk key p a b zs n) :
    Calls Try.prog 47 #[.int .i64 key, .int .i64 p, .agg #[.int .i64 a, .int .i64 b], va] w fun e w' => e = .returned (.tuple #[.agg #[.int .i64 X, .int .i64 Y], .bool Q]) ∧ Below w.heap.size w w' := by
  have HXYQ := Lib.hid (And.intro hX (And.intro hY hQ))
  clear hX hY hQ
  obtain ⟨A, c, rfl, -⟩ := id hr.2
  have HRD := Lib.hid hr
  clear hr
  have hP := oldBlk (.cells #[.int .i64 0, .int .i64 0] 32) (newBlk w #[.int .i64 a, .int .i64 b] 34 w.heap.size rfl)
  have hR := newBlk (w.alloc (.cells #[.int .i64 a, .int .i64 b] 34)) #[.int .i64 0, .int .i64 0] 32 (w.heap.size + 1) (by simp)
  have HP0 := Lib.hid hP
  have HR0 := Lib.hid hR
  clear hP hR
  go_enter Try.func47, Try.ntmps47
  go_wp2_with fail
  go_loopw [10] (fun i wr => ∃ k : Nat, k ≤ 50 ∧ i = .int .i64 k ∧ wr.heap[w.heap.size]? = some (.cells #[.int .i64 a, .int .i64 b] 34 (0, 0)) ∧ wr.heap[w.heap.size + 1]? = some (.cells #[.int .i64 0, .int .i64 0] 32 (0, 0)) ∧ Below w.heap.size w wr ∧ M.Used key p a b zs n k) (fun i _ => 50 - (intOf i).toNat)
  case atStart => exact ⟨0, by omega, rfl, HP0.out, HR0.out, Below.al (Below.al (Below.refl _ _) _) _, M.Used.zero _ _ _ _ _ _⟩
  case round =>
    clear HP0 HR0
    obtain ⟨k, hk50, rfl, hP, hR, hbel, hus⟩ := hrel
    have HP := Lib.hid hP
    have HR := Lib.hid hR
    have B0 := hbel
    have HU := Lib.hid hus
    clear hP hR hbel hus
    have lP_0 : w.heap.size < wr.heap.size := (Array.getElem?_eq_some_iff.1 HP.out).1
    have lR_0 : w.heap.size + 1 < wr.heap.size := (Array.getElem?_eq_some_iff.1 HR.out).1
    by_cases hlt : k < 50
    · have hkn := WalkArith.wf_i64 (n := (k : Int)) (by omega)
      obtain ⟨q, hq⟩ : ∃ q, q = M.cand key a b (k : Int) := ⟨_, rfl⟩
      have HQ := Lib.hid hq
      clear hq
      have cP0 := cell_of HP.out 0
      have cP1 := cell_of HP.out 1
      simp only [List.getElem?_toArray, List.getElem?_cons_zero, List.getElem?_cons_succ] at cP0 cP1
      have fP := free_of HP.out
      have sne := bxNe
      have dPR : ¬ w.heap.size = w.heap.size + 1 := by omega
      have dRP : ¬ w.heap.size + 1 = w.heap.size := by omega
      go_wp2_with fail
      refine (impl_TempIDCandidate key p a b (k : Int) _ hk ha hb hkn).mono ?_
      rw [← HQ.out]
      rintro e w1 ⟨rfl, b1⟩
      have NP : Hid (w1.heap[w.heap.size]? = some (.cells #[.int .i64 a, .int .i64 b] 34 (0, 0))) := Lib.hid (cells_of_below b1 (by (repeat (first | (with_reducible exact HP.out) | (with_reducible exact HR.out) | ((with_reducible refine newBlk _ _ _ _ ?_); (first | rfl | (simp; done))) | ((with_reducible refine bxSetNe ?_ _ _ ?_); (rotate_left); (first | omega | (simp; omega))) | (with_reducible refine drewBlk ?_) | (with_reducible refine oldBlk _ ?_)))))
      have NR : Hid (w1.heap[w.heap.size + 1]? = some (.cells #[.int .i64 0, .int .i64 0] 32 (0, 0))) := Lib.hid (cells_of_below b1 (by (repeat (first | (with_reducible exact HP.out) | (with_reducible exact HR.out) | ((with_reducible refine newBlk _ _ _ _ ?_); (first | rfl | (simp; done))) | ((with_reducible refine bxSetNe ?_ _ _ ?_); (rotate_left); (first | omega | (simp; omega))) | (with_reducible refine drewBlk ?_) | (with_reducible refine oldBlk _ ?_)))))
      have NO : Below w.heap.size w w1 := Below.next (by (repeat (first | (with_reducible exact B0) | ((with_reducible refine Below.st ?_ _ _ _ ?_); (rotate_left); (first | omega | (simp; omega))) | (with_reducible refine Below.al ?_ _) | (with_reducible refine Below.drew ?_)))) b1
      clear cP0 cP1 fP sne dPR dRP HP HR B0
      have HP := NP
      have HR := NR
      have B0 := NO
      clear NP NR NO
      have lP_1 : w.heap.size < w1.heap.size := (Array.getElem?_eq_some_iff.1 HP.out).1
      have lR_1 : w.heap.size + 1 < w1.heap.size := (Array.getElem?_eq_some_iff.1 HR.out).1
      have zz1 := B0.size
      clear b1
      have cP0 := cell_of HP.out 0
      have cP1 := cell_of HP.out 1
      simp only [List.getElem?_toArray, List.getElem?_cons_zero, List.getElem?_cons_succ] at cP0 cP1
      have fP := free_of HP.out
      have sne := bxNe
      have dPR : ¬ w.heap.size = w.heap.size + 1 := by omega
      have dRP : ¬ w.heap.size + 1 = w.heap.size := by omega
      go_wp2_with fail
      refine (slices_Contains_tid _ n zs p q _ (HRD.out.below (Below.next B0 (Below.al (Below.refl _ _) _)))).mono ?_
      rintro e w2 ⟨rfl, b2⟩
      have NP : Hid (w2.heap[w.heap.size]? = some (.cells #[.int .i64 a, .int .i64 b] 34 (0, 0))) := Lib.hid (cells_of_below b2 (by (repeat (first | (with_reducible exact HP.out) | (with_reducible exact HR.out) | ((with_reducible refine newBlk _ _ _ _ ?_); (first | rfl | (simp; done))) | ((with_reducible refine bxSetNe ?_ _ _ ?_); (rotate_left); (first | omega | (simp; omega))) | (with_reducible refine drewBlk ?_) | (with_reducible refine oldBlk _ ?_)))))
      have NR : Hid (w2.heap[w.heap.size + 1]? = some (.cells #[.int .i64 0, .int .i64 0] 32 (0, 0))) := Lib.hid (cells_of_below b2 (by (repeat (first | (with_reducible exact HP.out) | (with_reducible exact HR.out) | ((with_reducible refine newBlk _ _ _ _ ?_); (first | rfl | (simp; done))) | ((with_reducible refine bxSetNe ?_ _ _ ?_); (rotate_left); (first | omega | (simp; omega))) | (with_reducible refine drewBlk ?_) | (with_reducible refine oldBlk _ ?_)))))
      have NC : Hid (w2.heap[w1.heap.size]? = some (.cells #[.int .i64 p, .int .i64 q] 32 (0, 0))) := Lib.hid (cells_of_below b2 (by (repeat (first | (with_reducible exact HP.out) | (with_reducible exact HR.out) | ((with_reducible refine newBlk _ _ _ _ ?_); (first | rfl | (simp; done))) | ((with_reducible refine bxSetNe ?_ _ _ ?_); (rotate_left); (first | omega | (simp; omega))) | (with_reducible refine drewBlk ?_) | (with_reducible refine oldBlk _ ?_)))))
      have NO : Below w.heap.size w w2 := Below.next (by (repeat (first | (with_reducible exact B0) | ((with_reducible refine Below.st ?_ _ _ _ ?_); (rotate_left); (first | omega | (simp; omega))) | (with_reducible refine Below.al ?_ _) | (with_reducible refine Below.drew ?_)))) b2
      clear cP0 cP1 fP sne dPR dRP HP HR B0
      have HP := NP
      have HR := NR
      have HC := NC
      have B0 := NO
      clear NP NR NC NO
      have lP_2 : w.heap.size < w2.heap.size := (Array.getElem?_eq_some_iff.1 HP.out).1
      have lR_2 : w.heap.size + 1 < w2.heap.size := (Array.getElem?_eq_some_iff.1 HR.out).1
      have lC_2 : w1.heap.size < w2.heap.size := (Array.getElem?_eq_some_iff.1 HC.out).1
      have zz2 := B0.size
      clear b2
      cases hh : hasP zs p q n
      · obtain ⟨o1, o2, o3⟩ := M.al_some (HU.out.found (by rw [← HQ.out]; exact hh) hlt)
        obtain rfl : Q = true := by rw [HXYQ.out.2.2, o1]
        obtain rfl : p = X := by rw [HXYQ.out.1, o2]
        obtain rfl : q = Y := by rw [HXYQ.out.2.1, o3, HQ.out]
        clear o1 o2 o3 HU HQ HXYQ HRD hh
        have cR0 := cell_of HR.out 0
        have cR1 := cell_of HR.out 1
        have cC0 := cell_of HC.out 0
        have cC1 := cell_of HC.out 1
        simp only [List.getElem?_toArray, List.getElem?_cons_zero, List.getElem?_cons_succ] at cR0 cR1 cC0 cC1
        have fR := free_of HR.out
        have fC := free_of HC.out
        have sne := bxNe
        have dPR : ¬ w.heap.size = w.heap.size + 1 := by omega
        have dPC : ¬ w.heap.size = w1.heap.size := by omega
        have dRP : ¬ w.heap.size + 1 = w.heap.size := by omega
        have dRC : ¬ w.heap.size + 1 = w1.heap.size := by omega
        have dCP : ¬ w1.heap.size = w.heap.size := by omega
        have dCR : ¬ w1.heap.size = w.heap.size + 1 := by omega
        go_wp2_with fail
        refine bodyPost_ret (v := .tuple #[.agg #[.int .i64 p, .int .i64 q], .bool true]) (by simp [results, Try.results47, go_sem, *]) rfl ⟨rfl, ?_⟩
        exact (by (repeat (first | (with_reducible exact B0) | ((with_reducible refine Below.st ?_ _ _ _ ?_); (rotate_left); (first | omega | (simp; omega))) | (with_reducible refine Below.al ?_ _) | (with_reducible refine Below.drew ?_))))
      · have HU2 := Lib.hid (HU.out.succ (by rw [← HQ.out]; exact hh))
        clear HU HQ hh
        go_wp2_with fail
        go_roundw
        case rel => exact ⟨k + 1, by omega, by go_num, HP.out, HR.out, B0, HU2.out⟩
        case measure => simp [intOf]; omega
    · obtain rfl : k = 50 := by omega
      obtain ⟨o1, o2, o3⟩ := M.al_none HU.out.none_
      obtain rfl : Q = false := by rw [HXYQ.out.2.2, o1]
      obtain rfl : X = 0 := by rw [HXYQ.out.1, o2]
      obtain rfl : Y = 0 := by rw [HXYQ.out.2.1, o3]
      clear o1 o2 o3 HU HXYQ HRD
      have cR0 := cell_of HR.out 0
      have cR1 := cell_of HR.out 1
      simp only [List.getElem?_toArray, List.getElem?_cons_zero, List.getElem?_cons_succ] at cR0 cR1
      have fR := free_of HR.out
      have sne := bxNe
      have dPR : ¬ w.heap.size = w.heap.size + 1 := by omega
      have dRP : ¬ w.heap.size + 1 = w.heap.size := by omega
      go_wp2_with fail
      refine bodyPost_ret (v := .tuple #[.agg #[.int .i64 0, .int .i64 0], .bool false]) (by simp [results, Try.results47, go_sem, *]) rfl ⟨rfl, ?_⟩
      exact (by (repeat (first | (with_reducible exact B0) | ((with_reducible refine Below.st ?_ _ _ _ ?_); (rotate_left); (first | omega | (simp; omega))) | (with_reducible refine Below.al ?_ _) | (with_reducible refine Below.drew ?_))))

set_option maxRecDepth 100000 in
set_option maxHeartbeats 4000000 in
theorem spec_AllocateTempID (key p a b : Int) (va : Value) (n : Nat) (zs : List Int) (w : World) (hk : (Lit.int .i64 key).wf = true) (ha : (Lit.int .i64 a).wf = true) (hb : (Lit.int .i64 b).wf = true) (hr : RdP w va n zs)
    (X Y : Int) (Q : Bool) (hX : X = M.alX key p a b zs n) (hY : Y = M.alY key p a b zs n) (hQ : Q = M.alOk key p a b zs n) :
    Calls Try.prog 45 #[.int .i64 key, .int .i64 p, .agg #[.int .i64 a, .int .i64 b], va] w fun e w' => e = .returned (.tuple #[.agg #[.int .i64 X, .int .i64 Y], .bool Q]) ∧ Below w.heap.size w w' := by
  have HXYQ := Lib.hid (And.intro hX (And.intro hY hQ))
  clear hX hY hQ
  obtain ⟨A, c, rfl, -⟩ := id hr.2
  have HRD := Lib.hid hr
  clear hr
  have hP := oldBlk (.cells #[.int .i64 0, .int .i64 0] 32) (newBlk w #[.int .i64 a, .int .i64 b] 34 w.heap.size rfl)
  have hR := newBlk (w.alloc (.cells #[.int .i64 a, .int .i64 b] 34)) #[.int .i64 0, .int .i64 0] 32 (w.heap.size + 1) (by simp)
  have HP0 := Lib.hid hP
  have HR0 := Lib.hid hR
  clear hP hR
  go_enter Try.func45, Try.ntmps45
  go_wp2_with fail
  go_loopw [10] (fun i wr => ∃ k : Nat, k ≤ 50 ∧ i = .int .i64 k ∧ wr.heap[w.heap.size]? = some (.cells #[.int .i64 a, .int .i64 b] 34 (0, 0)) ∧ wr.heap[w.heap.size + 1]? = some (.cells #[.int .i64 0, .int .i64 0] 32 (0, 0)) ∧ Below w.heap.size w wr ∧ M.Used key p a b zs n k) (fun i _ => 50 - (intOf i).toNat)
  case atStart => exact ⟨0, by omega, rfl, HP0.out, HR0.out, Below.al (Below.al (Below.refl _ _) _) _, M.Used.zero _ _ _ _ _ _⟩
  case round =>
    clear HP0 HR0
    obtain ⟨k, hk50, rfl, hP, hR, hbel, hus⟩ := hrel
    have HP := Lib.hid hP
    have HR := Lib.hid hR
    have B0 := hbel
    have HU := Lib.hid hus
    clear hP hR hbel hus
    have lP_0 : w.heap.size < wr.heap.size := (Array.getElem?_eq_some_iff.1 HP.out).1
    have lR_0 : w.heap.size + 1 < wr.heap.size := (Array.getElem?_eq_some_iff.1 HR.out).1
    by_cases hlt : k < 50
    · have hkn := WalkArith.wf_i64 (n := (k : Int)) (by omega)
      obtain ⟨q, hq⟩ : ∃ q, q = M.cand key a b (k : Int) := ⟨_, rfl⟩
      have HQ := Lib.hid hq
      clear hq
      have cP0 := cell_of HP.out 0
      have cP1 := cell_of HP.out 1
      simp only [List.getElem?_toArray, List.getElem?_cons_zero, List.getElem?_cons_succ] at cP0 cP1
      have fP := free_of HP.out
      have sne := bxNe
      have dPR : ¬ w.heap.size = w.heap.size + 1 := by omega
      have dRP : ¬ w.heap.size + 1 = w.heap.size := by omega
      go_wp2_with fail
      refine (spec_TempIDCandidate key p a b (k : Int) _ hk ha hb hkn).mono ?_
      rw [← HQ.out]
      rintro e w1 ⟨rfl, b1⟩
      have NP : Hid (w1.heap[w.heap.size]? = some (.cells #[.int .i64 a, .int .i64 b] 34 (0, 0))) := Lib.hid (cells_of_below b1 (by (repeat (first | (with_reducible exact HP.out) | (with_reducible exact HR.out) | ((with_reducible refine newBlk _ _ _ _ ?_); (first | rfl | (simp; done))) | ((with_reducible refine bxSetNe ?_ _ _ ?_); (rotate_left); (first | omega | (simp; omega))) | (with_reducible refine drewBlk ?_) | (with_reducible refine oldBlk _ ?_)))))
      have NR : Hid (w1.heap[w.heap.size + 1]? = some (.cells #[.int .i64 0, .int .i64 0] 32 (0, 0))) := Lib.hid (cells_of_below b1 (by (repeat (first | (with_reducible exact HP.out) | (with_reducible exact HR.out) | ((with_reducible refine newBlk _ _ _ _ ?_); (first | rfl | (simp; done))) | ((with_reducible refine bxSetNe ?_ _ _ ?_); (rotate_left); (first | omega | (simp; omega))) | (with_reducible refine drewBlk ?_) | (with_reducible refine oldBlk _ ?_)))))
      have NO : Below w.heap.size w w1 := Below.next (by (repeat (first | (with_reducible exact B0) | ((with_reducible refine Below.st ?_ _ _ _ ?_); (rotate_left); (first | omega | (simp; omega))) | (with_reducible refine Below.al ?_ _) | (with_reducible refine Below.drew ?_)))) b1
      clear cP0 cP1 fP sne dPR dRP HP HR B0
      have HP := NP
      have HR := NR
      have B0 := NO
      clear NP NR NO
      have lP_1 : w.heap.size < w1.heap.size := (Array.getElem?_eq_some_iff.1 HP.out).1
      have lR_1 : w.heap.size + 1 < w1.heap.size := (Array.getElem?_eq_some_iff.1 HR.out).1
      have zz1 := B0.size
      clear b1
      have cP0 := cell_of HP.out 0
      have cP1 := cell_of HP.out 1
      simp only [List.getElem?_toArray, List.getElem?_cons_zero, List.getElem?_cons_succ] at cP0 cP1
      have fP := free_of HP.out
      have sne := bxNe
      have dPR : ¬ w.heap.size = w.heap.size + 1 := by omega
      have dRP : ¬ w.heap.size + 1 = w.heap.size := by omega
      go_wp2_with fail
      refine (spec_l4Has _ n zs p q _ (HRD.out.below (Below.next B0 (Below.al (Below.refl _ _) _)))).mono ?_
      rintro e w2 ⟨rfl, b2⟩
      have NP : Hid (w2.heap[w.heap.size]? = some (.cells #[.int .i64 a, .int .i64 b] 34 (0, 0))) := Lib.hid (cells_of_below b2 (by (repeat (first | (with_reducible exact HP.out) | (with_reducible exact HR.out) | ((with_reducible refine newBlk _ _ _ _ ?_); (first | rfl | (simp; done))) | ((with_reducible refine bxSetNe ?_ _ _ ?_); (rotate_left); (first | omega | (simp; omega))) | (with_reducible refine drewBlk ?_) | (with_reducible refine oldBlk _ ?_)))))
      have NR : Hid (w2.heap[w.heap.size + 1]? = some (.cells #[.int .i64 0, .int .i64 0] 32 (0, 0))) := Lib.hid (cells_of_below b2 (by (repeat (first | (with_reducible exact HP.out) | (with_reducible exact HR.out) | ((with_reducible refine newBlk _ _ _ _ ?_); (first | rfl | (simp; done))) | ((with_reducible refine bxSetNe ?_ _ _ ?_); (rotate_left); (first | omega | (simp; omega))) | (with_reducible refine drewBlk ?_) | (with_reducible refine oldBlk _ ?_)))))
      have NC : Hid (w2.heap[w1.heap.size]? = some (.cells #[.int .i64 p, .int .i64 q] 32 (0, 0))) := Lib.hid (cells_of_below b2 (by (repeat (first | (with_reducible exact HP.out) | (with_reducible exact HR.out) | ((with_reducible refine newBlk _ _ _ _ ?_); (first | rfl | (simp; done))) | ((with_reducible refine bxSetNe ?_ _ _ ?_); (rotate_left); (first | omega | (simp; omega))) | (with_reducible refine drewBlk ?_) | (with_reducible refine oldBlk _ ?_)))))
      have NO : Below w.heap.size w w2 := Below.next (by (repeat (first | (with_reducible exact B0) | ((with_reducible refine Below.st ?_ _ _ _ ?_); (rotate_left); (first | omega | (simp; omega))) | (with_reducible refine Below.al ?_ _) | (with_reducible refine Below.drew ?_)))) b2
      clear cP0 cP1 fP sne dPR dRP HP HR B0
      have HP := NP
      have HR := NR
      have HC := NC
      have B0 := NO
      clear NP NR NC NO
      have lP_2 : w.heap.size < w2.heap.size := (Array.getElem?_eq_some_iff.1 HP.out).1
      have lR_2 : w.heap.size + 1 < w2.heap.size := (Array.getElem?_eq_some_iff.1 HR.out).1
      have lC_2 : w1.heap.size < w2.heap.size := (Array.getElem?_eq_some_iff.1 HC.out).1
      have zz2 := B0.size
      clear b2
      cases hh : hasP zs p q n
      · obtain ⟨o1, o2, o3⟩ := M.al_some (HU.out.found (by rw [← HQ.out]; exact hh) hlt)
        obtain rfl : Q = true := by rw [HXYQ.out.2.2, o1]
        obtain rfl : p = X := by rw [HXYQ.out.1, o2]
        obtain rfl : q = Y := by rw [HXYQ.out.2.1, o3, HQ.out]
        clear o1 o2 o3 HU HQ HXYQ HRD hh
        have cR0 := cell_of HR.out 0
        have cR1 := cell_of HR.out 1
        have cC0 := cell_of HC.out 0
        have cC1 := cell_of HC.out 1
        simp only [List.getElem?_toArray, List.getElem?_cons_zero, List.getElem?_cons_succ] at cR0 cR1 cC0 cC1
        have fR := free_of HR.out
        have fC := free_of HC.out
        have sne := bxNe
        have dPR : ¬ w.heap.size = w.heap.size + 1 := by omega
        have dPC : ¬ w.heap.size = w1.heap.size := by omega
        have dRP : ¬ w.heap.size + 1 = w.heap.size := by omega
        have dRC : ¬ w.heap.size + 1 = w1.heap.size := by omega
        have dCP : ¬ w1.heap.size = w.heap.size := by omega
        have dCR : ¬ w1.heap.size = w.heap.size + 1 := by omega
        go_wp2_with fail
        refine bodyPost_ret (v := .tuple #[.agg #[.int .i64 p, .int .i64 q], .bool true]) (by simp [results, Try.results45, go_sem, *]) rfl ⟨rfl, ?_⟩
        exact (by (repeat (first | (with_reducible exact B0) | ((with_reducible refine Below.st ?_ _ _ _ ?_); (rotate_left); (first | omega | (simp; omega))) | (with_reducible refine Below.al ?_ _) | (with_reducible refine Below.drew ?_))))
      · have HU2 := Lib.hid (HU.out.succ (by rw [← HQ.out]; exact hh))
        clear HU HQ hh
        go_wp2_with fail
        go_roundw
        case rel => exact ⟨k + 1, by omega, by go_num, HP.out, HR.out, B0, HU2.out⟩
        case measure => simp [intOf]; omega
    · obtain rfl : k = 50 := by omega
      obtain ⟨o1, o2, o3⟩ := M.al_none HU.out.none_
      obtain rfl : Q = false := by rw [HXYQ.out.2.2, o1]
      obtain rfl : X = 0 := by rw [HXYQ.out.1, o2]
      obtain rfl : Y = 0 := by rw [HXYQ.out.2.1, o3]
      clear o1 o2 o3 HU HXYQ HRD
      have cR0 := cell_of HR.out 0
      have cR1 := cell_of HR.out 1
      simp only [List.getElem?_toArray, List.getElem?_cons_zero, List.getElem?_cons_succ] at cR0 cR1
      have fR := free_of HR.out
      have sne := bxNe
      have dPR : ¬ w.heap.size = w.heap.size + 1 := by omega
      have dRP : ¬ w.heap.size + 1 = w.heap.size := by omega
      go_wp2_with fail
      refine bodyPost_ret (v := .tuple #[.agg #[.int .i64 0, .int .i64 0], .bool false]) (by simp [results, Try.results45, go_sem, *]) rfl ⟨rfl, ?_⟩
      exact (by (repeat (first | (with_reducible exact B0) | ((with_reducible refine Below.st ?_ _ _ _ ?_); (rotate_left); (first | omega | (simp; omega))) | (with_reducible refine Below.al ?_ _) | (with_reducible refine Below.drew ?_))))

end Go.Proofs.Ytgoelmhaobloaaa
