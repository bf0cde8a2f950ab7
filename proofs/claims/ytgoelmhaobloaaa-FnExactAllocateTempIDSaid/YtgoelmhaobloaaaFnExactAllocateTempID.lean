/-
  For all keys, pools, identities and lists of identities in use (lists of more than 1048576 identities the law passes by itself) AllocateTempID of the program gives what the reference gives, and leaves its list. No condition.
-/
import Derived.Test.YtgoelmhaobloaaaRows
import Derived.Test.YtgoelmhaobloaaaAlloc
namespace Go.Proofs.Ytgoelmhaobloaaa.lawFnExactAllocateTempID
open Go.Proofs.Ytgoelmhaobloaaa
open Go.ChangeShapes Go.WideShapes Go.ChangeAt Go.RowKit
open Go.ChangeMaps (open_string shut_string)
set_option linter.unusedVariables false

set_option maxRecDepth 100000 in
set_option maxHeartbeats 8000000 in
theorem walk (key p a b : Int) (v : Value) (n : Nat) (zs : List Int) (w : World) (hk : (Lit.int .i64 key).wf = true) (hp : (Lit.int .i64 p).wf = true) (ha : (Lit.int .i64 a).wf = true) (hb : (Lit.int .i64 b).wf = true) (hr : RdP w v n zs) (hz : ∀ z ∈ zs, (Lit.int .i64 z).wf = true) :
    Calls Try.prog 12 #[.int .i64 key, .int .i64 p, .agg #[.int .i64 a, .int .i64 b], v] w fun e w' => e = .returned (.bool true) ∧ Below w.heap.size w w' := by
  obtain ⟨A, c, rfl, hnc, hcm, -⟩ := id hr.2
  unfold maxLen at hcm
  have HP := Lib.hid (newBlk w #[.int .i64 a, .int .i64 b] 30 w.heap.size rfl)
  have B0 := Below.al (Below.refl w.heap.size w) (.cells #[.int .i64 a, .int .i64 b] 30)
  have RU := Lib.hid (hr.below B0)
  clear hr
  obtain ⟨X, hX⟩ : ∃ X, X = M.alX key p a b zs n := ⟨_, rfl⟩
  obtain ⟨Y, hY⟩ : ∃ Y, Y = M.alY key p a b zs n := ⟨_, rfl⟩
  obtain ⟨Q, hQ⟩ : ∃ Q, Q = M.alOk key p a b zs n := ⟨_, rfl⟩
  have HX := Lib.hid hX
  have HY := Lib.hid hY
  have HQ := Lib.hid hQ
  clear hX hY hQ
  obtain ⟨w0, hw0⟩ : ∃ w0, w0 = w.alloc (.cells #[.int .i64 a, .int .i64 b] 30) := ⟨_, rfl⟩
  rw [← hw0] at HP B0 RU
  have HW0 := Lib.hid hw0
  clear hw0
  have lP_0 : w.heap.size < w0.heap.size := (Array.getElem?_eq_some_iff.1 HP.out).1
  by_cases hn : n ≤ 1048576
  · go_enter Try.func12, Try.ntmps12
    go_wp2_with fail
    rw [← HW0.out]
    clear HW0
    refine (laws_szTempIDS A n c _ (by omega)).mono ?_
    rw [if_pos hn]
    rintro e w' ⟨rfl, rfl⟩
    have hl1 : (n : Int) ≤ 1048576 := by omega
    have cP0 := cell_of HP.out 0
    have cP1 := cell_of HP.out 1
    simp only [List.getElem?_toArray, List.getElem?_cons_zero, List.getElem?_cons_succ] at cP0 cP1
    have fP := free_of HP.out
    have sne := bxNe
    go_wp2_with fail
    refine (laws_toSubscriberID_below a b _).mono ?_
    rintro e w1 ⟨rfl, b1⟩
    have NP : Hid (w1.heap[w.heap.size]? = some (.cells #[.int .i64 a, .int .i64 b] 30 (0, 0))) := Lib.hid (cells_of_below b1 (by (repeat (first | (with_reducible exact HP.out) | ((with_reducible refine newBlk _ _ _ _ ?_); (first | rfl | (simp; done))) | ((with_reducible refine bxSetNe ?_ _ _ ?_); (rotate_left); (first | omega | (simp; omega))) | (with_reducible refine drewBlk ?_) | (with_reducible refine oldBlk _ ?_)))))
    have NO : Below w.heap.size w w1 := Below.next (by (repeat (first | (with_reducible exact B0) | ((with_reducible refine Below.st ?_ _ _ _ ?_); (rotate_left); (first | omega | (simp; omega))) | (with_reducible refine Below.al ?_ _) | (with_reducible refine Below.drew ?_)))) b1
    replace RU := Lib.hid (RU.out.below (Below.next (by (repeat (first | (with_reducible exact Below.refl _ _) | (with_reducible refine Below.al ?_ _) | (with_reducible refine Below.drew ?_)))) b1))
    clear cP0 cP1 fP sne HP B0
    have HP := NP
    have B0 := NO
    clear NP NO
    have lP_1 : w.heap.size < w1.heap.size := (Array.getElem?_eq_some_iff.1 HP.out).1
    have zz1 := B0.size
    clear b1
    go_wp2_with fail
    refine (laws_toTempIDS _ n zs _ (RU.out.below (by (repeat (first | (with_reducible exact Below.refl _ _) | (with_reducible refine Below.al ?_ _) | (with_reducible refine Below.drew ?_))))) hn).mono ?_
    rintro e w2 ⟨vA, rfl, oA, b2⟩
    have NP : Hid (w2.heap[w.heap.size]? = some (.cells #[.int .i64 a, .int .i64 b] 30 (0, 0))) := Lib.hid (cells_of_below b2 (by (repeat (first | (with_reducible exact HP.out) | ((with_reducible refine newBlk _ _ _ _ ?_); (first | rfl | (simp; done))) | ((with_reducible refine bxSetNe ?_ _ _ ?_); (rotate_left); (first | omega | (simp; omega))) | (with_reducible refine drewBlk ?_) | (with_reducible refine oldBlk _ ?_)))))
    have NO : Below w.heap.size w w2 := Below.next (by (repeat (first | (with_reducible exact B0) | ((with_reducible refine Below.st ?_ _ _ _ ?_); (rotate_left); (first | omega | (simp; omega))) | (with_reducible refine Below.al ?_ _) | (with_reducible refine Below.drew ?_)))) b2
    replace RU := Lib.hid (RU.out.below (Below.next (by (repeat (first | (with_reducible exact Below.refl _ _) | (with_reducible refine Below.al ?_ _) | (with_reducible refine Below.drew ?_)))) b2))
    clear HP B0
    have HP := NP
    have B0 := NO
    clear NP NO
    have lP_2 : w.heap.size < w2.heap.size := (Array.getElem?_eq_some_iff.1 HP.out).1
    have zz2 := B0.size
    clear b2
    have RA := Lib.hid oA.rd
    clear oA
    go_wp2_with fail
    refine (spec_AllocateTempID key p a b _ n zs _ hk ha hb (RA.out.below (by (repeat (first | (with_reducible exact Below.refl _ _) | (with_reducible refine Below.al ?_ _) | (with_reducible refine Below.drew ?_))))) X Y Q HX.out HY.out HQ.out).mono ?_
    rintro e w3 ⟨rfl, b3⟩
    have NP : Hid (w3.heap[w.heap.size]? = some (.cells #[.int .i64 a, .int .i64 b] 30 (0, 0))) := Lib.hid (cells_of_below b3 (by (repeat (first | (with_reducible exact HP.out) | ((with_reducible refine newBlk _ _ _ _ ?_); (first | rfl | (simp; done))) | ((with_reducible refine bxSetNe ?_ _ _ ?_); (rotate_left); (first | omega | (simp; omega))) | (with_reducible refine drewBlk ?_) | (with_reducible refine oldBlk _ ?_)))))
    have NO : Below w.heap.size w w3 := Below.next (by (repeat (first | (with_reducible exact B0) | ((with_reducible refine Below.st ?_ _ _ _ ?_); (rotate_left); (first | omega | (simp; omega))) | (with_reducible refine Below.al ?_ _) | (with_reducible refine Below.drew ?_)))) b3
    replace RU := Lib.hid (RU.out.below (Below.next (by (repeat (first | (with_reducible exact Below.refl _ _) | (with_reducible refine Below.al ?_ _) | (with_reducible refine Below.drew ?_)))) b3))
    replace RA := Lib.hid (RA.out.below (Below.next (by (repeat (first | (with_reducible exact Below.refl _ _) | (with_reducible refine Below.al ?_ _) | (with_reducible refine Below.drew ?_)))) b3))
    clear HP B0
    have HP := NP
    have B0 := NO
    clear NP NO
    have lP_3 : w.heap.size < w3.heap.size := (Array.getElem?_eq_some_iff.1 HP.out).1
    have zz3 := B0.size
    clear b3
    clear RA
    go_wp2_with fail
    refine (laws_toTempIDS _ n zs _ (RU.out.below (by (repeat (first | (with_reducible exact Below.refl _ _) | (with_reducible refine Below.al ?_ _) | (with_reducible refine Below.drew ?_))))) hn).mono ?_
    rintro e w4 ⟨vX, rfl, oX, b4⟩
    have NP : Hid (w4.heap[w.heap.size]? = some (.cells #[.int .i64 a, .int .i64 b] 30 (0, 0))) := Lib.hid (cells_of_below b4 (by (repeat (first | (with_reducible exact HP.out) | ((with_reducible refine newBlk _ _ _ _ ?_); (first | rfl | (simp; done))) | ((with_reducible refine bxSetNe ?_ _ _ ?_); (rotate_left); (first | omega | (simp; omega))) | (with_reducible refine drewBlk ?_) | (with_reducible refine oldBlk _ ?_)))))
    have NW : Hid (w4.heap[w3.heap.size]? = some (.cells #[.int .i64 X, .int .i64 Y] 32 (0, 0))) := Lib.hid (cells_of_below b4 (by (repeat (first | (with_reducible exact HP.out) | ((with_reducible refine newBlk _ _ _ _ ?_); (first | rfl | (simp; done))) | ((with_reducible refine bxSetNe ?_ _ _ ?_); (rotate_left); (first | omega | (simp; omega))) | (with_reducible refine drewBlk ?_) | (with_reducible refine oldBlk _ ?_)))))
    have NO : Below w.heap.size w w4 := Below.next (by (repeat (first | (with_reducible exact B0) | ((with_reducible refine Below.st ?_ _ _ _ ?_); (rotate_left); (first | omega | (simp; omega))) | (with_reducible refine Below.al ?_ _) | (with_reducible refine Below.drew ?_)))) b4
    replace RU := Lib.hid (RU.out.below (Below.next (by (repeat (first | (with_reducible exact Below.refl _ _) | (with_reducible refine Below.al ?_ _) | (with_reducible refine Below.drew ?_)))) b4))
    clear HP B0
    have HP := NP
    have HW := NW
    have B0 := NO
    clear NP NW NO
    have lP_4 : w.heap.size < w4.heap.size := (Array.getElem?_eq_some_iff.1 HP.out).1
    have lW_4 : w3.heap.size < w4.heap.size := (Array.getElem?_eq_some_iff.1 HW.out).1
    have zz4 := B0.size
    clear b4
    have RX := Lib.hid oX.rd
    clear oX
    have cP0 := cell_of HP.out 0
    have cP1 := cell_of HP.out 1
    simp only [List.getElem?_toArray, List.getElem?_cons_zero, List.getElem?_cons_succ] at cP0 cP1
    have fP := free_of HP.out
    have sne := bxNe
    have dPW : ¬ w.heap.size = w3.heap.size := by omega
    have dWP : ¬ w3.heap.size = w.heap.size := by omega
    go_wp2_with fail
    refine (laws_toSubscriberID_below a b _).mono ?_
    rintro e w5 ⟨rfl, b5⟩
    have NP : Hid (w5.heap[w.heap.size]? = some (.cells #[.int .i64 a, .int .i64 b] 30 (0, 0))) := Lib.hid (cells_of_below b5 (by (repeat (first | (with_reducible exact HP.out) | (with_reducible exact HW.out) | ((with_reducible refine newBlk _ _ _ _ ?_); (first | rfl | (simp; done))) | ((with_reducible refine bxSetNe ?_ _ _ ?_); (rotate_left); (first | omega | (simp; omega))) | (with_reducible refine drewBlk ?_) | (with_reducible refine oldBlk _ ?_)))))
    have NW : Hid (w5.heap[w3.heap.size]? = some (.cells #[.int .i64 X, .int .i64 Y] 32 (0, 0))) := Lib.hid (cells_of_below b5 (by (repeat (first | (with_reducible exact HP.out) | (with_reducible exact HW.out) | ((with_reducible refine newBlk _ _ _ _ ?_); (first | rfl | (simp; done))) | ((with_reducible refine bxSetNe ?_ _ _ ?_); (rotate_left); (first | omega | (simp; omega))) | (with_reducible refine drewBlk ?_) | (with_reducible refine oldBlk _ ?_)))))
    have NO : Below w.heap.size w w5 := Below.next (by (repeat (first | (with_reducible exact B0) | ((with_reducible refine Below.st ?_ _ _ _ ?_); (rotate_left); (first | omega | (simp; omega))) | (with_reducible refine Below.al ?_ _) | (with_reducible refine Below.drew ?_)))) b5
    replace RU := Lib.hid (RU.out.below (Below.next (by (repeat (first | (with_reducible exact Below.refl _ _) | (with_reducible refine Below.al ?_ _) | (with_reducible refine Below.drew ?_)))) b5))
    replace RX := Lib.hid (RX.out.below (Below.next (by (repeat (first | (with_reducible exact Below.refl _ _) | (with_reducible refine Below.al ?_ _) | (with_reducible refine Below.drew ?_)))) b5))
    clear cP0 cP1 fP sne dPW dWP HP HW B0
    have HP := NP
    have HW := NW
    have B0 := NO
    clear NP NW NO
    have lP_5 : w.heap.size < w5.heap.size := (Array.getElem?_eq_some_iff.1 HP.out).1
    have lW_5 : w3.heap.size < w5.heap.size := (Array.getElem?_eq_some_iff.1 HW.out).1
    have zz5 := B0.size
    clear b5
    go_wp2_with fail
    refine (impl_AllocateTempID key p a b _ n zs _ hk ha hb (RX.out.below (by (repeat (first | (with_reducible exact Below.refl _ _) | (with_reducible refine Below.al ?_ _) | (with_reducible refine Below.drew ?_))))) X Y Q HX.out HY.out HQ.out).mono ?_
    rintro e w6 ⟨rfl, b6⟩
    have NP : Hid (w6.heap[w.heap.size]? = some (.cells #[.int .i64 a, .int .i64 b] 30 (0, 0))) := Lib.hid (cells_of_below b6 (by (repeat (first | (with_reducible exact HP.out) | (with_reducible exact HW.out) | ((with_reducible refine newBlk _ _ _ _ ?_); (first | rfl | (simp; done))) | ((with_reducible refine bxSetNe ?_ _ _ ?_); (rotate_left); (first | omega | (simp; omega))) | (with_reducible refine drewBlk ?_) | (with_reducible refine oldBlk _ ?_)))))
    have NW : Hid (w6.heap[w3.heap.size]? = some (.cells #[.int .i64 X, .int .i64 Y] 32 (0, 0))) := Lib.hid (cells_of_below b6 (by (repeat (first | (with_reducible exact HP.out) | (with_reducible exact HW.out) | ((with_reducible refine newBlk _ _ _ _ ?_); (first | rfl | (simp; done))) | ((with_reducible refine bxSetNe ?_ _ _ ?_); (rotate_left); (first | omega | (simp; omega))) | (with_reducible refine drewBlk ?_) | (with_reducible refine oldBlk _ ?_)))))
    have NO : Below w.heap.size w w6 := Below.next (by (repeat (first | (with_reducible exact B0) | ((with_reducible refine Below.st ?_ _ _ _ ?_); (rotate_left); (first | omega | (simp; omega))) | (with_reducible refine Below.al ?_ _) | (with_reducible refine Below.drew ?_)))) b6
    replace RU := Lib.hid (RU.out.below (Below.next (by (repeat (first | (with_reducible exact Below.refl _ _) | (with_reducible refine Below.al ?_ _) | (with_reducible refine Below.drew ?_)))) b6))
    replace RX := Lib.hid (RX.out.below (Below.next (by (repeat (first | (with_reducible exact Below.refl _ _) | (with_reducible refine Below.al ?_ _) | (with_reducible refine Below.drew ?_)))) b6))
    clear HP HW B0
    have HP := NP
    have HW := NW
    have B0 := NO
    clear NP NW NO
    have lP_6 : w.heap.size < w6.heap.size := (Array.getElem?_eq_some_iff.1 HP.out).1
    have lW_6 : w3.heap.size < w6.heap.size := (Array.getElem?_eq_some_iff.1 HW.out).1
    have zz6 := B0.size
    clear b6
    clear HX HY HQ
    have HG := Lib.hid (newBlk w6 #[.int .i64 X, .int .i64 Y] 32 w6.heap.size rfl)
    have HW2 := Lib.hid (oldBlk (.cells #[.int .i64 X, .int .i64 Y] 32) HW.out)
    have cg0 := cell_of HG.out 0
    have cg1 := cell_of HG.out 1
    have fg := free_of HG.out
    have ch0 := cell_of HW2.out 0
    have ch1 := cell_of HW2.out 1
    have fh := free_of HW2.out
    simp only [List.getElem?_toArray, List.getElem?_cons_zero, List.getElem?_cons_succ] at cg0 cg1 ch0 ch1
    go_wp2_with fail
    refine (laws_eqTempID_below X Y _).mono ?_
    rintro e w7 ⟨rfl, b7⟩
    have NP : Hid (w7.heap[w.heap.size]? = some (.cells #[.int .i64 a, .int .i64 b] 30 (0, 0))) := Lib.hid (cells_of_below b7 (by (repeat (first | (with_reducible exact HP.out) | (with_reducible exact HW.out) | ((with_reducible refine newBlk _ _ _ _ ?_); (first | rfl | (simp; done))) | ((with_reducible refine bxSetNe ?_ _ _ ?_); (rotate_left); (first | omega | (simp; omega))) | (with_reducible refine drewBlk ?_) | (with_reducible refine oldBlk _ ?_)))))
    have NW : Hid (w7.heap[w3.heap.size]? = some (.cells #[.int .i64 X, .int .i64 Y] 32 (0, 0))) := Lib.hid (cells_of_below b7 (by (repeat (first | (with_reducible exact HP.out) | (with_reducible exact HW.out) | ((with_reducible refine newBlk _ _ _ _ ?_); (first | rfl | (simp; done))) | ((with_reducible refine bxSetNe ?_ _ _ ?_); (rotate_left); (first | omega | (simp; omega))) | (with_reducible refine drewBlk ?_) | (with_reducible refine oldBlk _ ?_)))))
    have NO : Below w.heap.size w w7 := Below.next (by (repeat (first | (with_reducible exact B0) | ((with_reducible refine Below.st ?_ _ _ _ ?_); (rotate_left); (first | omega | (simp; omega))) | (with_reducible refine Below.al ?_ _) | (with_reducible refine Below.drew ?_)))) b7
    replace RU := Lib.hid (RU.out.below (Below.next (by (repeat (first | (with_reducible exact Below.refl _ _) | (with_reducible refine Below.al ?_ _) | (with_reducible refine Below.drew ?_)))) b7))
    replace RX := Lib.hid (RX.out.below (Below.next (by (repeat (first | (with_reducible exact Below.refl _ _) | (with_reducible refine Below.al ?_ _) | (with_reducible refine Below.drew ?_)))) b7))
    clear cg0 cg1 ch0 ch1 fg fh HW2 HP HW B0
    have HP := NP
    have HW := NW
    have B0 := NO
    clear NP NW NO
    have lP_7 : w.heap.size < w7.heap.size := (Array.getElem?_eq_some_iff.1 HP.out).1
    have lW_7 : w3.heap.size < w7.heap.size := (Array.getElem?_eq_some_iff.1 HW.out).1
    have zz7 := B0.size
    clear b7
    clear HG
    cases Q
    all_goals
      go_wp2_with fail
      refine (laws_toTempIDS _ n zs _ (RU.out.below (by (repeat (first | (with_reducible exact Below.refl _ _) | (with_reducible refine Below.al ?_ _) | (with_reducible refine Below.drew ?_))))) hn).mono ?_
      rintro e w8 ⟨vC, rfl, oC, b8⟩
      have NP : Hid (w8.heap[w.heap.size]? = some (.cells #[.int .i64 a, .int .i64 b] 30 (0, 0))) := Lib.hid (cells_of_below b8 (by (repeat (first | (with_reducible exact HP.out) | (with_reducible exact HW.out) | ((with_reducible refine newBlk _ _ _ _ ?_); (first | rfl | (simp; done))) | ((with_reducible refine bxSetNe ?_ _ _ ?_); (rotate_left); (first | omega | (simp; omega))) | (with_reducible refine drewBlk ?_) | (with_reducible refine oldBlk _ ?_)))))
      have NW : Hid (w8.heap[w3.heap.size]? = some (.cells #[.int .i64 X, .int .i64 Y] 32 (0, 0))) := Lib.hid (cells_of_below b8 (by (repeat (first | (with_reducible exact HP.out) | (with_reducible exact HW.out) | ((with_reducible refine newBlk _ _ _ _ ?_); (first | rfl | (simp; done))) | ((with_reducible refine bxSetNe ?_ _ _ ?_); (rotate_left); (first | omega | (simp; omega))) | (with_reducible refine drewBlk ?_) | (with_reducible refine oldBlk _ ?_)))))
      have NO : Below w.heap.size w w8 := Below.next (by (repeat (first | (with_reducible exact B0) | ((with_reducible refine Below.st ?_ _ _ _ ?_); (rotate_left); (first | omega | (simp; omega))) | (with_reducible refine Below.al ?_ _) | (with_reducible refine Below.drew ?_)))) b8
      replace RU := Lib.hid (RU.out.below (Below.next (by (repeat (first | (with_reducible exact Below.refl _ _) | (with_reducible refine Below.al ?_ _) | (with_reducible refine Below.drew ?_)))) b8))
      replace RX := Lib.hid (RX.out.below (Below.next (by (repeat (first | (with_reducible exact Below.refl _ _) | (with_reducible refine Below.al ?_ _) | (with_reducible refine Below.drew ?_)))) b8))
      clear HP HW B0
      have HP := NP
      have HW := NW
      have B0 := NO
      clear NP NW NO
      have lP_8 : w.heap.size < w8.heap.size := (Array.getElem?_eq_some_iff.1 HP.out).1
      have lW_8 : w3.heap.size < w8.heap.size := (Array.getElem?_eq_some_iff.1 HW.out).1
      have zz8 := B0.size
      clear b8
      have RC := Lib.hid oC.rd
      clear oC
      go_wp2_with fail
      refine (laws_eqTempIDS_same _ _ n zs _ (RX.out.below (by (repeat (first | (with_reducible exact Below.refl _ _) | (with_reducible refine Below.al ?_ _) | (with_reducible refine Below.drew ?_))))) (RC.out.below (by (repeat (first | (with_reducible exact Below.refl _ _) | (with_reducible refine Below.al ?_ _) | (with_reducible refine Below.drew ?_)))))).mono ?_
      rintro e w9 ⟨rfl, b9⟩
      have NP : Hid (w9.heap[w.heap.size]? = some (.cells #[.int .i64 a, .int .i64 b] 30 (0, 0))) := Lib.hid (cells_of_below b9 (by (repeat (first | (with_reducible exact HP.out) | (with_reducible exact HW.out) | ((with_reducible refine newBlk _ _ _ _ ?_); (first | rfl | (simp; done))) | ((with_reducible refine bxSetNe ?_ _ _ ?_); (rotate_left); (first | omega | (simp; omega))) | (with_reducible refine drewBlk ?_) | (with_reducible refine oldBlk _ ?_)))))
      have NW : Hid (w9.heap[w3.heap.size]? = some (.cells #[.int .i64 X, .int .i64 Y] 32 (0, 0))) := Lib.hid (cells_of_below b9 (by (repeat (first | (with_reducible exact HP.out) | (with_reducible exact HW.out) | ((with_reducible refine newBlk _ _ _ _ ?_); (first | rfl | (simp; done))) | ((with_reducible refine bxSetNe ?_ _ _ ?_); (rotate_left); (first | omega | (simp; omega))) | (with_reducible refine drewBlk ?_) | (with_reducible refine oldBlk _ ?_)))))
      have NO : Below w.heap.size w w9 := Below.next (by (repeat (first | (with_reducible exact B0) | ((with_reducible refine Below.st ?_ _ _ _ ?_); (rotate_left); (first | omega | (simp; omega))) | (with_reducible refine Below.al ?_ _) | (with_reducible refine Below.drew ?_)))) b9
      replace RU := Lib.hid (RU.out.below (Below.next (by (repeat (first | (with_reducible exact Below.refl _ _) | (with_reducible refine Below.al ?_ _) | (with_reducible refine Below.drew ?_)))) b9))
      replace RX := Lib.hid (RX.out.below (Below.next (by (repeat (first | (with_reducible exact Below.refl _ _) | (with_reducible refine Below.al ?_ _) | (with_reducible refine Below.drew ?_)))) b9))
      replace RC := Lib.hid (RC.out.below (Below.next (by (repeat (first | (with_reducible exact Below.refl _ _) | (with_reducible refine Below.al ?_ _) | (with_reducible refine Below.drew ?_)))) b9))
      clear HP HW B0
      have HP := NP
      have HW := NW
      have B0 := NO
      clear NP NW NO
      have lP_9 : w.heap.size < w9.heap.size := (Array.getElem?_eq_some_iff.1 HP.out).1
      have lW_9 : w3.heap.size < w9.heap.size := (Array.getElem?_eq_some_iff.1 HW.out).1
      have zz9 := B0.size
      clear b9
      go_wp2_with fail
      go_ret
      exact ⟨rfl, B0⟩
  · go_enter Try.func12, Try.ntmps12
    go_wp2_with fail
    rw [← HW0.out]
    clear HW0
    refine (laws_szTempIDS A n c _ (by omega)).mono ?_
    rw [if_neg hn]
    rintro e w' ⟨rfl, rfl⟩
    go_wp2_with fail
    go_ret
    exact ⟨rfl, B0⟩

/-! The row: the frame round the walk. -/
theorem own : ownKnob Try.prog.godebug = none := by kernel_rfl
theorem laidOut : laidOutB Try.prog = true := by kernel_rfl
set_option maxRecDepth 100000 in
theorem lifted (os : Os) (started : os.Started) (H : Type) (enc : TypeId × Value → H) :
    ReturnsInHanded {} Try.checked os 12 .any (Rows.fnExactAllocateTempIDSpec.pre6 enc Try.prog Try.f12 Rows.fnExactAllocateTempIDRow.domain false) (Rows.fnExactAllocateTempIDSpec.post enc Try.prog Try.f12 false true false false) := by
  refine returnsInHanded_of_change (C := Try.checked) own started (by kernel_rfl) Try.func12
    (ChangeSpec.witness6 (enc := enc) (C := Try.checked) false ⟨#[], #[.int .i64 0, .int .i64 0, .agg #[.int .i64 0, .int .i64 0], .slice none 0 0], []⟩ 8 (by kernel_rfl) (by kernel_rfl) (by kernel_rfl) (by kernel_rfl)) ?_
  intro W base args ds gs before hval0 hW hcnd _
  have hval : ∀ (j : Nat) t v, Try.f12.params[j]? = some t → args[j]? = some v → Value.okWide Try.prog W .any base t v := hval0
  have hW' := hW
  obtain ⟨p, q, hA0, hV, rfl, hfz, hnd⟩ := hW
  have hA : DataW.TrodAll enc Try.prog W 0 (fun _ => true) true Try.f12.params.toList args.toList ds p := hA0
  rw [Try.params12] at hA hval
  obtain ⟨v0, vs0, d0, ds0, p0, q0, hargs, rfl, rfl, h0, rr0⟩ := trodAll_cons hA
  obtain ⟨v1, vs1, d1, ds1, p1, q1, rfl, rfl, rfl, h1, rr1⟩ := trodAll_cons rr0
  obtain ⟨v2, vs2, d2, ds2, p2, q2, rfl, rfl, rfl, h2, rr2⟩ := trodAll_cons rr1
  obtain ⟨v3, vs3, d3, ds3, p3, q3, rfl, rfl, rfl, h3, rr3⟩ := trodAll_cons rr2
  obtain ⟨rfl, rfl, rfl⟩ := trodAll_nil rr3
  obtain rfl : args = #[v0, v1, v2, v3] := by cases args; simp_all
  obtain ⟨rfl, rfl⟩ := trodVars_none hV
  have k0 := h0
  have lt0 : ∀ x ∈ p0, x.block < W.heap.size := by obtain ⟨m, hm⟩ := k0; exact DataW.trod_lt m _ _ _ hm
  obtain ⟨a0, rfl, _, _, w0⟩ := open_int Try.underlying3 (hval 0 3 v0 rfl rfl) h0
  have k1 := h1
  have lt1 : ∀ x ∈ p1, x.block < W.heap.size := by obtain ⟨m, hm⟩ := k1; exact DataW.trod_lt m _ _ _ hm
  obtain ⟨a1, rfl, _, _, w1⟩ := open_int Try.underlying3 (hval 1 3 v1 rfl rfl) h1
  have k2 := h2
  have lt2 : ∀ x ∈ p2, x.block < W.heap.size := by obtain ⟨m, hm⟩ := k2; exact DataW.trod_lt m _ _ _ hm
  obtain ⟨a2, b2, rfl, w2, y2⟩ := open_nums2 Try.underlying30 (by kernel_rfl) (by kernel_rfl) Try.underlying3 Try.underlying3 (hval 2 30 v2 rfl rfl) h2
  have k3 := h3
  have lt3 : ∀ x ∈ p3, x.block < W.heap.size := by obtain ⟨m, hm⟩ := k3; exact DataW.trod_lt m _ _ _ hm
  obtain ⟨a3, len3, cap3, rfl⟩ := okWide_slice Try.underlying55 (hval 3 55 v3 rfl rfl)
  obtain ⟨z3, r3, w3⟩ := rdp_of_trod Try.underlying55 Try.underlying78 (by kernel_rfl) (by kernel_rfl) Try.underlying3 Try.underlying3 (fun _ => rfl) h3
  clear hA0 hval0
  refine (walk a0 a1 a2 b2 _ len3 z3 W w0 w1 w2 y2 r3 w3).mono fun e W' ⟨he, bel⟩ => ?_
  subst he
  exact ⟨_, rfl, _, _, _, [], _, [], hW', trodAll_mk1 (shut_bool Try.underlying4 _), (trodAll_cons_mk (Below.trod laidOut (by kernel_rfl) (of_decide_eq_true (by kernel_rfl)) k0 bel lt0) (trodAll_cons_mk (Below.trod laidOut (by kernel_rfl) (of_decide_eq_true (by kernel_rfl)) k1 bel lt1) (trodAll_cons_mk (Below.trod laidOut (by kernel_rfl) (of_decide_eq_true (by kernel_rfl)) k2 bel lt2) (trodAll_cons_mk (Below.trod laidOut (by kernel_rfl) (of_decide_eq_true (by kernel_rfl)) k3 bel lt3) trodAll_mk0)))), rfl, bel.frame _, fun h => by cases h⟩
theorem over : Rows.fnExactAllocateTempIDRow.holds Try.pinned (OpenSpec.ofChange Rows.fnExactAllocateTempIDSpec) :=
  OpenClaim.holds_of_wide 12 Try.f12 rfl rfl rfl rfl rfl rfl rfl ⟨rfl, rfl, rfl, rfl, rfl⟩ rfl rfl rfl rfl rfl (by kernel_rfl) Try.func12 (by kernel_rfl)
    (of_decide_eq_true (by kernel_rfl)) (by unfold Func.isWrapper; first | (rw [if_pos (by decide +kernel)]; kernel_rfl) | (rw [if_neg (by decide +kernel)]; exact ⟨rfl, rfl⟩))
    (fun os started H enc _ => lifted os started H enc)
/-- THE STATEMENT -/
theorem proved : Rows.FnExactAllocateTempIDSaid := over
#print axioms proved
end Go.Proofs.Ytgoelmhaobloaaa.lawFnExactAllocateTempID
