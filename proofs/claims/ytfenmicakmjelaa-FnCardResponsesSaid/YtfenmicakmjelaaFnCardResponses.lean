/-
  For all inputs (longer ones than 1048576 bytes the law passes by itself) a card answers only authentic and fresh challenges, and stays as it was otherwise. No condition.
-/
import Derived.Test.YtfenmicakmjelaaRows
import Derived.Test.YtfenmicakmjelaaDraw6c
namespace Go.Proofs.Ytfenmicakmjelaa.lawFnCardResponses
open Go.Proofs.Ytfenmicakmjelaa
open Go.ChangeShapes Go.WideShapes Go.ChangeAt Go.RowKit
open Go.ChangeMaps (open_string shut_string)
set_option linter.unusedVariables false

theorem rc_inv {a b k l r t m : Int} (h : M.vCard a b k l = false) : M.rcCode a b k l r t m = 1 := by unfold M.rcCode; rw [h]; rfl
theorem rc_val {a b k l r t m : Int} (h : M.vCard a b k l = true) : M.rcCode a b k l r t m = M.verify k l r t m := by unfold M.rcCode; rw [if_pos h]
theorem rc_bad (k l r t : Int) : M.rcLast 1 k l r t = l ∧ M.rcRes 1 k r = 0 ∧ M.rcKey 1 k r t = 0 ∧ M.rcTok 1 k l r = 0 := by
  unfold M.rcLast M.rcRes M.rcKey M.rcTok
  exact ⟨rfl, rfl, rfl, rfl⟩
theorem rc_tok2 (k l r t : Int) : M.rcLast 2 k l r t = l ∧ M.rcRes 2 k r = 0 ∧ M.rcKey 2 k r t = 0 ∧ M.rcTok 2 k l r = M.token k r l := by
  unfold M.rcLast M.rcRes M.rcKey M.rcTok
  exact ⟨rfl, rfl, rfl, if_pos (.inl rfl)⟩
theorem rc_tok3 (k l r t : Int) : M.rcLast 3 k l r t = l ∧ M.rcRes 3 k r = 0 ∧ M.rcKey 3 k r t = 0 ∧ M.rcTok 3 k l r = M.token k r l := by
  unfold M.rcLast M.rcRes M.rcKey M.rcTok
  exact ⟨rfl, rfl, rfl, if_pos (.inr rfl)⟩
theorem rc_okl (k l r t : Int) : M.rcLast 0 k l r t = M.unmask k r t := by unfold M.rcLast; rw [if_pos rfl]
theorem rc_okt (k l r : Int) : M.rcTok 0 k l r = 0 := by unfold M.rcTok; rw [if_neg (by omega)]
/-- What a vector that is accepted means. -/
theorem ver_ok {k l r t m : Int} (h : M.verify k l r t m = 0) : l < M.unmask k r t ∧ 0 ≤ M.unmask k r t ∧ M.unmask k r t ≤ 999999 ∧ M.inR (M.rcKey 0 k r t) 1 2147483646 = true ∧ M.verify k (M.unmask k r t) r t m = 2 := by
  have hb := M.unmask_bd k r t
  unfold M.verify at h
  split at h
  · next hm =>
    split at h
    · cases h
    · next hl =>
      refine ⟨by omega, by omega, by omega, ?_, ?_⟩
      · have a4 := M.kh_bd k [4, r, M.unmask k r t]
        have p4 := M.pos1_bd _ a4.1 a4.2
        unfold M.rcKey M.nv4
        rw [if_pos rfl, if_pos (M.inR_true (by omega))]
        exact M.inR_true (by omega)
      · unfold M.verify
        rw [if_pos hm, if_pos (Int.le_refl _)]
  · cases h
theorem vCard_last {a b k l u : Int} (h : M.vCard a b k l = true) (h0 : 0 ≤ u) (h1 : u ≤ 999999) : M.vCard a b k u = true := by
  unfold M.vCard at h ⊢
  simp only [Bool.and_eq_true] at h ⊢
  exact ⟨h.1, h.2.1, M.inR_true (by omega)⟩

set_option maxRecDepth 100000 in
set_option maxHeartbeats 8000000 in
theorem walk (v0 : Value) (z0 : List Int) (w : World) (r0 : Rd .u8 w v0 z0) (h0 : ∀ n ∈ z0, (Lit.int .u8 n).wf = true) :
    Calls Try.prog 7 #[v0] w fun e w' => e = .returned (.bool true) ∧ Below w.heap.size w w' := by
  obtain ⟨A0, c0, rfl, hc0, hm0, -⟩ := id r0
  unfold maxLen at hm0
  by_cases hl : z0.length ≤ 1048576
  · skip
    go_enter Try.func7, Try.ntmps7
    have B := Below.refl w.heap.size w
    go_wp2_with fail
    refine (laws_big _ _ _ _ hl).mono ?_
    rintro e w' ⟨rfl, rfl⟩
    have B0 := B
    clear B
    go_wp2_with fail
    refine (spec_DrawRespondToChallenge _ z0 _ (r0.below B0) h0 hl).mono ?_
    rintro e w1 ⟨a, b, k, l, r, t, m, x, y, ⟨⟨ya, yb, yk, yl⟩, yr, yt, ym, yx, yy⟩, rfl, b1⟩
    replace B0 := Below.next B0 b1
    clear b1 h0 r0
    have hk := yk.wf
    have hl := yl.wf
    have hr := yr.wf
    have ht := yt.wf
    cases hV : M.vCard a b k l
    · have RC := Lib.hid (rc_inv (r := r) (t := t) (m := m) hV)
      have RL := Lib.hid (rc_bad k l r t).1
      have RR := Lib.hid (rc_bad k l r t).2.1
      have RK := Lib.hid (rc_bad k l r t).2.2.1
      have RT := Lib.hid (rc_bad k l r t).2.2.2
      go_wp2_with fail
      refine (impl_RespondToChallenge a b k l r t m x y _ hr ht).mono ?_
      rw [RC.out, RL.out, RR.out, RK.out, RT.out]
      rintro e w2 ⟨rfl, b2⟩
      have NA : Hid (w2.heap[w1.heap.size]? = some (.cells #[.int .i64 a, .int .i64 b, .int .i64 k, .int .i64 l] 30 (0, 0))) := Lib.hid (cells_of_below b2 (by (repeat (first | ((with_reducible refine newBlk _ _ _ _ ?_); (first | rfl | (simp; done))) | ((with_reducible refine bxSetNe ?_ _ _ ?_); (rotate_left); (first | omega | (simp; omega))) | (with_reducible refine drewBlk ?_) | (with_reducible refine oldBlk _ ?_)))))
      have NG : Hid (w2.heap[w1.heap.size + 1]? = some (.cells #[.int .i64 r, .int .i64 t, .int .i64 m, .int .i64 x, .int .i64 y] 45 (0, 0))) := Lib.hid (cells_of_below b2 (by (repeat (first | ((with_reducible refine newBlk _ _ _ _ ?_); (first | rfl | (simp; done))) | ((with_reducible refine bxSetNe ?_ _ _ ?_); (rotate_left); (first | omega | (simp; omega))) | (with_reducible refine drewBlk ?_) | (with_reducible refine oldBlk _ ?_)))))
      have NO : Below w.heap.size w w2 := Below.next (by (repeat (first | (with_reducible exact B0) | ((with_reducible refine Below.st ?_ _ _ _ ?_); (rotate_left); (first | omega | (simp; omega))) | (with_reducible refine Below.al ?_ _) | (with_reducible refine Below.drew ?_)))) b2
      clear B0
      have HA := NA
      have HG := NG
      have B0 := NO
      clear NA NG NO
      have lA_2 : w1.heap.size < w2.heap.size := (Array.getElem?_eq_some_iff.1 HA.out).1
      have lG_2 : w1.heap.size + 1 < w2.heap.size := (Array.getElem?_eq_some_iff.1 HG.out).1
      have zz2 := B0.size
      clear b2
      have cA0 := cell_of HA.out 0
      have cA1 := cell_of HA.out 1
      have cA2 := cell_of HA.out 2
      have cA3 := cell_of HA.out 3
      have cG0 := cell_of HG.out 0
      have cG1 := cell_of HG.out 1
      have cG2 := cell_of HG.out 2
      have cG3 := cell_of HG.out 3
      have cG4 := cell_of HG.out 4
      simp only [List.getElem?_toArray, List.getElem?_cons_zero, List.getElem?_cons_succ] at cA0 cA1 cA2 cA3 cG0 cG1 cG2 cG3 cG4
      have fA := free_of HA.out
      have fG := free_of HG.out
      have sne := bxNe
      have dAG : ¬ w1.heap.size = w1.heap.size + 1 := by omega
      have dGA : ¬ w1.heap.size + 1 = w1.heap.size := by omega
      go_wp2_with fail
      refine (spec_IsValidUSIM a b k l _).mono ?_
      rw [hV]
      rintro e w3 ⟨rfl, ha3⟩
      have b3 := below_of_alloc2 ha3
      clear ha3
      have NA : Hid (w3.heap[w1.heap.size]? = some (.cells #[.int .i64 a, .int .i64 b, .int .i64 k, .int .i64 l] 30 (0, 0))) := Lib.hid (cells_of_below b3 (by (repeat (first | (with_reducible exact HA.out) | (with_reducible exact HG.out) | ((with_reducible refine newBlk _ _ _ _ ?_); (first | rfl | (simp; done))) | ((with_reducible refine bxSetNe ?_ _ _ ?_); (rotate_left); (first | omega | (simp; omega))) | (with_reducible refine drewBlk ?_) | (with_reducible refine oldBlk _ ?_)))))
      have NG : Hid (w3.heap[w1.heap.size + 1]? = some (.cells #[.int .i64 r, .int .i64 t, .int .i64 m, .int .i64 x, .int .i64 y] 45 (0, 0))) := Lib.hid (cells_of_below b3 (by (repeat (first | (with_reducible exact HA.out) | (with_reducible exact HG.out) | ((with_reducible refine newBlk _ _ _ _ ?_); (first | rfl | (simp; done))) | ((with_reducible refine bxSetNe ?_ _ _ ?_); (rotate_left); (first | omega | (simp; omega))) | (with_reducible refine drewBlk ?_) | (with_reducible refine oldBlk _ ?_)))))
      have ND : Hid (w3.heap[w2.heap.size]? = some (.cells #[.int .i64 a, .int .i64 b, .int .i64 k, .int .i64 l] 30 (0, 0))) := Lib.hid (cells_of_below b3 (by (repeat (first | (with_reducible exact HA.out) | (with_reducible exact HG.out) | ((with_reducible refine newBlk _ _ _ _ ?_); (first | rfl | (simp; done))) | ((with_reducible refine bxSetNe ?_ _ _ ?_); (rotate_left); (first | omega | (simp; omega))) | (with_reducible refine drewBlk ?_) | (with_reducible refine oldBlk _ ?_)))))
      have NS : Hid (w3.heap[w2.heap.size + 1]? = some (.cells #[.int .i64 1, .int .i64 0, .int .i64 0, .int .i64 0] 48 (0, 0))) := Lib.hid (cells_of_below b3 (by (repeat (first | (with_reducible exact HA.out) | (with_reducible exact HG.out) | ((with_reducible refine newBlk _ _ _ _ ?_); (first | rfl | (simp; done))) | ((with_reducible refine bxSetNe ?_ _ _ ?_); (rotate_left); (first | omega | (simp; omega))) | (with_reducible refine drewBlk ?_) | (with_reducible refine oldBlk _ ?_)))))
      have NO : Below w.heap.size w w3 := Below.next (by (repeat (first | (with_reducible exact B0) | ((with_reducible refine Below.st ?_ _ _ _ ?_); (rotate_left); (first | omega | (simp; omega))) | (with_reducible refine Below.al ?_ _) | (with_reducible refine Below.drew ?_)))) b3
      clear cA0 cA1 cA2 cA3 cG0 cG1 cG2 cG3 cG4 fA fG sne dAG dGA HA HG B0
      have HA := NA
      have HG := NG
      have HD := ND
      have HS := NS
      have B0 := NO
      clear NA NG ND NS NO
      have lA_3 : w1.heap.size < w3.heap.size := (Array.getElem?_eq_some_iff.1 HA.out).1
      have lG_3 : w1.heap.size + 1 < w3.heap.size := (Array.getElem?_eq_some_iff.1 HG.out).1
      have lD_3 : w2.heap.size < w3.heap.size := (Array.getElem?_eq_some_iff.1 HD.out).1
      have lS_3 : w2.heap.size + 1 < w3.heap.size := (Array.getElem?_eq_some_iff.1 HS.out).1
      have zz3 := B0.size
      clear b3
      have cA0 := cell_of HA.out 0
      have cA1 := cell_of HA.out 1
      have cA2 := cell_of HA.out 2
      have cA3 := cell_of HA.out 3
      have cG0 := cell_of HG.out 0
      have cG1 := cell_of HG.out 1
      have cG2 := cell_of HG.out 2
      have cG3 := cell_of HG.out 3
      have cG4 := cell_of HG.out 4
      have cD0 := cell_of HD.out 0
      have cD1 := cell_of HD.out 1
      have cD2 := cell_of HD.out 2
      have cD3 := cell_of HD.out 3
      have cS0 := cell_of HS.out 0
      have cS1 := cell_of HS.out 1
      have cS2 := cell_of HS.out 2
      have cS3 := cell_of HS.out 3
      simp only [List.getElem?_toArray, List.getElem?_cons_zero, List.getElem?_cons_succ] at cA0 cA1 cA2 cA3 cG0 cG1 cG2 cG3 cG4 cD0 cD1 cD2 cD3 cS0 cS1 cS2 cS3
      have fA := free_of HA.out
      have fG := free_of HG.out
      have fD := free_of HD.out
      have fS := free_of HS.out
      have sne := bxNe
      have dAG : ¬ w1.heap.size = w1.heap.size + 1 := by omega
      have dAD : ¬ w1.heap.size = w2.heap.size := by omega
      have dAS : ¬ w1.heap.size = w2.heap.size + 1 := by omega
      have dGA : ¬ w1.heap.size + 1 = w1.heap.size := by omega
      have dGD : ¬ w1.heap.size + 1 = w2.heap.size := by omega
      have dGS : ¬ w1.heap.size + 1 = w2.heap.size + 1 := by omega
      have dDA : ¬ w2.heap.size = w1.heap.size := by omega
      have dDG : ¬ w2.heap.size = w1.heap.size + 1 := by omega
      have dDS : ¬ w2.heap.size = w2.heap.size + 1 := by omega
      have dSA : ¬ w2.heap.size + 1 = w1.heap.size := by omega
      have dSG : ¬ w2.heap.size + 1 = w1.heap.size + 1 := by omega
      have dSD : ¬ w2.heap.size + 1 = w2.heap.size := by omega
      go_wp2_with fail
      go_ret
      exact ⟨by first | rfl | (simp; done), by repeat (first | (with_reducible exact B0) | (with_reducible refine Below.al ?_ _) | (with_reducible refine Below.drew ?_))⟩
    · rcases M.verify_of k l r t m with hv | hv | hv | hv
      · obtain ⟨u0, u1, u2, u3, u4⟩ := ver_ok hv
        obtain ⟨u, hu⟩ : ∃ u, u = M.unmask k r t := ⟨_, rfl⟩
        obtain ⟨e1, he⟩ : ∃ z, z = M.rcRes 0 k r := ⟨_, rfl⟩
        obtain ⟨y1, hy⟩ : ∃ z, z = M.rcKey 0 k r t := ⟨_, rfl⟩
        rw [← hu] at u0 u1 u2 u4
        rw [← hy] at u3
        have hV2 := vCard_last hV u1 u2
        have RC2 := Lib.hid ((rc_val (r := r) (t := t) (m := m) hV2).trans u4)
        have RC := Lib.hid ((rc_val (r := r) (t := t) (m := m) hV).trans hv)
        have RL := Lib.hid ((rc_okl k l r t).trans hu.symm)
        have RR := Lib.hid he.symm
        have RK := Lib.hid hy.symm
        have RT := Lib.hid (rc_okt k l r)
        clear hu he hy u4
        go_wp2_with fail
        refine (impl_RespondToChallenge a b k l r t m x y _ hr ht).mono ?_
        rw [RC.out, RL.out, RR.out, RK.out, RT.out]
        rintro e w2 ⟨rfl, b2⟩
        have NA : Hid (w2.heap[w1.heap.size]? = some (.cells #[.int .i64 a, .int .i64 b, .int .i64 k, .int .i64 l] 30 (0, 0))) := Lib.hid (cells_of_below b2 (by (repeat (first | ((with_reducible refine newBlk _ _ _ _ ?_); (first | rfl | (simp; done))) | ((with_reducible refine bxSetNe ?_ _ _ ?_); (rotate_left); (first | omega | (simp; omega))) | (with_reducible refine drewBlk ?_) | (with_reducible refine oldBlk _ ?_)))))
        have NG : Hid (w2.heap[w1.heap.size + 1]? = some (.cells #[.int .i64 r, .int .i64 t, .int .i64 m, .int .i64 x, .int .i64 y] 45 (0, 0))) := Lib.hid (cells_of_below b2 (by (repeat (first | ((with_reducible refine newBlk _ _ _ _ ?_); (first | rfl | (simp; done))) | ((with_reducible refine bxSetNe ?_ _ _ ?_); (rotate_left); (first | omega | (simp; omega))) | (with_reducible refine drewBlk ?_) | (with_reducible refine oldBlk _ ?_)))))
        have NO : Below w.heap.size w w2 := Below.next (by (repeat (first | (with_reducible exact B0) | ((with_reducible refine Below.st ?_ _ _ _ ?_); (rotate_left); (first | omega | (simp; omega))) | (with_reducible refine Below.al ?_ _) | (with_reducible refine Below.drew ?_)))) b2
        clear B0
        have HA := NA
        have HG := NG
        have B0 := NO
        clear NA NG NO
        have lA_2 : w1.heap.size < w2.heap.size := (Array.getElem?_eq_some_iff.1 HA.out).1
        have lG_2 : w1.heap.size + 1 < w2.heap.size := (Array.getElem?_eq_some_iff.1 HG.out).1
        have zz2 := B0.size
        clear b2
        have cA0 := cell_of HA.out 0
        have cA1 := cell_of HA.out 1
        have cA2 := cell_of HA.out 2
        have cA3 := cell_of HA.out 3
        have cG0 := cell_of HG.out 0
        have cG1 := cell_of HG.out 1
        have cG2 := cell_of HG.out 2
        have cG3 := cell_of HG.out 3
        have cG4 := cell_of HG.out 4
        simp only [List.getElem?_toArray, List.getElem?_cons_zero, List.getElem?_cons_succ] at cA0 cA1 cA2 cA3 cG0 cG1 cG2 cG3 cG4
        have fA := free_of HA.out
        have fG := free_of HG.out
        have sne := bxNe
        have dAG : ¬ w1.heap.size = w1.heap.size + 1 := by omega
        have dGA : ¬ w1.heap.size + 1 = w1.heap.size := by omega
        go_wp2_with fail
        refine (spec_IsValidUSIM a b k l _).mono ?_
        rw [hV]
        rintro e w3 ⟨rfl, ha3⟩
        have b3 := below_of_alloc2 ha3
        clear ha3
        have NA : Hid (w3.heap[w1.heap.size]? = some (.cells #[.int .i64 a, .int .i64 b, .int .i64 k, .int .i64 l] 30 (0, 0))) := Lib.hid (cells_of_below b3 (by (repeat (first | (with_reducible exact HA.out) | (with_reducible exact HG.out) | ((with_reducible refine newBlk _ _ _ _ ?_); (first | rfl | (simp; done))) | ((with_reducible refine bxSetNe ?_ _ _ ?_); (rotate_left); (first | omega | (simp; omega))) | (with_reducible refine drewBlk ?_) | (with_reducible refine oldBlk _ ?_)))))
        have NG : Hid (w3.heap[w1.heap.size + 1]? = some (.cells #[.int .i64 r, .int .i64 t, .int .i64 m, .int .i64 x, .int .i64 y] 45 (0, 0))) := Lib.hid (cells_of_below b3 (by (repeat (first | (with_reducible exact HA.out) | (with_reducible exact HG.out) | ((with_reducible refine newBlk _ _ _ _ ?_); (first | rfl | (simp; done))) | ((with_reducible refine bxSetNe ?_ _ _ ?_); (rotate_left); (first | omega | (simp; omega))) | (with_reducible refine drewBlk ?_) | (with_reducible refine oldBlk _ ?_)))))
        have ND : Hid (w3.heap[w2.heap.size]? = some (.cells #[.int .i64 a, .int .i64 b, .int .i64 k, .int .i64 u] 30 (0, 0))) := Lib.hid (cells_of_below b3 (by (repeat (first | (with_reducible exact HA.out) | (with_reducible exact HG.out) | ((with_reducible refine newBlk _ _ _ _ ?_); (first | rfl | (simp; done))) | ((with_reducible refine bxSetNe ?_ _ _ ?_); (rotate_left); (first | omega | (simp; omega))) | (with_reducible refine drewBlk ?_) | (with_reducible refine oldBlk _ ?_)))))
        have NS : Hid (w3.heap[w2.heap.size + 1]? = some (.cells #[.int .i64 0, .int .i64 e1, .int .i64 y1, .int .i64 0] 48 (0, 0))) := Lib.hid (cells_of_below b3 (by (repeat (first | (with_reducible exact HA.out) | (with_reducible exact HG.out) | ((with_reducible refine newBlk _ _ _ _ ?_); (first | rfl | (simp; done))) | ((with_reducible refine bxSetNe ?_ _ _ ?_); (rotate_left); (first | omega | (simp; omega))) | (with_reducible refine drewBlk ?_) | (with_reducible refine oldBlk _ ?_)))))
        have NO : Below w.heap.size w w3 := Below.next (by (repeat (first | (with_reducible exact B0) | ((with_reducible refine Below.st ?_ _ _ _ ?_); (rotate_left); (first | omega | (simp; omega))) | (with_reducible refine Below.al ?_ _) | (with_reducible refine Below.drew ?_)))) b3
        clear cA0 cA1 cA2 cA3 cG0 cG1 cG2 cG3 cG4 fA fG sne dAG dGA HA HG B0
        have HA := NA
        have HG := NG
        have HD := ND
        have HS := NS
        have B0 := NO
        clear NA NG ND NS NO
        have lA_3 : w1.heap.size < w3.heap.size := (Array.getElem?_eq_some_iff.1 HA.out).1
        have lG_3 : w1.heap.size + 1 < w3.heap.size := (Array.getElem?_eq_some_iff.1 HG.out).1
        have lD_3 : w2.heap.size < w3.heap.size := (Array.getElem?_eq_some_iff.1 HD.out).1
        have lS_3 : w2.heap.size + 1 < w3.heap.size := (Array.getElem?_eq_some_iff.1 HS.out).1
        have zz3 := B0.size
        clear b3
        have cA0 := cell_of HA.out 0
        have cA1 := cell_of HA.out 1
        have cA2 := cell_of HA.out 2
        have cA3 := cell_of HA.out 3
        have cG0 := cell_of HG.out 0
        have cG1 := cell_of HG.out 1
        have cG2 := cell_of HG.out 2
        have cG3 := cell_of HG.out 3
        have cG4 := cell_of HG.out 4
        have cS0 := cell_of HS.out 0
        have cS1 := cell_of HS.out 1
        have cS2 := cell_of HS.out 2
        have cS3 := cell_of HS.out 3
        simp only [List.getElem?_toArray, List.getElem?_cons_zero, List.getElem?_cons_succ] at cA0 cA1 cA2 cA3 cG0 cG1 cG2 cG3 cG4 cS0 cS1 cS2 cS3
        have fA := free_of HA.out
        have fG := free_of HG.out
        have fS := free_of HS.out
        have sne := bxNe
        have dAG : ¬ w1.heap.size = w1.heap.size + 1 := by omega
        have dAD : ¬ w1.heap.size = w2.heap.size := by omega
        have dAS : ¬ w1.heap.size = w2.heap.size + 1 := by omega
        have dGA : ¬ w1.heap.size + 1 = w1.heap.size := by omega
        have dGD : ¬ w1.heap.size + 1 = w2.heap.size := by omega
        have dGS : ¬ w1.heap.size + 1 = w2.heap.size + 1 := by omega
        have dDA : ¬ w2.heap.size = w1.heap.size := by omega
        have dDG : ¬ w2.heap.size = w1.heap.size + 1 := by omega
        have dDS : ¬ w2.heap.size = w2.heap.size + 1 := by omega
        have dSA : ¬ w2.heap.size + 1 = w1.heap.size := by omega
        have dSG : ¬ w2.heap.size + 1 = w1.heap.size + 1 := by omega
        have dSD : ¬ w2.heap.size + 1 = w2.heap.size := by omega
        go_wp2_with fail
        go_region_held3 (fun w' => w'.cell? ⟨w1.heap.size, 0, none⟩ = some (.int .i64 a) ∧ w'.cell? ⟨w1.heap.size, 1, none⟩ = some (.int .i64 b) ∧ w'.cell? ⟨w1.heap.size, 2, none⟩ = some (.int .i64 k) ∧ w'.cell? ⟨w1.heap.size, 3, none⟩ = some (.int .i64 l) ∧ w'.cell? ⟨w1.heap.size + 1, 0, none⟩ = some (.int .i64 r) ∧ w'.cell? ⟨w1.heap.size + 1, 1, none⟩ = some (.int .i64 t) ∧ w'.cell? ⟨w1.heap.size + 1, 2, none⟩ = some (.int .i64 m) ∧ w'.cell? ⟨w1.heap.size + 1, 3, none⟩ = some (.int .i64 x) ∧ w'.cell? ⟨w1.heap.size + 1, 4, none⟩ = some (.int .i64 y) ∧ w'.cell? ⟨w2.heap.size + 1, 0, none⟩ = some (.int .i64 0) ∧ w'.cell? ⟨w2.heap.size + 1, 1, none⟩ = some (.int .i64 e1) ∧ w'.cell? ⟨w2.heap.size + 1, 2, none⟩ = some (.int .i64 y1) ∧ w'.cell? ⟨w2.heap.size + 1, 3, none⟩ = some (.int .i64 0)) (first | exact ⟨cA0, cA1, cA2, cA3, cG0, cG1, cG2, cG3, cG4, cS0, cS1, cS2, cS3⟩ | exact ⟨cell_of (cells_of_below b4 (drewBlk HA.out)) 0, cell_of (cells_of_below b4 (drewBlk HA.out)) 1, cell_of (cells_of_below b4 (drewBlk HA.out)) 2, cell_of (cells_of_below b4 (drewBlk HA.out)) 3, cell_of (cells_of_below b4 (drewBlk HG.out)) 0, cell_of (cells_of_below b4 (drewBlk HG.out)) 1, cell_of (cells_of_below b4 (drewBlk HG.out)) 2, cell_of (cells_of_below b4 (drewBlk HG.out)) 3, cell_of (cells_of_below b4 (drewBlk HG.out)) 4, cell_of (cells_of_below b4 (drewBlk HS.out)) 0, cell_of (cells_of_below b4 (drewBlk HS.out)) 1, cell_of (cells_of_below b4 (drewBlk HS.out)) 2, cell_of (cells_of_below b4 (drewBlk HS.out)) 3⟩) (first
                  | (go_at_call 33; (with_reducible refine (spec_VerifyVector k l r t m x y _ hk hl hr ht).mono ?_); rw [hv]; rintro e w4 ⟨rfl, b4⟩))
        have NA : Hid (w4.heap[w1.heap.size]? = some (.cells #[.int .i64 a, .int .i64 b, .int .i64 k, .int .i64 l] 30 (0, 0))) := Lib.hid (cells_of_below b4 (by (repeat (first | (with_reducible exact HA.out) | (with_reducible exact HG.out) | (with_reducible exact HD.out) | (with_reducible exact HS.out) | ((with_reducible refine newBlk _ _ _ _ ?_); (first | rfl | (simp; done))) | ((with_reducible refine bxSetNe ?_ _ _ ?_); (rotate_left); (first | omega | (simp; omega))) | (with_reducible refine drewBlk ?_) | (with_reducible refine oldBlk _ ?_)))))
        have NG : Hid (w4.heap[w1.heap.size + 1]? = some (.cells #[.int .i64 r, .int .i64 t, .int .i64 m, .int .i64 x, .int .i64 y] 45 (0, 0))) := Lib.hid (cells_of_below b4 (by (repeat (first | (with_reducible exact HA.out) | (with_reducible exact HG.out) | (with_reducible exact HD.out) | (with_reducible exact HS.out) | ((with_reducible refine newBlk _ _ _ _ ?_); (first | rfl | (simp; done))) | ((with_reducible refine bxSetNe ?_ _ _ ?_); (rotate_left); (first | omega | (simp; omega))) | (with_reducible refine drewBlk ?_) | (with_reducible refine oldBlk _ ?_)))))
        have ND : Hid (w4.heap[w2.heap.size]? = some (.cells #[.int .i64 a, .int .i64 b, .int .i64 k, .int .i64 u] 30 (0, 0))) := Lib.hid (cells_of_below b4 (by (repeat (first | (with_reducible exact HA.out) | (with_reducible exact HG.out) | (with_reducible exact HD.out) | (with_reducible exact HS.out) | ((with_reducible refine newBlk _ _ _ _ ?_); (first | rfl | (simp; done))) | ((with_reducible refine bxSetNe ?_ _ _ ?_); (rotate_left); (first | omega | (simp; omega))) | (with_reducible refine drewBlk ?_) | (with_reducible refine oldBlk _ ?_)))))
        have NS : Hid (w4.heap[w2.heap.size + 1]? = some (.cells #[.int .i64 0, .int .i64 e1, .int .i64 y1, .int .i64 0] 48 (0, 0))) := Lib.hid (cells_of_below b4 (by (repeat (first | (with_reducible exact HA.out) | (with_reducible exact HG.out) | (with_reducible exact HD.out) | (with_reducible exact HS.out) | ((with_reducible refine newBlk _ _ _ _ ?_); (first | rfl | (simp; done))) | ((with_reducible refine bxSetNe ?_ _ _ ?_); (rotate_left); (first | omega | (simp; omega))) | (with_reducible refine drewBlk ?_) | (with_reducible refine oldBlk _ ?_)))))
        have NO : Below w.heap.size w w4 := Below.next (by (repeat (first | (with_reducible exact B0) | ((with_reducible refine Below.st ?_ _ _ _ ?_); (rotate_left); (first | omega | (simp; omega))) | (with_reducible refine Below.al ?_ _) | (with_reducible refine Below.drew ?_)))) b4
        clear cA0 cA1 cA2 cA3 cG0 cG1 cG2 cG3 cG4 cS0 cS1 cS2 cS3 fA fG fS sne dAG dAD dAS dGA dGD dGS dDA dDG dDS dSA dSG dSD HA HG HD HS B0
        have HA := NA
        have HG := NG
        have HD := ND
        have HS := NS
        have B0 := NO
        clear NA NG ND NS NO
        have lA_4 : w1.heap.size < w4.heap.size := (Array.getElem?_eq_some_iff.1 HA.out).1
        have lG_4 : w1.heap.size + 1 < w4.heap.size := (Array.getElem?_eq_some_iff.1 HG.out).1
        have lD_4 : w2.heap.size < w4.heap.size := (Array.getElem?_eq_some_iff.1 HD.out).1
        have lS_4 : w2.heap.size + 1 < w4.heap.size := (Array.getElem?_eq_some_iff.1 HS.out).1
        have zz4 := B0.size
        clear b4
        have cD0 := cell_of HD.out 0
        have cD1 := cell_of HD.out 1
        have cD2 := cell_of HD.out 2
        have cD3 := cell_of HD.out 3
        have cG0 := cell_of HG.out 0
        have cG1 := cell_of HG.out 1
        have cG2 := cell_of HG.out 2
        have cG3 := cell_of HG.out 3
        have cG4 := cell_of HG.out 4
        have cS0 := cell_of HS.out 0
        have cS1 := cell_of HS.out 1
        have cS2 := cell_of HS.out 2
        have cS3 := cell_of HS.out 3
        simp only [List.getElem?_toArray, List.getElem?_cons_zero, List.getElem?_cons_succ] at cD0 cD1 cD2 cD3 cG0 cG1 cG2 cG3 cG4 cS0 cS1 cS2 cS3
        have fD := free_of HD.out
        have fG := free_of HG.out
        have fS := free_of HS.out
        have sne := bxNe
        have dAG : ¬ w1.heap.size = w1.heap.size + 1 := by omega
        have dAD : ¬ w1.heap.size = w2.heap.size := by omega
        have dAS : ¬ w1.heap.size = w2.heap.size + 1 := by omega
        have dGA : ¬ w1.heap.size + 1 = w1.heap.size := by omega
        have dGD : ¬ w1.heap.size + 1 = w2.heap.size := by omega
        have dGS : ¬ w1.heap.size + 1 = w2.heap.size + 1 := by omega
        have dDA : ¬ w2.heap.size = w1.heap.size := by omega
        have dDG : ¬ w2.heap.size = w1.heap.size + 1 := by omega
        have dDS : ¬ w2.heap.size = w2.heap.size + 1 := by omega
        have dSA : ¬ w2.heap.size + 1 = w1.heap.size := by omega
        have dSG : ¬ w2.heap.size + 1 = w1.heap.size + 1 := by omega
        have dSD : ¬ w2.heap.size + 1 = w2.heap.size := by omega
        go_wp2_with fail
        refine (impl_RespondToChallenge a b k u r t m x y _ hr ht).mono ?_
        rw [RC2.out]
        rintro e w5 ⟨rfl, b5⟩
        have NA : Hid (w5.heap[w1.heap.size]? = some (.cells #[.int .i64 a, .int .i64 b, .int .i64 k, .int .i64 l] 30 (0, 0))) := Lib.hid (cells_of_below b5 (by (repeat (first | (with_reducible exact HA.out) | (with_reducible exact HG.out) | (with_reducible exact HD.out) | (with_reducible exact HS.out) | ((with_reducible refine newBlk _ _ _ _ ?_); (first | rfl | (simp; done))) | ((with_reducible refine bxSetNe ?_ _ _ ?_); (rotate_left); (first | omega | (simp; omega))) | (with_reducible refine drewBlk ?_) | (with_reducible refine oldBlk _ ?_)))))
        have NG : Hid (w5.heap[w1.heap.size + 1]? = some (.cells #[.int .i64 r, .int .i64 t, .int .i64 m, .int .i64 x, .int .i64 y] 45 (0, 0))) := Lib.hid (cells_of_below b5 (by (repeat (first | (with_reducible exact HA.out) | (with_reducible exact HG.out) | (with_reducible exact HD.out) | (with_reducible exact HS.out) | ((with_reducible refine newBlk _ _ _ _ ?_); (first | rfl | (simp; done))) | ((with_reducible refine bxSetNe ?_ _ _ ?_); (rotate_left); (first | omega | (simp; omega))) | (with_reducible refine drewBlk ?_) | (with_reducible refine oldBlk _ ?_)))))
        have ND : Hid (w5.heap[w2.heap.size]? = some (.cells #[.int .i64 a, .int .i64 b, .int .i64 k, .int .i64 u] 30 (0, 0))) := Lib.hid (cells_of_below b5 (by (repeat (first | (with_reducible exact HA.out) | (with_reducible exact HG.out) | (with_reducible exact HD.out) | (with_reducible exact HS.out) | ((with_reducible refine newBlk _ _ _ _ ?_); (first | rfl | (simp; done))) | ((with_reducible refine bxSetNe ?_ _ _ ?_); (rotate_left); (first | omega | (simp; omega))) | (with_reducible refine drewBlk ?_) | (with_reducible refine oldBlk _ ?_)))))
        have NS : Hid (w5.heap[w2.heap.size + 1]? = some (.cells #[.int .i64 0, .int .i64 e1, .int .i64 y1, .int .i64 0] 48 (0, 0))) := Lib.hid (cells_of_below b5 (by (repeat (first | (with_reducible exact HA.out) | (with_reducible exact HG.out) | (with_reducible exact HD.out) | (with_reducible exact HS.out) | ((with_reducible refine newBlk _ _ _ _ ?_); (first | rfl | (simp; done))) | ((with_reducible refine bxSetNe ?_ _ _ ?_); (rotate_left); (first | omega | (simp; omega))) | (with_reducible refine drewBlk ?_) | (with_reducible refine oldBlk _ ?_)))))
        have NO : Below w.heap.size w w5 := Below.next (by (repeat (first | (with_reducible exact B0) | ((with_reducible refine Below.st ?_ _ _ _ ?_); (rotate_left); (first | omega | (simp; omega))) | (with_reducible refine Below.al ?_ _) | (with_reducible refine Below.drew ?_)))) b5
        clear cD0 cD1 cD2 cD3 cG0 cG1 cG2 cG3 cG4 cS0 cS1 cS2 cS3 fD fG fS sne dAG dAD dAS dGA dGD dGS dDA dDG dDS dSA dSG dSD HA HG HD HS B0
        have HA := NA
        have HG := NG
        have HD := ND
        have HS := NS
        have B0 := NO
        clear NA NG ND NS NO
        have lA_5 : w1.heap.size < w5.heap.size := (Array.getElem?_eq_some_iff.1 HA.out).1
        have lG_5 : w1.heap.size + 1 < w5.heap.size := (Array.getElem?_eq_some_iff.1 HG.out).1
        have lD_5 : w2.heap.size < w5.heap.size := (Array.getElem?_eq_some_iff.1 HD.out).1
        have lS_5 : w2.heap.size + 1 < w5.heap.size := (Array.getElem?_eq_some_iff.1 HS.out).1
        have zz5 := B0.size
        clear b5
        obtain ⟨z1, hz1⟩ : ∃ z, z = M.rcLast 2 k u r t := ⟨_, rfl⟩
        obtain ⟨z2, hz2⟩ : ∃ z, z = M.rcRes 2 k r := ⟨_, rfl⟩
        obtain ⟨z3, hz3⟩ : ∃ z, z = M.rcKey 2 k r t := ⟨_, rfl⟩
        obtain ⟨z4, hz4⟩ : ∃ z, z = M.rcTok 2 k u r := ⟨_, rfl⟩
        rw [← hz1, ← hz2, ← hz3, ← hz4]
        clear hz1 hz2 hz3 hz4
        have cA0 := cell_of HA.out 0
        have cA1 := cell_of HA.out 1
        have cA2 := cell_of HA.out 2
        have cA3 := cell_of HA.out 3
        have cD0 := cell_of HD.out 0
        have cD1 := cell_of HD.out 1
        have cD2 := cell_of HD.out 2
        have cD3 := cell_of HD.out 3
        have cS0 := cell_of HS.out 0
        have cS1 := cell_of HS.out 1
        have cS2 := cell_of HS.out 2
        have cS3 := cell_of HS.out 3
        simp only [List.getElem?_toArray, List.getElem?_cons_zero, List.getElem?_cons_succ] at cA0 cA1 cA2 cA3 cD0 cD1 cD2 cD3 cS0 cS1 cS2 cS3
        have fA := free_of HA.out
        have fD := free_of HD.out
        have fS := free_of HS.out
        have sne := bxNe
        have dAG : ¬ w1.heap.size = w1.heap.size + 1 := by omega
        have dAD : ¬ w1.heap.size = w2.heap.size := by omega
        have dAS : ¬ w1.heap.size = w2.heap.size + 1 := by omega
        have dGA : ¬ w1.heap.size + 1 = w1.heap.size := by omega
        have dGD : ¬ w1.heap.size + 1 = w2.heap.size := by omega
        have dGS : ¬ w1.heap.size + 1 = w2.heap.size + 1 := by omega
        have dDA : ¬ w2.heap.size = w1.heap.size := by omega
        have dDG : ¬ w2.heap.size = w1.heap.size + 1 := by omega
        have dDS : ¬ w2.heap.size = w2.heap.size + 1 := by omega
        have dSA : ¬ w2.heap.size + 1 = w1.heap.size := by omega
        have dSG : ¬ w2.heap.size + 1 = w1.heap.size + 1 := by omega
        have dSD : ¬ w2.heap.size + 1 = w2.heap.size := by omega
        go_wp2_with fail
        refine (impl_IsValidUSIM a b k u _).mono ?_
        rw [hV2]
        rintro e w6 ⟨rfl, ha6⟩
        have b6 := below_of_alloc2 ha6
        clear ha6
        have NA : Hid (w6.heap[w1.heap.size]? = some (.cells #[.int .i64 a, .int .i64 b, .int .i64 k, .int .i64 l] 30 (0, 0))) := Lib.hid (cells_of_below b6 (by (repeat (first | (with_reducible exact HA.out) | (with_reducible exact HG.out) | (with_reducible exact HD.out) | (with_reducible exact HS.out) | ((with_reducible refine newBlk _ _ _ _ ?_); (first | rfl | (simp; done))) | ((with_reducible refine bxSetNe ?_ _ _ ?_); (rotate_left); (first | omega | (simp; omega))) | (with_reducible refine drewBlk ?_) | (with_reducible refine oldBlk _ ?_)))))
        have NG : Hid (w6.heap[w1.heap.size + 1]? = some (.cells #[.int .i64 r, .int .i64 t, .int .i64 m, .int .i64 x, .int .i64 y] 45 (0, 0))) := Lib.hid (cells_of_below b6 (by (repeat (first | (with_reducible exact HA.out) | (with_reducible exact HG.out) | (with_reducible exact HD.out) | (with_reducible exact HS.out) | ((with_reducible refine newBlk _ _ _ _ ?_); (first | rfl | (simp; done))) | ((with_reducible refine bxSetNe ?_ _ _ ?_); (rotate_left); (first | omega | (simp; omega))) | (with_reducible refine drewBlk ?_) | (with_reducible refine oldBlk _ ?_)))))
        have ND : Hid (w6.heap[w2.heap.size]? = some (.cells #[.int .i64 a, .int .i64 b, .int .i64 k, .int .i64 u] 30 (0, 0))) := Lib.hid (cells_of_below b6 (by (repeat (first | (with_reducible exact HA.out) | (with_reducible exact HG.out) | (with_reducible exact HD.out) | (with_reducible exact HS.out) | ((with_reducible refine newBlk _ _ _ _ ?_); (first | rfl | (simp; done))) | ((with_reducible refine bxSetNe ?_ _ _ ?_); (rotate_left); (first | omega | (simp; omega))) | (with_reducible refine drewBlk ?_) | (with_reducible refine oldBlk _ ?_)))))
        have NS : Hid (w6.heap[w2.heap.size + 1]? = some (.cells #[.int .i64 0, .int .i64 e1, .int .i64 y1, .int .i64 0] 48 (0, 0))) := Lib.hid (cells_of_below b6 (by (repeat (first | (with_reducible exact HA.out) | (with_reducible exact HG.out) | (with_reducible exact HD.out) | (with_reducible exact HS.out) | ((with_reducible refine newBlk _ _ _ _ ?_); (first | rfl | (simp; done))) | ((with_reducible refine bxSetNe ?_ _ _ ?_); (rotate_left); (first | omega | (simp; omega))) | (with_reducible refine drewBlk ?_) | (with_reducible refine oldBlk _ ?_)))))
        have NE : Hid (w6.heap[w5.heap.size]? = some (.cells #[.int .i64 a, .int .i64 b, .int .i64 k, .int .i64 z1] 30 (0, 0))) := Lib.hid (cells_of_below b6 (by (repeat (first | (with_reducible exact HA.out) | (with_reducible exact HG.out) | (with_reducible exact HD.out) | (with_reducible exact HS.out) | ((with_reducible refine newBlk _ _ _ _ ?_); (first | rfl | (simp; done))) | ((with_reducible refine bxSetNe ?_ _ _ ?_); (rotate_left); (first | omega | (simp; omega))) | (with_reducible refine drewBlk ?_) | (with_reducible refine oldBlk _ ?_)))))
        have NH : Hid (w6.heap[w5.heap.size + 1]? = some (.cells #[.int .i64 2, .int .i64 z2, .int .i64 z3, .int .i64 z4] 48 (0, 0))) := Lib.hid (cells_of_below b6 (by (repeat (first | (with_reducible exact HA.out) | (with_reducible exact HG.out) | (with_reducible exact HD.out) | (with_reducible exact HS.out) | ((with_reducible refine newBlk _ _ _ _ ?_); (first | rfl | (simp; done))) | ((with_reducible refine bxSetNe ?_ _ _ ?_); (rotate_left); (first | omega | (simp; omega))) | (with_reducible refine drewBlk ?_) | (with_reducible refine oldBlk _ ?_)))))
        have NO : Below w.heap.size w w6 := Below.next (by (repeat (first | (with_reducible exact B0) | ((with_reducible refine Below.st ?_ _ _ _ ?_); (rotate_left); (first | omega | (simp; omega))) | (with_reducible refine Below.al ?_ _) | (with_reducible refine Below.drew ?_)))) b6
        clear cA0 cA1 cA2 cA3 cD0 cD1 cD2 cD3 cS0 cS1 cS2 cS3 fA fD fS sne dAG dAD dAS dGA dGD dGS dDA dDG dDS dSA dSG dSD HA HG HD HS B0
        have HA := NA
        have HG := NG
        have HD := ND
        have HS := NS
        have HE := NE
        have HH := NH
        have B0 := NO
        clear NA NG ND NS NE NH NO
        have lA_6 : w1.heap.size < w6.heap.size := (Array.getElem?_eq_some_iff.1 HA.out).1
        have lG_6 : w1.heap.size + 1 < w6.heap.size := (Array.getElem?_eq_some_iff.1 HG.out).1
        have lD_6 : w2.heap.size < w6.heap.size := (Array.getElem?_eq_some_iff.1 HD.out).1
        have lS_6 : w2.heap.size + 1 < w6.heap.size := (Array.getElem?_eq_some_iff.1 HS.out).1
        have lE_6 : w5.heap.size < w6.heap.size := (Array.getElem?_eq_some_iff.1 HE.out).1
        have lH_6 : w5.heap.size + 1 < w6.heap.size := (Array.getElem?_eq_some_iff.1 HH.out).1
        have zz6 := B0.size
        clear b6
        have cA0 := cell_of HA.out 0
        have cA1 := cell_of HA.out 1
        have cA2 := cell_of HA.out 2
        have cA3 := cell_of HA.out 3
        have cD0 := cell_of HD.out 0
        have cD1 := cell_of HD.out 1
        have cD2 := cell_of HD.out 2
        have cD3 := cell_of HD.out 3
        have cS0 := cell_of HS.out 0
        have cS1 := cell_of HS.out 1
        have cS2 := cell_of HS.out 2
        have cS3 := cell_of HS.out 3
        have cH0 := cell_of HH.out 0
        have cH1 := cell_of HH.out 1
        have cH2 := cell_of HH.out 2
        have cH3 := cell_of HH.out 3
        simp only [List.getElem?_toArray, List.getElem?_cons_zero, List.getElem?_cons_succ] at cA0 cA1 cA2 cA3 cD0 cD1 cD2 cD3 cS0 cS1 cS2 cS3 cH0 cH1 cH2 cH3
        have fA := free_of HA.out
        have fD := free_of HD.out
        have fS := free_of HS.out
        have fH := free_of HH.out
        have sne := bxNe
        have dAG : ¬ w1.heap.size = w1.heap.size + 1 := by omega
        have dAD : ¬ w1.heap.size = w2.heap.size := by omega
        have dAS : ¬ w1.heap.size = w2.heap.size + 1 := by omega
        have dAE : ¬ w1.heap.size = w5.heap.size := by omega
        have dAH : ¬ w1.heap.size = w5.heap.size + 1 := by omega
        have dGA : ¬ w1.heap.size + 1 = w1.heap.size := by omega
        have dGD : ¬ w1.heap.size + 1 = w2.heap.size := by omega
        have dGS : ¬ w1.heap.size + 1 = w2.heap.size + 1 := by omega
        have dGE : ¬ w1.heap.size + 1 = w5.heap.size := by omega
        have dGH : ¬ w1.heap.size + 1 = w5.heap.size + 1 := by omega
        have dDA : ¬ w2.heap.size = w1.heap.size := by omega
        have dDG : ¬ w2.heap.size = w1.heap.size + 1 := by omega
        have dDS : ¬ w2.heap.size = w2.heap.size + 1 := by omega
        have dDE : ¬ w2.heap.size = w5.heap.size := by omega
        have dDH : ¬ w2.heap.size = w5.heap.size + 1 := by omega
        have dSA : ¬ w2.heap.size + 1 = w1.heap.size := by omega
        have dSG : ¬ w2.heap.size + 1 = w1.heap.size + 1 := by omega
        have dSD : ¬ w2.heap.size + 1 = w2.heap.size := by omega
        have dSE : ¬ w2.heap.size + 1 = w5.heap.size := by omega
        have dSH : ¬ w2.heap.size + 1 = w5.heap.size + 1 := by omega
        have dEA : ¬ w5.heap.size = w1.heap.size := by omega
        have dEG : ¬ w5.heap.size = w1.heap.size + 1 := by omega
        have dED : ¬ w5.heap.size = w2.heap.size := by omega
        have dES : ¬ w5.heap.size = w2.heap.size + 1 := by omega
        have dEH : ¬ w5.heap.size = w5.heap.size + 1 := by omega
        have dHA : ¬ w5.heap.size + 1 = w1.heap.size := by omega
        have dHG : ¬ w5.heap.size + 1 = w1.heap.size + 1 := by omega
        have dHD : ¬ w5.heap.size + 1 = w2.heap.size := by omega
        have dHS : ¬ w5.heap.size + 1 = w2.heap.size + 1 := by omega
        have dHE : ¬ w5.heap.size + 1 = w5.heap.size := by omega
        go_wp2_with fail
        refine (impl_IsValidKey _ _).mono ?_
        rw [u3]
        rintro e w' ⟨rfl, rfl⟩
        go_wp2_with fail
        go_ret
        exact ⟨by first | rfl | (simp; done), by repeat (first | (with_reducible exact B0) | (with_reducible refine Below.al ?_ _) | (with_reducible refine Below.drew ?_))⟩
      · have RC := Lib.hid ((rc_val (r := r) (t := t) (m := m) hV).trans hv)
        have RL := Lib.hid (rc_bad k l r t).1
        have RR := Lib.hid (rc_bad k l r t).2.1
        have RK := Lib.hid (rc_bad k l r t).2.2.1
        have RT := Lib.hid (rc_bad k l r t).2.2.2
        go_wp2_with fail
        refine (impl_RespondToChallenge a b k l r t m x y _ hr ht).mono ?_
        rw [RC.out, RL.out, RR.out, RK.out, RT.out]
        rintro e w2 ⟨rfl, b2⟩
        have NA : Hid (w2.heap[w1.heap.size]? = some (.cells #[.int .i64 a, .int .i64 b, .int .i64 k, .int .i64 l] 30 (0, 0))) := Lib.hid (cells_of_below b2 (by (repeat (first | ((with_reducible refine newBlk _ _ _ _ ?_); (first | rfl | (simp; done))) | ((with_reducible refine bxSetNe ?_ _ _ ?_); (rotate_left); (first | omega | (simp; omega))) | (with_reducible refine drewBlk ?_) | (with_reducible refine oldBlk _ ?_)))))
        have NG : Hid (w2.heap[w1.heap.size + 1]? = some (.cells #[.int .i64 r, .int .i64 t, .int .i64 m, .int .i64 x, .int .i64 y] 45 (0, 0))) := Lib.hid (cells_of_below b2 (by (repeat (first | ((with_reducible refine newBlk _ _ _ _ ?_); (first | rfl | (simp; done))) | ((with_reducible refine bxSetNe ?_ _ _ ?_); (rotate_left); (first | omega | (simp; omega))) | (with_reducible refine drewBlk ?_) | (with_reducible refine oldBlk _ ?_)))))
        have NO : Below w.heap.size w w2 := Below.next (by (repeat (first | (with_reducible exact B0) | ((with_reducible refine Below.st ?_ _ _ _ ?_); (rotate_left); (first | omega | (simp; omega))) | (with_reducible refine Below.al ?_ _) | (with_reducible refine Below.drew ?_)))) b2
        clear B0
        have HA := NA
        have HG := NG
        have B0 := NO
        clear NA NG NO
        have lA_2 : w1.heap.size < w2.heap.size := (Array.getElem?_eq_some_iff.1 HA.out).1
        have lG_2 : w1.heap.size + 1 < w2.heap.size := (Array.getElem?_eq_some_iff.1 HG.out).1
        have zz2 := B0.size
        clear b2
        have cA0 := cell_of HA.out 0
        have cA1 := cell_of HA.out 1
        have cA2 := cell_of HA.out 2
        have cA3 := cell_of HA.out 3
        have cG0 := cell_of HG.out 0
        have cG1 := cell_of HG.out 1
        have cG2 := cell_of HG.out 2
        have cG3 := cell_of HG.out 3
        have cG4 := cell_of HG.out 4
        simp only [List.getElem?_toArray, List.getElem?_cons_zero, List.getElem?_cons_succ] at cA0 cA1 cA2 cA3 cG0 cG1 cG2 cG3 cG4
        have fA := free_of HA.out
        have fG := free_of HG.out
        have sne := bxNe
        have dAG : ¬ w1.heap.size = w1.heap.size + 1 := by omega
        have dGA : ¬ w1.heap.size + 1 = w1.heap.size := by omega
        go_wp2_with fail
        refine (spec_IsValidUSIM a b k l _).mono ?_
        rw [hV]
        rintro e w3 ⟨rfl, ha3⟩
        have b3 := below_of_alloc2 ha3
        clear ha3
        have NA : Hid (w3.heap[w1.heap.size]? = some (.cells #[.int .i64 a, .int .i64 b, .int .i64 k, .int .i64 l] 30 (0, 0))) := Lib.hid (cells_of_below b3 (by (repeat (first | (with_reducible exact HA.out) | (with_reducible exact HG.out) | ((with_reducible refine newBlk _ _ _ _ ?_); (first | rfl | (simp; done))) | ((with_reducible refine bxSetNe ?_ _ _ ?_); (rotate_left); (first | omega | (simp; omega))) | (with_reducible refine drewBlk ?_) | (with_reducible refine oldBlk _ ?_)))))
        have NG : Hid (w3.heap[w1.heap.size + 1]? = some (.cells #[.int .i64 r, .int .i64 t, .int .i64 m, .int .i64 x, .int .i64 y] 45 (0, 0))) := Lib.hid (cells_of_below b3 (by (repeat (first | (with_reducible exact HA.out) | (with_reducible exact HG.out) | ((with_reducible refine newBlk _ _ _ _ ?_); (first | rfl | (simp; done))) | ((with_reducible refine bxSetNe ?_ _ _ ?_); (rotate_left); (first | omega | (simp; omega))) | (with_reducible refine drewBlk ?_) | (with_reducible refine oldBlk _ ?_)))))
        have ND : Hid (w3.heap[w2.heap.size]? = some (.cells #[.int .i64 a, .int .i64 b, .int .i64 k, .int .i64 l] 30 (0, 0))) := Lib.hid (cells_of_below b3 (by (repeat (first | (with_reducible exact HA.out) | (with_reducible exact HG.out) | ((with_reducible refine newBlk _ _ _ _ ?_); (first | rfl | (simp; done))) | ((with_reducible refine bxSetNe ?_ _ _ ?_); (rotate_left); (first | omega | (simp; omega))) | (with_reducible refine drewBlk ?_) | (with_reducible refine oldBlk _ ?_)))))
        have NS : Hid (w3.heap[w2.heap.size + 1]? = some (.cells #[.int .i64 1, .int .i64 0, .int .i64 0, .int .i64 0] 48 (0, 0))) := Lib.hid (cells_of_below b3 (by (repeat (first | (with_reducible exact HA.out) | (with_reducible exact HG.out) | ((with_reducible refine newBlk _ _ _ _ ?_); (first | rfl | (simp; done))) | ((with_reducible refine bxSetNe ?_ _ _ ?_); (rotate_left); (first | omega | (simp; omega))) | (with_reducible refine drewBlk ?_) | (with_reducible refine oldBlk _ ?_)))))
        have NO : Below w.heap.size w w3 := Below.next (by (repeat (first | (with_reducible exact B0) | ((with_reducible refine Below.st ?_ _ _ _ ?_); (rotate_left); (first | omega | (simp; omega))) | (with_reducible refine Below.al ?_ _) | (with_reducible refine Below.drew ?_)))) b3
        clear cA0 cA1 cA2 cA3 cG0 cG1 cG2 cG3 cG4 fA fG sne dAG dGA HA HG B0
        have HA := NA
        have HG := NG
        have HD := ND
        have HS := NS
        have B0 := NO
        clear NA NG ND NS NO
        have lA_3 : w1.heap.size < w3.heap.size := (Array.getElem?_eq_some_iff.1 HA.out).1
        have lG_3 : w1.heap.size + 1 < w3.heap.size := (Array.getElem?_eq_some_iff.1 HG.out).1
        have lD_3 : w2.heap.size < w3.heap.size := (Array.getElem?_eq_some_iff.1 HD.out).1
        have lS_3 : w2.heap.size + 1 < w3.heap.size := (Array.getElem?_eq_some_iff.1 HS.out).1
        have zz3 := B0.size
        clear b3
        have cA0 := cell_of HA.out 0
        have cA1 := cell_of HA.out 1
        have cA2 := cell_of HA.out 2
        have cA3 := cell_of HA.out 3
        have cG0 := cell_of HG.out 0
        have cG1 := cell_of HG.out 1
        have cG2 := cell_of HG.out 2
        have cG3 := cell_of HG.out 3
        have cG4 := cell_of HG.out 4
        have cS0 := cell_of HS.out 0
        have cS1 := cell_of HS.out 1
        have cS2 := cell_of HS.out 2
        have cS3 := cell_of HS.out 3
        simp only [List.getElem?_toArray, List.getElem?_cons_zero, List.getElem?_cons_succ] at cA0 cA1 cA2 cA3 cG0 cG1 cG2 cG3 cG4 cS0 cS1 cS2 cS3
        have fA := free_of HA.out
        have fG := free_of HG.out
        have fS := free_of HS.out
        have sne := bxNe
        have dAG : ¬ w1.heap.size = w1.heap.size + 1 := by omega
        have dAD : ¬ w1.heap.size = w2.heap.size := by omega
        have dAS : ¬ w1.heap.size = w2.heap.size + 1 := by omega
        have dGA : ¬ w1.heap.size + 1 = w1.heap.size := by omega
        have dGD : ¬ w1.heap.size + 1 = w2.heap.size := by omega
        have dGS : ¬ w1.heap.size + 1 = w2.heap.size + 1 := by omega
        have dDA : ¬ w2.heap.size = w1.heap.size := by omega
        have dDG : ¬ w2.heap.size = w1.heap.size + 1 := by omega
        have dDS : ¬ w2.heap.size = w2.heap.size + 1 := by omega
        have dSA : ¬ w2.heap.size + 1 = w1.heap.size := by omega
        have dSG : ¬ w2.heap.size + 1 = w1.heap.size + 1 := by omega
        have dSD : ¬ w2.heap.size + 1 = w2.heap.size := by omega
        go_wp2_with fail
        go_region_held3 (fun w' => w'.cell? ⟨w1.heap.size, 0, none⟩ = some (.int .i64 a) ∧ w'.cell? ⟨w1.heap.size, 1, none⟩ = some (.int .i64 b) ∧ w'.cell? ⟨w1.heap.size, 2, none⟩ = some (.int .i64 k) ∧ w'.cell? ⟨w1.heap.size, 3, none⟩ = some (.int .i64 l) ∧ w'.cell? ⟨w1.heap.size + 1, 0, none⟩ = some (.int .i64 r) ∧ w'.cell? ⟨w1.heap.size + 1, 1, none⟩ = some (.int .i64 t) ∧ w'.cell? ⟨w1.heap.size + 1, 2, none⟩ = some (.int .i64 m) ∧ w'.cell? ⟨w1.heap.size + 1, 3, none⟩ = some (.int .i64 x) ∧ w'.cell? ⟨w1.heap.size + 1, 4, none⟩ = some (.int .i64 y) ∧ w'.cell? ⟨w2.heap.size + 1, 0, none⟩ = some (.int .i64 1) ∧ w'.cell? ⟨w2.heap.size + 1, 1, none⟩ = some (.int .i64 0) ∧ w'.cell? ⟨w2.heap.size + 1, 2, none⟩ = some (.int .i64 0) ∧ w'.cell? ⟨w2.heap.size + 1, 3, none⟩ = some (.int .i64 0)) (first | exact ⟨cA0, cA1, cA2, cA3, cG0, cG1, cG2, cG3, cG4, cS0, cS1, cS2, cS3⟩ | exact ⟨cell_of (cells_of_below b4 (drewBlk HA.out)) 0, cell_of (cells_of_below b4 (drewBlk HA.out)) 1, cell_of (cells_of_below b4 (drewBlk HA.out)) 2, cell_of (cells_of_below b4 (drewBlk HA.out)) 3, cell_of (cells_of_below b4 (drewBlk HG.out)) 0, cell_of (cells_of_below b4 (drewBlk HG.out)) 1, cell_of (cells_of_below b4 (drewBlk HG.out)) 2, cell_of (cells_of_below b4 (drewBlk HG.out)) 3, cell_of (cells_of_below b4 (drewBlk HG.out)) 4, cell_of (cells_of_below b4 (drewBlk HS.out)) 0, cell_of (cells_of_below b4 (drewBlk HS.out)) 1, cell_of (cells_of_below b4 (drewBlk HS.out)) 2, cell_of (cells_of_below b4 (drewBlk HS.out)) 3⟩) (first
                  | (go_at_call 33; (with_reducible refine (spec_VerifyVector k l r t m x y _ hk hl hr ht).mono ?_); rw [hv]; rintro e w4 ⟨rfl, b4⟩))
        have NA : Hid (w4.heap[w1.heap.size]? = some (.cells #[.int .i64 a, .int .i64 b, .int .i64 k, .int .i64 l] 30 (0, 0))) := Lib.hid (cells_of_below b4 (by (repeat (first | (with_reducible exact HA.out) | (with_reducible exact HG.out) | (with_reducible exact HD.out) | (with_reducible exact HS.out) | ((with_reducible refine newBlk _ _ _ _ ?_); (first | rfl | (simp; done))) | ((with_reducible refine bxSetNe ?_ _ _ ?_); (rotate_left); (first | omega | (simp; omega))) | (with_reducible refine drewBlk ?_) | (with_reducible refine oldBlk _ ?_)))))
        have NG : Hid (w4.heap[w1.heap.size + 1]? = some (.cells #[.int .i64 r, .int .i64 t, .int .i64 m, .int .i64 x, .int .i64 y] 45 (0, 0))) := Lib.hid (cells_of_below b4 (by (repeat (first | (with_reducible exact HA.out) | (with_reducible exact HG.out) | (with_reducible exact HD.out) | (with_reducible exact HS.out) | ((with_reducible refine newBlk _ _ _ _ ?_); (first | rfl | (simp; done))) | ((with_reducible refine bxSetNe ?_ _ _ ?_); (rotate_left); (first | omega | (simp; omega))) | (with_reducible refine drewBlk ?_) | (with_reducible refine oldBlk _ ?_)))))
        have ND : Hid (w4.heap[w2.heap.size]? = some (.cells #[.int .i64 a, .int .i64 b, .int .i64 k, .int .i64 l] 30 (0, 0))) := Lib.hid (cells_of_below b4 (by (repeat (first | (with_reducible exact HA.out) | (with_reducible exact HG.out) | (with_reducible exact HD.out) | (with_reducible exact HS.out) | ((with_reducible refine newBlk _ _ _ _ ?_); (first | rfl | (simp; done))) | ((with_reducible refine bxSetNe ?_ _ _ ?_); (rotate_left); (first | omega | (simp; omega))) | (with_reducible refine drewBlk ?_) | (with_reducible refine oldBlk _ ?_)))))
        have NS : Hid (w4.heap[w2.heap.size + 1]? = some (.cells #[.int .i64 1, .int .i64 0, .int .i64 0, .int .i64 0] 48 (0, 0))) := Lib.hid (cells_of_below b4 (by (repeat (first | (with_reducible exact HA.out) | (with_reducible exact HG.out) | (with_reducible exact HD.out) | (with_reducible exact HS.out) | ((with_reducible refine newBlk _ _ _ _ ?_); (first | rfl | (simp; done))) | ((with_reducible refine bxSetNe ?_ _ _ ?_); (rotate_left); (first | omega | (simp; omega))) | (with_reducible refine drewBlk ?_) | (with_reducible refine oldBlk _ ?_)))))
        have NO : Below w.heap.size w w4 := Below.next (by (repeat (first | (with_reducible exact B0) | ((with_reducible refine Below.st ?_ _ _ _ ?_); (rotate_left); (first | omega | (simp; omega))) | (with_reducible refine Below.al ?_ _) | (with_reducible refine Below.drew ?_)))) b4
        clear cA0 cA1 cA2 cA3 cG0 cG1 cG2 cG3 cG4 cS0 cS1 cS2 cS3 fA fG fS sne dAG dAD dAS dGA dGD dGS dDA dDG dDS dSA dSG dSD HA HG HD HS B0
        have HA := NA
        have HG := NG
        have HD := ND
        have HS := NS
        have B0 := NO
        clear NA NG ND NS NO
        have lA_4 : w1.heap.size < w4.heap.size := (Array.getElem?_eq_some_iff.1 HA.out).1
        have lG_4 : w1.heap.size + 1 < w4.heap.size := (Array.getElem?_eq_some_iff.1 HG.out).1
        have lD_4 : w2.heap.size < w4.heap.size := (Array.getElem?_eq_some_iff.1 HD.out).1
        have lS_4 : w2.heap.size + 1 < w4.heap.size := (Array.getElem?_eq_some_iff.1 HS.out).1
        have zz4 := B0.size
        clear b4
        have cA0 := cell_of HA.out 0
        have cA1 := cell_of HA.out 1
        have cA2 := cell_of HA.out 2
        have cA3 := cell_of HA.out 3
        have cD0 := cell_of HD.out 0
        have cD1 := cell_of HD.out 1
        have cD2 := cell_of HD.out 2
        have cD3 := cell_of HD.out 3
        have cS0 := cell_of HS.out 0
        have cS1 := cell_of HS.out 1
        have cS2 := cell_of HS.out 2
        have cS3 := cell_of HS.out 3
        simp only [List.getElem?_toArray, List.getElem?_cons_zero, List.getElem?_cons_succ] at cA0 cA1 cA2 cA3 cD0 cD1 cD2 cD3 cS0 cS1 cS2 cS3
        have fA := free_of HA.out
        have fD := free_of HD.out
        have fS := free_of HS.out
        have sne := bxNe
        have dAG : ¬ w1.heap.size = w1.heap.size + 1 := by omega
        have dAD : ¬ w1.heap.size = w2.heap.size := by omega
        have dAS : ¬ w1.heap.size = w2.heap.size + 1 := by omega
        have dGA : ¬ w1.heap.size + 1 = w1.heap.size := by omega
        have dGD : ¬ w1.heap.size + 1 = w2.heap.size := by omega
        have dGS : ¬ w1.heap.size + 1 = w2.heap.size + 1 := by omega
        have dDA : ¬ w2.heap.size = w1.heap.size := by omega
        have dDG : ¬ w2.heap.size = w1.heap.size + 1 := by omega
        have dDS : ¬ w2.heap.size = w2.heap.size + 1 := by omega
        have dSA : ¬ w2.heap.size + 1 = w1.heap.size := by omega
        have dSG : ¬ w2.heap.size + 1 = w1.heap.size + 1 := by omega
        have dSD : ¬ w2.heap.size + 1 = w2.heap.size := by omega
        go_wp2_with fail
        go_ret
        exact ⟨by first | rfl | (simp; done), by repeat (first | (with_reducible exact B0) | (with_reducible refine Below.al ?_ _) | (with_reducible refine Below.drew ?_))⟩
      · obtain ⟨z, hz⟩ : ∃ z, z = M.token k r l := ⟨_, rfl⟩
        have RC := Lib.hid ((rc_val (r := r) (t := t) (m := m) hV).trans hv)
        have RL := Lib.hid (rc_tok2 k l r t).1
        have RR := Lib.hid (rc_tok2 k l r t).2.1
        have RK := Lib.hid (rc_tok2 k l r t).2.2.1
        have RT := Lib.hid ((rc_tok2 k l r t).2.2.2.trans hz.symm)
        have HZ := Lib.hid hz
        clear hz
        go_wp2_with fail
        refine (impl_RespondToChallenge a b k l r t m x y _ hr ht).mono ?_
        rw [RC.out, RL.out, RR.out, RK.out, RT.out]
        rintro e w2 ⟨rfl, b2⟩
        have NA : Hid (w2.heap[w1.heap.size]? = some (.cells #[.int .i64 a, .int .i64 b, .int .i64 k, .int .i64 l] 30 (0, 0))) := Lib.hid (cells_of_below b2 (by (repeat (first | ((with_reducible refine newBlk _ _ _ _ ?_); (first | rfl | (simp; done))) | ((with_reducible refine bxSetNe ?_ _ _ ?_); (rotate_left); (first | omega | (simp; omega))) | (with_reducible refine drewBlk ?_) | (with_reducible refine oldBlk _ ?_)))))
        have NG : Hid (w2.heap[w1.heap.size + 1]? = some (.cells #[.int .i64 r, .int .i64 t, .int .i64 m, .int .i64 x, .int .i64 y] 45 (0, 0))) := Lib.hid (cells_of_below b2 (by (repeat (first | ((with_reducible refine newBlk _ _ _ _ ?_); (first | rfl | (simp; done))) | ((with_reducible refine bxSetNe ?_ _ _ ?_); (rotate_left); (first | omega | (simp; omega))) | (with_reducible refine drewBlk ?_) | (with_reducible refine oldBlk _ ?_)))))
        have NO : Below w.heap.size w w2 := Below.next (by (repeat (first | (with_reducible exact B0) | ((with_reducible refine Below.st ?_ _ _ _ ?_); (rotate_left); (first | omega | (simp; omega))) | (with_reducible refine Below.al ?_ _) | (with_reducible refine Below.drew ?_)))) b2
        clear B0
        have HA := NA
        have HG := NG
        have B0 := NO
        clear NA NG NO
        have lA_2 : w1.heap.size < w2.heap.size := (Array.getElem?_eq_some_iff.1 HA.out).1
        have lG_2 : w1.heap.size + 1 < w2.heap.size := (Array.getElem?_eq_some_iff.1 HG.out).1
        have zz2 := B0.size
        clear b2
        have cA0 := cell_of HA.out 0
        have cA1 := cell_of HA.out 1
        have cA2 := cell_of HA.out 2
        have cA3 := cell_of HA.out 3
        have cG0 := cell_of HG.out 0
        have cG1 := cell_of HG.out 1
        have cG2 := cell_of HG.out 2
        have cG3 := cell_of HG.out 3
        have cG4 := cell_of HG.out 4
        simp only [List.getElem?_toArray, List.getElem?_cons_zero, List.getElem?_cons_succ] at cA0 cA1 cA2 cA3 cG0 cG1 cG2 cG3 cG4
        have fA := free_of HA.out
        have fG := free_of HG.out
        have sne := bxNe
        have dAG : ¬ w1.heap.size = w1.heap.size + 1 := by omega
        have dGA : ¬ w1.heap.size + 1 = w1.heap.size := by omega
        go_wp2_with fail
        refine (spec_IsValidUSIM a b k l _).mono ?_
        rw [hV]
        rintro e w3 ⟨rfl, ha3⟩
        have b3 := below_of_alloc2 ha3
        clear ha3
        have NA : Hid (w3.heap[w1.heap.size]? = some (.cells #[.int .i64 a, .int .i64 b, .int .i64 k, .int .i64 l] 30 (0, 0))) := Lib.hid (cells_of_below b3 (by (repeat (first | (with_reducible exact HA.out) | (with_reducible exact HG.out) | ((with_reducible refine newBlk _ _ _ _ ?_); (first | rfl | (simp; done))) | ((with_reducible refine bxSetNe ?_ _ _ ?_); (rotate_left); (first | omega | (simp; omega))) | (with_reducible refine drewBlk ?_) | (with_reducible refine oldBlk _ ?_)))))
        have NG : Hid (w3.heap[w1.heap.size + 1]? = some (.cells #[.int .i64 r, .int .i64 t, .int .i64 m, .int .i64 x, .int .i64 y] 45 (0, 0))) := Lib.hid (cells_of_below b3 (by (repeat (first | (with_reducible exact HA.out) | (with_reducible exact HG.out) | ((with_reducible refine newBlk _ _ _ _ ?_); (first | rfl | (simp; done))) | ((with_reducible refine bxSetNe ?_ _ _ ?_); (rotate_left); (first | omega | (simp; omega))) | (with_reducible refine drewBlk ?_) | (with_reducible refine oldBlk _ ?_)))))
        have ND : Hid (w3.heap[w2.heap.size]? = some (.cells #[.int .i64 a, .int .i64 b, .int .i64 k, .int .i64 l] 30 (0, 0))) := Lib.hid (cells_of_below b3 (by (repeat (first | (with_reducible exact HA.out) | (with_reducible exact HG.out) | ((with_reducible refine newBlk _ _ _ _ ?_); (first | rfl | (simp; done))) | ((with_reducible refine bxSetNe ?_ _ _ ?_); (rotate_left); (first | omega | (simp; omega))) | (with_reducible refine drewBlk ?_) | (with_reducible refine oldBlk _ ?_)))))
        have NS : Hid (w3.heap[w2.heap.size + 1]? = some (.cells #[.int .i64 2, .int .i64 0, .int .i64 0, .int .i64 z] 48 (0, 0))) := Lib.hid (cells_of_below b3 (by (repeat (first | (with_reducible exact HA.out) | (with_reducible exact HG.out) | ((with_reducible refine newBlk _ _ _ _ ?_); (first | rfl | (simp; done))) | ((with_reducible refine bxSetNe ?_ _ _ ?_); (rotate_left); (first | omega | (simp; omega))) | (with_reducible refine drewBlk ?_) | (with_reducible refine oldBlk _ ?_)))))
        have NO : Below w.heap.size w w3 := Below.next (by (repeat (first | (with_reducible exact B0) | ((with_reducible refine Below.st ?_ _ _ _ ?_); (rotate_left); (first | omega | (simp; omega))) | (with_reducible refine Below.al ?_ _) | (with_reducible refine Below.drew ?_)))) b3
        clear cA0 cA1 cA2 cA3 cG0 cG1 cG2 cG3 cG4 fA fG sne dAG dGA HA HG B0
        have HA := NA
        have HG := NG
        have HD := ND
        have HS := NS
        have B0 := NO
        clear NA NG ND NS NO
        have lA_3 : w1.heap.size < w3.heap.size := (Array.getElem?_eq_some_iff.1 HA.out).1
        have lG_3 : w1.heap.size + 1 < w3.heap.size := (Array.getElem?_eq_some_iff.1 HG.out).1
        have lD_3 : w2.heap.size < w3.heap.size := (Array.getElem?_eq_some_iff.1 HD.out).1
        have lS_3 : w2.heap.size + 1 < w3.heap.size := (Array.getElem?_eq_some_iff.1 HS.out).1
        have zz3 := B0.size
        clear b3
        have cA0 := cell_of HA.out 0
        have cA1 := cell_of HA.out 1
        have cA2 := cell_of HA.out 2
        have cA3 := cell_of HA.out 3
        have cG0 := cell_of HG.out 0
        have cG1 := cell_of HG.out 1
        have cG2 := cell_of HG.out 2
        have cG3 := cell_of HG.out 3
        have cG4 := cell_of HG.out 4
        have cS0 := cell_of HS.out 0
        have cS1 := cell_of HS.out 1
        have cS2 := cell_of HS.out 2
        have cS3 := cell_of HS.out 3
        simp only [List.getElem?_toArray, List.getElem?_cons_zero, List.getElem?_cons_succ] at cA0 cA1 cA2 cA3 cG0 cG1 cG2 cG3 cG4 cS0 cS1 cS2 cS3
        have fA := free_of HA.out
        have fG := free_of HG.out
        have fS := free_of HS.out
        have sne := bxNe
        have dAG : ¬ w1.heap.size = w1.heap.size + 1 := by omega
        have dAD : ¬ w1.heap.size = w2.heap.size := by omega
        have dAS : ¬ w1.heap.size = w2.heap.size + 1 := by omega
        have dGA : ¬ w1.heap.size + 1 = w1.heap.size := by omega
        have dGD : ¬ w1.heap.size + 1 = w2.heap.size := by omega
        have dGS : ¬ w1.heap.size + 1 = w2.heap.size + 1 := by omega
        have dDA : ¬ w2.heap.size = w1.heap.size := by omega
        have dDG : ¬ w2.heap.size = w1.heap.size + 1 := by omega
        have dDS : ¬ w2.heap.size = w2.heap.size + 1 := by omega
        have dSA : ¬ w2.heap.size + 1 = w1.heap.size := by omega
        have dSG : ¬ w2.heap.size + 1 = w1.heap.size + 1 := by omega
        have dSD : ¬ w2.heap.size + 1 = w2.heap.size := by omega
        go_wp2_with fail
        go_region_held3 (fun w' => w'.cell? ⟨w1.heap.size, 0, none⟩ = some (.int .i64 a) ∧ w'.cell? ⟨w1.heap.size, 1, none⟩ = some (.int .i64 b) ∧ w'.cell? ⟨w1.heap.size, 2, none⟩ = some (.int .i64 k) ∧ w'.cell? ⟨w1.heap.size, 3, none⟩ = some (.int .i64 l) ∧ w'.cell? ⟨w1.heap.size + 1, 0, none⟩ = some (.int .i64 r) ∧ w'.cell? ⟨w1.heap.size + 1, 1, none⟩ = some (.int .i64 t) ∧ w'.cell? ⟨w1.heap.size + 1, 2, none⟩ = some (.int .i64 m) ∧ w'.cell? ⟨w1.heap.size + 1, 3, none⟩ = some (.int .i64 x) ∧ w'.cell? ⟨w1.heap.size + 1, 4, none⟩ = some (.int .i64 y) ∧ w'.cell? ⟨w2.heap.size + 1, 0, none⟩ = some (.int .i64 2) ∧ w'.cell? ⟨w2.heap.size + 1, 1, none⟩ = some (.int .i64 0) ∧ w'.cell? ⟨w2.heap.size + 1, 2, none⟩ = some (.int .i64 0) ∧ w'.cell? ⟨w2.heap.size + 1, 3, none⟩ = some (.int .i64 z)) (first | exact ⟨cA0, cA1, cA2, cA3, cG0, cG1, cG2, cG3, cG4, cS0, cS1, cS2, cS3⟩ | exact ⟨cell_of (cells_of_below b4 (drewBlk HA.out)) 0, cell_of (cells_of_below b4 (drewBlk HA.out)) 1, cell_of (cells_of_below b4 (drewBlk HA.out)) 2, cell_of (cells_of_below b4 (drewBlk HA.out)) 3, cell_of (cells_of_below b4 (drewBlk HG.out)) 0, cell_of (cells_of_below b4 (drewBlk HG.out)) 1, cell_of (cells_of_below b4 (drewBlk HG.out)) 2, cell_of (cells_of_below b4 (drewBlk HG.out)) 3, cell_of (cells_of_below b4 (drewBlk HG.out)) 4, cell_of (cells_of_below b4 (drewBlk HS.out)) 0, cell_of (cells_of_below b4 (drewBlk HS.out)) 1, cell_of (cells_of_below b4 (drewBlk HS.out)) 2, cell_of (cells_of_below b4 (drewBlk HS.out)) 3⟩) (first
                  | (go_at_call 33; (with_reducible refine (spec_VerifyVector k l r t m x y _ hk hl hr ht).mono ?_); rw [hv]; rintro e w4 ⟨rfl, b4⟩))
        have NA : Hid (w4.heap[w1.heap.size]? = some (.cells #[.int .i64 a, .int .i64 b, .int .i64 k, .int .i64 l] 30 (0, 0))) := Lib.hid (cells_of_below b4 (by (repeat (first | (with_reducible exact HA.out) | (with_reducible exact HG.out) | (with_reducible exact HD.out) | (with_reducible exact HS.out) | ((with_reducible refine newBlk _ _ _ _ ?_); (first | rfl | (simp; done))) | ((with_reducible refine bxSetNe ?_ _ _ ?_); (rotate_left); (first | omega | (simp; omega))) | (with_reducible refine drewBlk ?_) | (with_reducible refine oldBlk _ ?_)))))
        have NG : Hid (w4.heap[w1.heap.size + 1]? = some (.cells #[.int .i64 r, .int .i64 t, .int .i64 m, .int .i64 x, .int .i64 y] 45 (0, 0))) := Lib.hid (cells_of_below b4 (by (repeat (first | (with_reducible exact HA.out) | (with_reducible exact HG.out) | (with_reducible exact HD.out) | (with_reducible exact HS.out) | ((with_reducible refine newBlk _ _ _ _ ?_); (first | rfl | (simp; done))) | ((with_reducible refine bxSetNe ?_ _ _ ?_); (rotate_left); (first | omega | (simp; omega))) | (with_reducible refine drewBlk ?_) | (with_reducible refine oldBlk _ ?_)))))
        have ND : Hid (w4.heap[w2.heap.size]? = some (.cells #[.int .i64 a, .int .i64 b, .int .i64 k, .int .i64 l] 30 (0, 0))) := Lib.hid (cells_of_below b4 (by (repeat (first | (with_reducible exact HA.out) | (with_reducible exact HG.out) | (with_reducible exact HD.out) | (with_reducible exact HS.out) | ((with_reducible refine newBlk _ _ _ _ ?_); (first | rfl | (simp; done))) | ((with_reducible refine bxSetNe ?_ _ _ ?_); (rotate_left); (first | omega | (simp; omega))) | (with_reducible refine drewBlk ?_) | (with_reducible refine oldBlk _ ?_)))))
        have NS : Hid (w4.heap[w2.heap.size + 1]? = some (.cells #[.int .i64 2, .int .i64 0, .int .i64 0, .int .i64 z] 48 (0, 0))) := Lib.hid (cells_of_below b4 (by (repeat (first | (with_reducible exact HA.out) | (with_reducible exact HG.out) | (with_reducible exact HD.out) | (with_reducible exact HS.out) | ((with_reducible refine newBlk _ _ _ _ ?_); (first | rfl | (simp; done))) | ((with_reducible refine bxSetNe ?_ _ _ ?_); (rotate_left); (first | omega | (simp; omega))) | (with_reducible refine drewBlk ?_) | (with_reducible refine oldBlk _ ?_)))))
        have NO : Below w.heap.size w w4 := Below.next (by (repeat (first | (with_reducible exact B0) | ((with_reducible refine Below.st ?_ _ _ _ ?_); (rotate_left); (first | omega | (simp; omega))) | (with_reducible refine Below.al ?_ _) | (with_reducible refine Below.drew ?_)))) b4
        clear cA0 cA1 cA2 cA3 cG0 cG1 cG2 cG3 cG4 cS0 cS1 cS2 cS3 fA fG fS sne dAG dAD dAS dGA dGD dGS dDA dDG dDS dSA dSG dSD HA HG HD HS B0
        have HA := NA
        have HG := NG
        have HD := ND
        have HS := NS
        have B0 := NO
        clear NA NG ND NS NO
        have lA_4 : w1.heap.size < w4.heap.size := (Array.getElem?_eq_some_iff.1 HA.out).1
        have lG_4 : w1.heap.size + 1 < w4.heap.size := (Array.getElem?_eq_some_iff.1 HG.out).1
        have lD_4 : w2.heap.size < w4.heap.size := (Array.getElem?_eq_some_iff.1 HD.out).1
        have lS_4 : w2.heap.size + 1 < w4.heap.size := (Array.getElem?_eq_some_iff.1 HS.out).1
        have zz4 := B0.size
        clear b4
        have cA0 := cell_of HA.out 0
        have cA1 := cell_of HA.out 1
        have cA2 := cell_of HA.out 2
        have cA3 := cell_of HA.out 3
        have cG0 := cell_of HG.out 0
        have cG1 := cell_of HG.out 1
        have cG2 := cell_of HG.out 2
        have cG3 := cell_of HG.out 3
        have cG4 := cell_of HG.out 4
        have cD0 := cell_of HD.out 0
        have cD1 := cell_of HD.out 1
        have cD2 := cell_of HD.out 2
        have cD3 := cell_of HD.out 3
        have cS0 := cell_of HS.out 0
        have cS1 := cell_of HS.out 1
        have cS2 := cell_of HS.out 2
        have cS3 := cell_of HS.out 3
        simp only [List.getElem?_toArray, List.getElem?_cons_zero, List.getElem?_cons_succ] at cA0 cA1 cA2 cA3 cG0 cG1 cG2 cG3 cG4 cD0 cD1 cD2 cD3 cS0 cS1 cS2 cS3
        have fA := free_of HA.out
        have fG := free_of HG.out
        have fD := free_of HD.out
        have fS := free_of HS.out
        have sne := bxNe
        have dAG : ¬ w1.heap.size = w1.heap.size + 1 := by omega
        have dAD : ¬ w1.heap.size = w2.heap.size := by omega
        have dAS : ¬ w1.heap.size = w2.heap.size + 1 := by omega
        have dGA : ¬ w1.heap.size + 1 = w1.heap.size := by omega
        have dGD : ¬ w1.heap.size + 1 = w2.heap.size := by omega
        have dGS : ¬ w1.heap.size + 1 = w2.heap.size + 1 := by omega
        have dDA : ¬ w2.heap.size = w1.heap.size := by omega
        have dDG : ¬ w2.heap.size = w1.heap.size + 1 := by omega
        have dDS : ¬ w2.heap.size = w2.heap.size + 1 := by omega
        have dSA : ¬ w2.heap.size + 1 = w1.heap.size := by omega
        have dSG : ¬ w2.heap.size + 1 = w1.heap.size + 1 := by omega
        have dSD : ¬ w2.heap.size + 1 = w2.heap.size := by omega
        go_wp2_with fail
        go_region_held3 (fun w' => w'.cell? ⟨w1.heap.size, 0, none⟩ = some (.int .i64 a) ∧ w'.cell? ⟨w1.heap.size, 1, none⟩ = some (.int .i64 b) ∧ w'.cell? ⟨w1.heap.size, 2, none⟩ = some (.int .i64 k) ∧ w'.cell? ⟨w1.heap.size, 3, none⟩ = some (.int .i64 l) ∧ w'.cell? ⟨w1.heap.size + 1, 0, none⟩ = some (.int .i64 r) ∧ w'.cell? ⟨w1.heap.size + 1, 1, none⟩ = some (.int .i64 t) ∧ w'.cell? ⟨w1.heap.size + 1, 2, none⟩ = some (.int .i64 m) ∧ w'.cell? ⟨w1.heap.size + 1, 3, none⟩ = some (.int .i64 x) ∧ w'.cell? ⟨w1.heap.size + 1, 4, none⟩ = some (.int .i64 y) ∧ w'.cell? ⟨w2.heap.size, 0, none⟩ = some (.int .i64 a) ∧ w'.cell? ⟨w2.heap.size, 1, none⟩ = some (.int .i64 b) ∧ w'.cell? ⟨w2.heap.size, 2, none⟩ = some (.int .i64 k) ∧ w'.cell? ⟨w2.heap.size, 3, none⟩ = some (.int .i64 l) ∧ w'.cell? ⟨w2.heap.size + 1, 0, none⟩ = some (.int .i64 2) ∧ w'.cell? ⟨w2.heap.size + 1, 1, none⟩ = some (.int .i64 0) ∧ w'.cell? ⟨w2.heap.size + 1, 2, none⟩ = some (.int .i64 0) ∧ w'.cell? ⟨w2.heap.size + 1, 3, none⟩ = some (.int .i64 z)) (first | exact ⟨cA0, cA1, cA2, cA3, cG0, cG1, cG2, cG3, cG4, cD0, cD1, cD2, cD3, cS0, cS1, cS2, cS3⟩ | exact ⟨cell_of (cells_of_below b5 (drewBlk HA.out)) 0, cell_of (cells_of_below b5 (drewBlk HA.out)) 1, cell_of (cells_of_below b5 (drewBlk HA.out)) 2, cell_of (cells_of_below b5 (drewBlk HA.out)) 3, cell_of (cells_of_below b5 (drewBlk HG.out)) 0, cell_of (cells_of_below b5 (drewBlk HG.out)) 1, cell_of (cells_of_below b5 (drewBlk HG.out)) 2, cell_of (cells_of_below b5 (drewBlk HG.out)) 3, cell_of (cells_of_below b5 (drewBlk HG.out)) 4, cell_of (cells_of_below b5 (drewBlk HD.out)) 0, cell_of (cells_of_below b5 (drewBlk HD.out)) 1, cell_of (cells_of_below b5 (drewBlk HD.out)) 2, cell_of (cells_of_below b5 (drewBlk HD.out)) 3, cell_of (cells_of_below b5 (drewBlk HS.out)) 0, cell_of (cells_of_below b5 (drewBlk HS.out)) 1, cell_of (cells_of_below b5 (drewBlk HS.out)) 2, cell_of (cells_of_below b5 (drewBlk HS.out)) 3⟩) (first
                  | (go_at_call 34; (with_reducible refine (spec_ResyncToken k r l _ hk hr hl).mono ?_); rw [← HZ.out]; rintro e w5 ⟨rfl, b5⟩))
        have NA : Hid (w5.heap[w1.heap.size]? = some (.cells #[.int .i64 a, .int .i64 b, .int .i64 k, .int .i64 l] 30 (0, 0))) := Lib.hid (cells_of_below b5 (by (repeat (first | (with_reducible exact HA.out) | (with_reducible exact HG.out) | (with_reducible exact HD.out) | (with_reducible exact HS.out) | ((with_reducible refine newBlk _ _ _ _ ?_); (first | rfl | (simp; done))) | ((with_reducible refine bxSetNe ?_ _ _ ?_); (rotate_left); (first | omega | (simp; omega))) | (with_reducible refine drewBlk ?_) | (with_reducible refine oldBlk _ ?_)))))
        have NG : Hid (w5.heap[w1.heap.size + 1]? = some (.cells #[.int .i64 r, .int .i64 t, .int .i64 m, .int .i64 x, .int .i64 y] 45 (0, 0))) := Lib.hid (cells_of_below b5 (by (repeat (first | (with_reducible exact HA.out) | (with_reducible exact HG.out) | (with_reducible exact HD.out) | (with_reducible exact HS.out) | ((with_reducible refine newBlk _ _ _ _ ?_); (first | rfl | (simp; done))) | ((with_reducible refine bxSetNe ?_ _ _ ?_); (rotate_left); (first | omega | (simp; omega))) | (with_reducible refine drewBlk ?_) | (with_reducible refine oldBlk _ ?_)))))
        have ND : Hid (w5.heap[w2.heap.size]? = some (.cells #[.int .i64 a, .int .i64 b, .int .i64 k, .int .i64 l] 30 (0, 0))) := Lib.hid (cells_of_below b5 (by (repeat (first | (with_reducible exact HA.out) | (with_reducible exact HG.out) | (with_reducible exact HD.out) | (with_reducible exact HS.out) | ((with_reducible refine newBlk _ _ _ _ ?_); (first | rfl | (simp; done))) | ((with_reducible refine bxSetNe ?_ _ _ ?_); (rotate_left); (first | omega | (simp; omega))) | (with_reducible refine drewBlk ?_) | (with_reducible refine oldBlk _ ?_)))))
        have NS : Hid (w5.heap[w2.heap.size + 1]? = some (.cells #[.int .i64 2, .int .i64 0, .int .i64 0, .int .i64 z] 48 (0, 0))) := Lib.hid (cells_of_below b5 (by (repeat (first | (with_reducible exact HA.out) | (with_reducible exact HG.out) | (with_reducible exact HD.out) | (with_reducible exact HS.out) | ((with_reducible refine newBlk _ _ _ _ ?_); (first | rfl | (simp; done))) | ((with_reducible refine bxSetNe ?_ _ _ ?_); (rotate_left); (first | omega | (simp; omega))) | (with_reducible refine drewBlk ?_) | (with_reducible refine oldBlk _ ?_)))))
        have NO : Below w.heap.size w w5 := Below.next (by (repeat (first | (with_reducible exact B0) | ((with_reducible refine Below.st ?_ _ _ _ ?_); (rotate_left); (first | omega | (simp; omega))) | (with_reducible refine Below.al ?_ _) | (with_reducible refine Below.drew ?_)))) b5
        clear cA0 cA1 cA2 cA3 cG0 cG1 cG2 cG3 cG4 cD0 cD1 cD2 cD3 cS0 cS1 cS2 cS3 fA fG fD fS sne dAG dAD dAS dGA dGD dGS dDA dDG dDS dSA dSG dSD HA HG HD HS B0
        have HA := NA
        have HG := NG
        have HD := ND
        have HS := NS
        have B0 := NO
        clear NA NG ND NS NO
        have lA_5 : w1.heap.size < w5.heap.size := (Array.getElem?_eq_some_iff.1 HA.out).1
        have lG_5 : w1.heap.size + 1 < w5.heap.size := (Array.getElem?_eq_some_iff.1 HG.out).1
        have lD_5 : w2.heap.size < w5.heap.size := (Array.getElem?_eq_some_iff.1 HD.out).1
        have lS_5 : w2.heap.size + 1 < w5.heap.size := (Array.getElem?_eq_some_iff.1 HS.out).1
        have zz5 := B0.size
        clear b5
        go_wp2_with fail
        go_ret
        exact ⟨by first | rfl | (simp; done), by repeat (first | (with_reducible exact B0) | (with_reducible refine Below.al ?_ _) | (with_reducible refine Below.drew ?_))⟩
      · obtain ⟨z, hz⟩ : ∃ z, z = M.token k r l := ⟨_, rfl⟩
        have RC := Lib.hid ((rc_val (r := r) (t := t) (m := m) hV).trans hv)
        have RL := Lib.hid (rc_tok3 k l r t).1
        have RR := Lib.hid (rc_tok3 k l r t).2.1
        have RK := Lib.hid (rc_tok3 k l r t).2.2.1
        have RT := Lib.hid ((rc_tok3 k l r t).2.2.2.trans hz.symm)
        have HZ := Lib.hid hz
        clear hz
        go_wp2_with fail
        refine (impl_RespondToChallenge a b k l r t m x y _ hr ht).mono ?_
        rw [RC.out, RL.out, RR.out, RK.out, RT.out]
        rintro e w2 ⟨rfl, b2⟩
        have NA : Hid (w2.heap[w1.heap.size]? = some (.cells #[.int .i64 a, .int .i64 b, .int .i64 k, .int .i64 l] 30 (0, 0))) := Lib.hid (cells_of_below b2 (by (repeat (first | ((with_reducible refine newBlk _ _ _ _ ?_); (first | rfl | (simp; done))) | ((with_reducible refine bxSetNe ?_ _ _ ?_); (rotate_left); (first | omega | (simp; omega))) | (with_reducible refine drewBlk ?_) | (with_reducible refine oldBlk _ ?_)))))
        have NG : Hid (w2.heap[w1.heap.size + 1]? = some (.cells #[.int .i64 r, .int .i64 t, .int .i64 m, .int .i64 x, .int .i64 y] 45 (0, 0))) := Lib.hid (cells_of_below b2 (by (repeat (first | ((with_reducible refine newBlk _ _ _ _ ?_); (first | rfl | (simp; done))) | ((with_reducible refine bxSetNe ?_ _ _ ?_); (rotate_left); (first | omega | (simp; omega))) | (with_reducible refine drewBlk ?_) | (with_reducible refine oldBlk _ ?_)))))
        have NO : Below w.heap.size w w2 := Below.next (by (repeat (first | (with_reducible exact B0) | ((with_reducible refine Below.st ?_ _ _ _ ?_); (rotate_left); (first | omega | (simp; omega))) | (with_reducible refine Below.al ?_ _) | (with_reducible refine Below.drew ?_)))) b2
        clear B0
        have HA := NA
        have HG := NG
        have B0 := NO
        clear NA NG NO
        have lA_2 : w1.heap.size < w2.heap.size := (Array.getElem?_eq_some_iff.1 HA.out).1
        have lG_2 : w1.heap.size + 1 < w2.heap.size := (Array.getElem?_eq_some_iff.1 HG.out).1
        have zz2 := B0.size
        clear b2
        have cA0 := cell_of HA.out 0
        have cA1 := cell_of HA.out 1
        have cA2 := cell_of HA.out 2
        have cA3 := cell_of HA.out 3
        have cG0 := cell_of HG.out 0
        have cG1 := cell_of HG.out 1
        have cG2 := cell_of HG.out 2
        have cG3 := cell_of HG.out 3
        have cG4 := cell_of HG.out 4
        simp only [List.getElem?_toArray, List.getElem?_cons_zero, List.getElem?_cons_succ] at cA0 cA1 cA2 cA3 cG0 cG1 cG2 cG3 cG4
        have fA := free_of HA.out
        have fG := free_of HG.out
        have sne := bxNe
        have dAG : ¬ w1.heap.size = w1.heap.size + 1 := by omega
        have dGA : ¬ w1.heap.size + 1 = w1.heap.size := by omega
        go_wp2_with fail
        refine (spec_IsValidUSIM a b k l _).mono ?_
        rw [hV]
        rintro e w3 ⟨rfl, ha3⟩
        have b3 := below_of_alloc2 ha3
        clear ha3
        have NA : Hid (w3.heap[w1.heap.size]? = some (.cells #[.int .i64 a, .int .i64 b, .int .i64 k, .int .i64 l] 30 (0, 0))) := Lib.hid (cells_of_below b3 (by (repeat (first | (with_reducible exact HA.out) | (with_reducible exact HG.out) | ((with_reducible refine newBlk _ _ _ _ ?_); (first | rfl | (simp; done))) | ((with_reducible refine bxSetNe ?_ _ _ ?_); (rotate_left); (first | omega | (simp; omega))) | (with_reducible refine drewBlk ?_) | (with_reducible refine oldBlk _ ?_)))))
        have NG : Hid (w3.heap[w1.heap.size + 1]? = some (.cells #[.int .i64 r, .int .i64 t, .int .i64 m, .int .i64 x, .int .i64 y] 45 (0, 0))) := Lib.hid (cells_of_below b3 (by (repeat (first | (with_reducible exact HA.out) | (with_reducible exact HG.out) | ((with_reducible refine newBlk _ _ _ _ ?_); (first | rfl | (simp; done))) | ((with_reducible refine bxSetNe ?_ _ _ ?_); (rotate_left); (first | omega | (simp; omega))) | (with_reducible refine drewBlk ?_) | (with_reducible refine oldBlk _ ?_)))))
        have ND : Hid (w3.heap[w2.heap.size]? = some (.cells #[.int .i64 a, .int .i64 b, .int .i64 k, .int .i64 l] 30 (0, 0))) := Lib.hid (cells_of_below b3 (by (repeat (first | (with_reducible exact HA.out) | (with_reducible exact HG.out) | ((with_reducible refine newBlk _ _ _ _ ?_); (first | rfl | (simp; done))) | ((with_reducible refine bxSetNe ?_ _ _ ?_); (rotate_left); (first | omega | (simp; omega))) | (with_reducible refine drewBlk ?_) | (with_reducible refine oldBlk _ ?_)))))
        have NS : Hid (w3.heap[w2.heap.size + 1]? = some (.cells #[.int .i64 3, .int .i64 0, .int .i64 0, .int .i64 z] 48 (0, 0))) := Lib.hid (cells_of_below b3 (by (repeat (first | (with_reducible exact HA.out) | (with_reducible exact HG.out) | ((with_reducible refine newBlk _ _ _ _ ?_); (first | rfl | (simp; done))) | ((with_reducible refine bxSetNe ?_ _ _ ?_); (rotate_left); (first | omega | (simp; omega))) | (with_reducible refine drewBlk ?_) | (with_reducible refine oldBlk _ ?_)))))
        have NO : Below w.heap.size w w3 := Below.next (by (repeat (first | (with_reducible exact B0) | ((with_reducible refine Below.st ?_ _ _ _ ?_); (rotate_left); (first | omega | (simp; omega))) | (with_reducible refine Below.al ?_ _) | (with_reducible refine Below.drew ?_)))) b3
        clear cA0 cA1 cA2 cA3 cG0 cG1 cG2 cG3 cG4 fA fG sne dAG dGA HA HG B0
        have HA := NA
        have HG := NG
        have HD := ND
        have HS := NS
        have B0 := NO
        clear NA NG ND NS NO
        have lA_3 : w1.heap.size < w3.heap.size := (Array.getElem?_eq_some_iff.1 HA.out).1
        have lG_3 : w1.heap.size + 1 < w3.heap.size := (Array.getElem?_eq_some_iff.1 HG.out).1
        have lD_3 : w2.heap.size < w3.heap.size := (Array.getElem?_eq_some_iff.1 HD.out).1
        have lS_3 : w2.heap.size + 1 < w3.heap.size := (Array.getElem?_eq_some_iff.1 HS.out).1
        have zz3 := B0.size
        clear b3
        have cA0 := cell_of HA.out 0
        have cA1 := cell_of HA.out 1
        have cA2 := cell_of HA.out 2
        have cA3 := cell_of HA.out 3
        have cG0 := cell_of HG.out 0
        have cG1 := cell_of HG.out 1
        have cG2 := cell_of HG.out 2
        have cG3 := cell_of HG.out 3
        have cG4 := cell_of HG.out 4
        have cS0 := cell_of HS.out 0
        have cS1 := cell_of HS.out 1
        have cS2 := cell_of HS.out 2
        have cS3 := cell_of HS.out 3
        simp only [List.getElem?_toArray, List.getElem?_cons_zero, List.getElem?_cons_succ] at cA0 cA1 cA2 cA3 cG0 cG1 cG2 cG3 cG4 cS0 cS1 cS2 cS3
        have fA := free_of HA.out
        have fG := free_of HG.out
        have fS := free_of HS.out
        have sne := bxNe
        have dAG : ¬ w1.heap.size = w1.heap.size + 1 := by omega
        have dAD : ¬ w1.heap.size = w2.heap.size := by omega
        have dAS : ¬ w1.heap.size = w2.heap.size + 1 := by omega
        have dGA : ¬ w1.heap.size + 1 = w1.heap.size := by omega
        have dGD : ¬ w1.heap.size + 1 = w2.heap.size := by omega
        have dGS : ¬ w1.heap.size + 1 = w2.heap.size + 1 := by omega
        have dDA : ¬ w2.heap.size = w1.heap.size := by omega
        have dDG : ¬ w2.heap.size = w1.heap.size + 1 := by omega
        have dDS : ¬ w2.heap.size = w2.heap.size + 1 := by omega
        have dSA : ¬ w2.heap.size + 1 = w1.heap.size := by omega
        have dSG : ¬ w2.heap.size + 1 = w1.heap.size + 1 := by omega
        have dSD : ¬ w2.heap.size + 1 = w2.heap.size := by omega
        go_wp2_with fail
        go_region_held3 (fun w' => w'.cell? ⟨w1.heap.size, 0, none⟩ = some (.int .i64 a) ∧ w'.cell? ⟨w1.heap.size, 1, none⟩ = some (.int .i64 b) ∧ w'.cell? ⟨w1.heap.size, 2, none⟩ = some (.int .i64 k) ∧ w'.cell? ⟨w1.heap.size, 3, none⟩ = some (.int .i64 l) ∧ w'.cell? ⟨w1.heap.size + 1, 0, none⟩ = some (.int .i64 r) ∧ w'.cell? ⟨w1.heap.size + 1, 1, none⟩ = some (.int .i64 t) ∧ w'.cell? ⟨w1.heap.size + 1, 2, none⟩ = some (.int .i64 m) ∧ w'.cell? ⟨w1.heap.size + 1, 3, none⟩ = some (.int .i64 x) ∧ w'.cell? ⟨w1.heap.size + 1, 4, none⟩ = some (.int .i64 y) ∧ w'.cell? ⟨w2.heap.size + 1, 0, none⟩ = some (.int .i64 3) ∧ w'.cell? ⟨w2.heap.size + 1, 1, none⟩ = some (.int .i64 0) ∧ w'.cell? ⟨w2.heap.size + 1, 2, none⟩ = some (.int .i64 0) ∧ w'.cell? ⟨w2.heap.size + 1, 3, none⟩ = some (.int .i64 z)) (first | exact ⟨cA0, cA1, cA2, cA3, cG0, cG1, cG2, cG3, cG4, cS0, cS1, cS2, cS3⟩ | exact ⟨cell_of (cells_of_below b4 (drewBlk HA.out)) 0, cell_of (cells_of_below b4 (drewBlk HA.out)) 1, cell_of (cells_of_below b4 (drewBlk HA.out)) 2, cell_of (cells_of_below b4 (drewBlk HA.out)) 3, cell_of (cells_of_below b4 (drewBlk HG.out)) 0, cell_of (cells_of_below b4 (drewBlk HG.out)) 1, cell_of (cells_of_below b4 (drewBlk HG.out)) 2, cell_of (cells_of_below b4 (drewBlk HG.out)) 3, cell_of (cells_of_below b4 (drewBlk HG.out)) 4, cell_of (cells_of_below b4 (drewBlk HS.out)) 0, cell_of (cells_of_below b4 (drewBlk HS.out)) 1, cell_of (cells_of_below b4 (drewBlk HS.out)) 2, cell_of (cells_of_below b4 (drewBlk HS.out)) 3⟩) (first
                  | (go_at_call 33; (with_reducible refine (spec_VerifyVector k l r t m x y _ hk hl hr ht).mono ?_); rw [hv]; rintro e w4 ⟨rfl, b4⟩))
        have NA : Hid (w4.heap[w1.heap.size]? = some (.cells #[.int .i64 a, .int .i64 b, .int .i64 k, .int .i64 l] 30 (0, 0))) := Lib.hid (cells_of_below b4 (by (repeat (first | (with_reducible exact HA.out) | (with_reducible exact HG.out) | (with_reducible exact HD.out) | (with_reducible exact HS.out) | ((with_reducible refine newBlk _ _ _ _ ?_); (first | rfl | (simp; done))) | ((with_reducible refine bxSetNe ?_ _ _ ?_); (rotate_left); (first | omega | (simp; omega))) | (with_reducible refine drewBlk ?_) | (with_reducible refine oldBlk _ ?_)))))
        have NG : Hid (w4.heap[w1.heap.size + 1]? = some (.cells #[.int .i64 r, .int .i64 t, .int .i64 m, .int .i64 x, .int .i64 y] 45 (0, 0))) := Lib.hid (cells_of_below b4 (by (repeat (first | (with_reducible exact HA.out) | (with_reducible exact HG.out) | (with_reducible exact HD.out) | (with_reducible exact HS.out) | ((with_reducible refine newBlk _ _ _ _ ?_); (first | rfl | (simp; done))) | ((with_reducible refine bxSetNe ?_ _ _ ?_); (rotate_left); (first | omega | (simp; omega))) | (with_reducible refine drewBlk ?_) | (with_reducible refine oldBlk _ ?_)))))
        have ND : Hid (w4.heap[w2.heap.size]? = some (.cells #[.int .i64 a, .int .i64 b, .int .i64 k, .int .i64 l] 30 (0, 0))) := Lib.hid (cells_of_below b4 (by (repeat (first | (with_reducible exact HA.out) | (with_reducible exact HG.out) | (with_reducible exact HD.out) | (with_reducible exact HS.out) | ((with_reducible refine newBlk _ _ _ _ ?_); (first | rfl | (simp; done))) | ((with_reducible refine bxSetNe ?_ _ _ ?_); (rotate_left); (first | omega | (simp; omega))) | (with_reducible refine drewBlk ?_) | (with_reducible refine oldBlk _ ?_)))))
        have NS : Hid (w4.heap[w2.heap.size + 1]? = some (.cells #[.int .i64 3, .int .i64 0, .int .i64 0, .int .i64 z] 48 (0, 0))) := Lib.hid (cells_of_below b4 (by (repeat (first | (with_reducible exact HA.out) | (with_reducible exact HG.out) | (with_reducible exact HD.out) | (with_reducible exact HS.out) | ((with_reducible refine newBlk _ _ _ _ ?_); (first | rfl | (simp; done))) | ((with_reducible refine bxSetNe ?_ _ _ ?_); (rotate_left); (first | omega | (simp; omega))) | (with_reducible refine drewBlk ?_) | (with_reducible refine oldBlk _ ?_)))))
        have NO : Below w.heap.size w w4 := Below.next (by (repeat (first | (with_reducible exact B0) | ((with_reducible refine Below.st ?_ _ _ _ ?_); (rotate_left); (first | omega | (simp; omega))) | (with_reducible refine Below.al ?_ _) | (with_reducible refine Below.drew ?_)))) b4
        clear cA0 cA1 cA2 cA3 cG0 cG1 cG2 cG3 cG4 cS0 cS1 cS2 cS3 fA fG fS sne dAG dAD dAS dGA dGD dGS dDA dDG dDS dSA dSG dSD HA HG HD HS B0
        have HA := NA
        have HG := NG
        have HD := ND
        have HS := NS
        have B0 := NO
        clear NA NG ND NS NO
        have lA_4 : w1.heap.size < w4.heap.size := (Array.getElem?_eq_some_iff.1 HA.out).1
        have lG_4 : w1.heap.size + 1 < w4.heap.size := (Array.getElem?_eq_some_iff.1 HG.out).1
        have lD_4 : w2.heap.size < w4.heap.size := (Array.getElem?_eq_some_iff.1 HD.out).1
        have lS_4 : w2.heap.size + 1 < w4.heap.size := (Array.getElem?_eq_some_iff.1 HS.out).1
        have zz4 := B0.size
        clear b4
        have cA0 := cell_of HA.out 0
        have cA1 := cell_of HA.out 1
        have cA2 := cell_of HA.out 2
        have cA3 := cell_of HA.out 3
        have cG0 := cell_of HG.out 0
        have cG1 := cell_of HG.out 1
        have cG2 := cell_of HG.out 2
        have cG3 := cell_of HG.out 3
        have cG4 := cell_of HG.out 4
        have cD0 := cell_of HD.out 0
        have cD1 := cell_of HD.out 1
        have cD2 := cell_of HD.out 2
        have cD3 := cell_of HD.out 3
        have cS0 := cell_of HS.out 0
        have cS1 := cell_of HS.out 1
        have cS2 := cell_of HS.out 2
        have cS3 := cell_of HS.out 3
        simp only [List.getElem?_toArray, List.getElem?_cons_zero, List.getElem?_cons_succ] at cA0 cA1 cA2 cA3 cG0 cG1 cG2 cG3 cG4 cD0 cD1 cD2 cD3 cS0 cS1 cS2 cS3
        have fA := free_of HA.out
        have fG := free_of HG.out
        have fD := free_of HD.out
        have fS := free_of HS.out
        have sne := bxNe
        have dAG : ¬ w1.heap.size = w1.heap.size + 1 := by omega
        have dAD : ¬ w1.heap.size = w2.heap.size := by omega
        have dAS : ¬ w1.heap.size = w2.heap.size + 1 := by omega
        have dGA : ¬ w1.heap.size + 1 = w1.heap.size := by omega
        have dGD : ¬ w1.heap.size + 1 = w2.heap.size := by omega
        have dGS : ¬ w1.heap.size + 1 = w2.heap.size + 1 := by omega
        have dDA : ¬ w2.heap.size = w1.heap.size := by omega
        have dDG : ¬ w2.heap.size = w1.heap.size + 1 := by omega
        have dDS : ¬ w2.heap.size = w2.heap.size + 1 := by omega
        have dSA : ¬ w2.heap.size + 1 = w1.heap.size := by omega
        have dSG : ¬ w2.heap.size + 1 = w1.heap.size + 1 := by omega
        have dSD : ¬ w2.heap.size + 1 = w2.heap.size := by omega
        go_wp2_with fail
        go_region_held3 (fun w' => w'.cell? ⟨w1.heap.size, 0, none⟩ = some (.int .i64 a) ∧ w'.cell? ⟨w1.heap.size, 1, none⟩ = some (.int .i64 b) ∧ w'.cell? ⟨w1.heap.size, 2, none⟩ = some (.int .i64 k) ∧ w'.cell? ⟨w1.heap.size, 3, none⟩ = some (.int .i64 l) ∧ w'.cell? ⟨w1.heap.size + 1, 0, none⟩ = some (.int .i64 r) ∧ w'.cell? ⟨w1.heap.size + 1, 1, none⟩ = some (.int .i64 t) ∧ w'.cell? ⟨w1.heap.size + 1, 2, none⟩ = some (.int .i64 m) ∧ w'.cell? ⟨w1.heap.size + 1, 3, none⟩ = some (.int .i64 x) ∧ w'.cell? ⟨w1.heap.size + 1, 4, none⟩ = some (.int .i64 y) ∧ w'.cell? ⟨w2.heap.size, 0, none⟩ = some (.int .i64 a) ∧ w'.cell? ⟨w2.heap.size, 1, none⟩ = some (.int .i64 b) ∧ w'.cell? ⟨w2.heap.size, 2, none⟩ = some (.int .i64 k) ∧ w'.cell? ⟨w2.heap.size, 3, none⟩ = some (.int .i64 l) ∧ w'.cell? ⟨w2.heap.size + 1, 0, none⟩ = some (.int .i64 3) ∧ w'.cell? ⟨w2.heap.size + 1, 1, none⟩ = some (.int .i64 0) ∧ w'.cell? ⟨w2.heap.size + 1, 2, none⟩ = some (.int .i64 0) ∧ w'.cell? ⟨w2.heap.size + 1, 3, none⟩ = some (.int .i64 z)) (first | exact ⟨cA0, cA1, cA2, cA3, cG0, cG1, cG2, cG3, cG4, cD0, cD1, cD2, cD3, cS0, cS1, cS2, cS3⟩ | exact ⟨cell_of (cells_of_below b5 (drewBlk HA.out)) 0, cell_of (cells_of_below b5 (drewBlk HA.out)) 1, cell_of (cells_of_below b5 (drewBlk HA.out)) 2, cell_of (cells_of_below b5 (drewBlk HA.out)) 3, cell_of (cells_of_below b5 (drewBlk HG.out)) 0, cell_of (cells_of_below b5 (drewBlk HG.out)) 1, cell_of (cells_of_below b5 (drewBlk HG.out)) 2, cell_of (cells_of_below b5 (drewBlk HG.out)) 3, cell_of (cells_of_below b5 (drewBlk HG.out)) 4, cell_of (cells_of_below b5 (drewBlk HD.out)) 0, cell_of (cells_of_below b5 (drewBlk HD.out)) 1, cell_of (cells_of_below b5 (drewBlk HD.out)) 2, cell_of (cells_of_below b5 (drewBlk HD.out)) 3, cell_of (cells_of_below b5 (drewBlk HS.out)) 0, cell_of (cells_of_below b5 (drewBlk HS.out)) 1, cell_of (cells_of_below b5 (drewBlk HS.out)) 2, cell_of (cells_of_below b5 (drewBlk HS.out)) 3⟩) (first
                  | (go_at_call 34; (with_reducible refine (spec_ResyncToken k r l _ hk hr hl).mono ?_); rw [← HZ.out]; rintro e w5 ⟨rfl, b5⟩))
        have NA : Hid (w5.heap[w1.heap.size]? = some (.cells #[.int .i64 a, .int .i64 b, .int .i64 k, .int .i64 l] 30 (0, 0))) := Lib.hid (cells_of_below b5 (by (repeat (first | (with_reducible exact HA.out) | (with_reducible exact HG.out) | (with_reducible exact HD.out) | (with_reducible exact HS.out) | ((with_reducible refine newBlk _ _ _ _ ?_); (first | rfl | (simp; done))) | ((with_reducible refine bxSetNe ?_ _ _ ?_); (rotate_left); (first | omega | (simp; omega))) | (with_reducible refine drewBlk ?_) | (with_reducible refine oldBlk _ ?_)))))
        have NG : Hid (w5.heap[w1.heap.size + 1]? = some (.cells #[.int .i64 r, .int .i64 t, .int .i64 m, .int .i64 x, .int .i64 y] 45 (0, 0))) := Lib.hid (cells_of_below b5 (by (repeat (first | (with_reducible exact HA.out) | (with_reducible exact HG.out) | (with_reducible exact HD.out) | (with_reducible exact HS.out) | ((with_reducible refine newBlk _ _ _ _ ?_); (first | rfl | (simp; done))) | ((with_reducible refine bxSetNe ?_ _ _ ?_); (rotate_left); (first | omega | (simp; omega))) | (with_reducible refine drewBlk ?_) | (with_reducible refine oldBlk _ ?_)))))
        have ND : Hid (w5.heap[w2.heap.size]? = some (.cells #[.int .i64 a, .int .i64 b, .int .i64 k, .int .i64 l] 30 (0, 0))) := Lib.hid (cells_of_below b5 (by (repeat (first | (with_reducible exact HA.out) | (with_reducible exact HG.out) | (with_reducible exact HD.out) | (with_reducible exact HS.out) | ((with_reducible refine newBlk _ _ _ _ ?_); (first | rfl | (simp; done))) | ((with_reducible refine bxSetNe ?_ _ _ ?_); (rotate_left); (first | omega | (simp; omega))) | (with_reducible refine drewBlk ?_) | (with_reducible refine oldBlk _ ?_)))))
        have NS : Hid (w5.heap[w2.heap.size + 1]? = some (.cells #[.int .i64 3, .int .i64 0, .int .i64 0, .int .i64 z] 48 (0, 0))) := Lib.hid (cells_of_below b5 (by (repeat (first | (with_reducible exact HA.out) | (with_reducible exact HG.out) | (with_reducible exact HD.out) | (with_reducible exact HS.out) | ((with_reducible refine newBlk _ _ _ _ ?_); (first | rfl | (simp; done))) | ((with_reducible refine bxSetNe ?_ _ _ ?_); (rotate_left); (first | omega | (simp; omega))) | (with_reducible refine drewBlk ?_) | (with_reducible refine oldBlk _ ?_)))))
        have NO : Below w.heap.size w w5 := Below.next (by (repeat (first | (with_reducible exact B0) | ((with_reducible refine Below.st ?_ _ _ _ ?_); (rotate_left); (first | omega | (simp; omega))) | (with_reducible refine Below.al ?_ _) | (with_reducible refine Below.drew ?_)))) b5
        clear cA0 cA1 cA2 cA3 cG0 cG1 cG2 cG3 cG4 cD0 cD1 cD2 cD3 cS0 cS1 cS2 cS3 fA fG fD fS sne dAG dAD dAS dGA dGD dGS dDA dDG dDS dSA dSG dSD HA HG HD HS B0
        have HA := NA
        have HG := NG
        have HD := ND
        have HS := NS
        have B0 := NO
        clear NA NG ND NS NO
        have lA_5 : w1.heap.size < w5.heap.size := (Array.getElem?_eq_some_iff.1 HA.out).1
        have lG_5 : w1.heap.size + 1 < w5.heap.size := (Array.getElem?_eq_some_iff.1 HG.out).1
        have lD_5 : w2.heap.size < w5.heap.size := (Array.getElem?_eq_some_iff.1 HD.out).1
        have lS_5 : w2.heap.size + 1 < w5.heap.size := (Array.getElem?_eq_some_iff.1 HS.out).1
        have zz5 := B0.size
        clear b5
        go_wp2_with fail
        go_ret
        exact ⟨by first | rfl | (simp; done), by repeat (first | (with_reducible exact B0) | (with_reducible refine Below.al ?_ _) | (with_reducible refine Below.drew ?_))⟩
  · go_enter Try.func7, Try.ntmps7
    go_wp2_with fail
    refine (laws_big_yes _ _ _ _ (by omega)).mono ?_
    rintro e w' ⟨rfl, rfl⟩
    go_wp2_with fail
    go_ret
    exact ⟨rfl, Below.refl _ _⟩

/-! The row: the frame round the walk. -/
theorem own : ownKnob Try.prog.godebug = none := by kernel_rfl
theorem laidOut : laidOutB Try.prog = true := by kernel_rfl
set_option maxRecDepth 100000 in
theorem lifted (os : Os) (started : os.Started) (H : Type) (enc : TypeId × Value → H) :
    ReturnsInHanded {} Try.checked os 7 .any (Rows.fnCardResponsesSpec.pre6 enc Try.prog Try.f7 Rows.fnCardResponsesRow.domain false) (Rows.fnCardResponsesSpec.post enc Try.prog Try.f7 false true false false) := by
  refine returnsInHanded_of_change (C := Try.checked) own started (by kernel_rfl) Try.func7
    (ChangeSpec.witness6 (enc := enc) (C := Try.checked) false ⟨#[], #[.slice none 0 0], []⟩ 8 (by kernel_rfl) (by kernel_rfl) (by kernel_rfl) (by kernel_rfl)) ?_
  intro W base args ds gs before hval0 hW hcnd _
  have hval : ∀ (j : Nat) t v, Try.f7.params[j]? = some t → args[j]? = some v → Value.okWide Try.prog W .any base t v := hval0
  have hW' := hW
  obtain ⟨p, q, hA0, hV, rfl, hfz, hnd⟩ := hW
  have hA : DataW.TrodAll enc Try.prog W 0 (fun _ => true) true Try.f7.params.toList args.toList ds p := hA0
  rw [Try.params7] at hA hval
  obtain ⟨v0, vs0, d0, ds0, p0, q0, hargs, rfl, rfl, h0, rr0⟩ := trodAll_cons hA
  obtain ⟨rfl, rfl, rfl⟩ := trodAll_nil rr0
  obtain rfl : args = #[v0] := by cases args; simp_all
  obtain ⟨rfl, rfl⟩ := trodVars_none hV
  have k0 := h0
  have lt0 : ∀ x ∈ p0, x.block < W.heap.size := by obtain ⟨m, hm⟩ := k0; exact DataW.trod_lt m _ _ _ hm
  obtain ⟨a0, len0, cap0, rfl⟩ := okWide_slice Try.underlying40 (hval 0 40 v0 rfl rfl)
  obtain ⟨z0, _, r0, w0⟩ := rd_of_trod Try.underlying40 Try.underlying5 (by kernel_rfl) (fun _ => rfl) h0
  clear hA0 hval0
  refine (walk _ z0 W r0 w0).mono fun e W' ⟨he, bel⟩ => ?_
  subst he
  exact ⟨_, rfl, _, _, _, [], _, [], hW', trodAll_mk1 (shut_bool Try.underlying4 _), (trodAll_cons_mk (Below.trod laidOut (by kernel_rfl) (of_decide_eq_true (by kernel_rfl)) k0 bel lt0) trodAll_mk0), rfl, bel.frame _, fun h => by cases h⟩
theorem over : Rows.fnCardResponsesRow.holds Try.pinned (OpenSpec.ofChange Rows.fnCardResponsesSpec) :=
  OpenClaim.holds_of_wide 7 Try.f7 rfl rfl rfl rfl rfl rfl rfl ⟨rfl, rfl, rfl, rfl, rfl⟩ rfl rfl rfl rfl rfl (by kernel_rfl) Try.func7 (by kernel_rfl)
    (of_decide_eq_true (by kernel_rfl)) (by unfold Func.isWrapper; first | (rw [if_pos (by decide +kernel)]; kernel_rfl) | (rw [if_neg (by decide +kernel)]; exact ⟨rfl, rfl⟩))
    (fun os started H enc _ => lifted os started H enc)
/-- THE STATEMENT -/
theorem proved : Rows.FnCardResponsesSaid := over
#print axioms proved
end Go.Proofs.Ytfenmicakmjelaa.lawFnCardResponses
