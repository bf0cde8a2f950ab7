/-
  Contract: the reference's card answers a challenge.
-/
import Derived.Test.YtfenmicakmjelaaChal
namespace Go.Proofs.Ytfenmicakmjelaa
open Go.RowKit

set_option maxHeartbeats 8000000 in
theorem spec_RespondToChallenge (a b k l r t m x y : Int) (w : World) (hr : (Lit.int .i64 r).wf = true) (ht : (Lit.int .i64 t).wf = true) :
    Calls Try.prog 29 #[.agg #[.int .i64 a, .int .i64 b, .int .i64 k, .int .i64 l], .agg #[.int .i64 r, .int .i64 t, .int .i64 m, .int .i64 x, .int .i64 y]] w fun e w' => e = .returned (.tuple #[.agg #[.int .i64 a, .int .i64 b, .int .i64 k, .int .i64 (M.rcLast (M.rcCode a b k l r t m) k l r t)], .agg #[.int .i64 (M.rcCode a b k l r t m), .int .i64 (M.rcRes (M.rcCode a b k l r t m) k r), .int .i64 (M.rcKey (M.rcCode a b k l r t m) k r t), .int .i64 (M.rcTok (M.rcCode a b k l r t m) k l r)]]) ∧ Below w.heap.size w w' := by
  unfold M.rcCode
  cases hv : M.vCard a b k l
  · simp only [Bool.false_eq_true, if_false]
    have HP := Lib.hid (oldBlk (.cells #[.int .i64 0, .int .i64 0, .int .i64 0, .int .i64 0] 48) (oldBlk (.cells #[.int .i64 0, .int .i64 0, .int .i64 0, .int .i64 0] 30) (oldBlk (.cells #[.int .i64 r, .int .i64 t, .int .i64 m, .int .i64 x, .int .i64 y] 45) (newBlk w #[.int .i64 a, .int .i64 b, .int .i64 k, .int .i64 l] 30 w.heap.size rfl))))
    have HV := Lib.hid (oldBlk (.cells #[.int .i64 0, .int .i64 0, .int .i64 0, .int .i64 0] 48) (oldBlk (.cells #[.int .i64 0, .int .i64 0, .int .i64 0, .int .i64 0] 30) (newBlk (w.alloc (.cells #[.int .i64 a, .int .i64 b, .int .i64 k, .int .i64 l] 30)) #[.int .i64 r, .int .i64 t, .int .i64 m, .int .i64 x, .int .i64 y] 45 (w.heap.size + 1) (by simp))))
    have HA := Lib.hid (oldBlk (.cells #[.int .i64 0, .int .i64 0, .int .i64 0, .int .i64 0] 48) (newBlk ((w.alloc (.cells #[.int .i64 a, .int .i64 b, .int .i64 k, .int .i64 l] 30)).alloc (.cells #[.int .i64 r, .int .i64 t, .int .i64 m, .int .i64 x, .int .i64 y] 45)) #[.int .i64 0, .int .i64 0, .int .i64 0, .int .i64 0] 30 (w.heap.size + 1 + 1) (by simp)))
    have HR := Lib.hid (newBlk (((w.alloc (.cells #[.int .i64 a, .int .i64 b, .int .i64 k, .int .i64 l] 30)).alloc (.cells #[.int .i64 r, .int .i64 t, .int .i64 m, .int .i64 x, .int .i64 y] 45)).alloc (.cells #[.int .i64 0, .int .i64 0, .int .i64 0, .int .i64 0] 30)) #[.int .i64 0, .int .i64 0, .int .i64 0, .int .i64 0] 48 (w.heap.size + 1 + 1 + 1) (by simp))
    have B0 := Below.al (Below.al (Below.al (Below.al (Below.refl w.heap.size w) (.cells #[.int .i64 a, .int .i64 b, .int .i64 k, .int .i64 l] 30)) (.cells #[.int .i64 r, .int .i64 t, .int .i64 m, .int .i64 x, .int .i64 y] 45)) (.cells #[.int .i64 0, .int .i64 0, .int .i64 0, .int .i64 0] 30)) (.cells #[.int .i64 0, .int .i64 0, .int .i64 0, .int .i64 0] 48)
    go_enter Try.func29, Try.ntmps29
    go_wp2_with fail
    refine (spec_IsValidUSIM _ _ _ _ _).mono ?_
    rw [hv]
    rintro e u0 ⟨rfl, h0⟩
    have b0 := below_of_alloc2 h0
    clear h0
    replace HP := Lib.hid (cells_of_below b0 HP.out)
    replace HV := Lib.hid (cells_of_below b0 HV.out)
    replace HA := Lib.hid (cells_of_below b0 HA.out)
    replace HR := Lib.hid (cells_of_below b0 HR.out)
    replace B0 := Below.next B0 b0
    clear b0
    have cP0 := cell_of HP.out 0
    have cP1 := cell_of HP.out 1
    have cP2 := cell_of HP.out 2
    have cP3 := cell_of HP.out 3
    have cA0 := cell_of HA.out 0
    have cA1 := cell_of HA.out 1
    have cA2 := cell_of HA.out 2
    have cA3 := cell_of HA.out 3
    have cR0 := cell_of HR.out 0
    have cR1 := cell_of HR.out 1
    have cR2 := cell_of HR.out 2
    have cR3 := cell_of HR.out 3
    simp only [List.getElem?_toArray, List.getElem?_cons_zero, List.getElem?_cons_succ] at cP0 cP1 cP2 cP3 cA0 cA1 cA2 cA3 cR0 cR1 cR2 cR3
    have fA := free_of HA.out
    have fR := free_of HR.out
    go_wp2
    refine bodyPost_ret (v := .tuple #[.agg #[.int .i64 a, .int .i64 b, .int .i64 k, .int .i64 l], .agg #[.int .i64 1, .int .i64 0, .int .i64 0, .int .i64 0]]) (by simp [results, Try.results29, go_sem, *]) rfl ⟨rfl, ?_⟩
    exact (by repeat (first | (with_reducible exact B0) | (with_reducible refine Below.st ?_ _ _ _ (by omega)) | (with_reducible refine Below.al ?_ _) | (with_reducible refine Below.dn ?_ _) | (with_reducible refine Below.drew ?_)))
  · simp only [if_true]
    obtain ⟨⟨k0, k1⟩, l0, l1⟩ := M.vCard_bd hv
    have hkw : (Lit.int .i64 k).wf = true := WalkArith.wf_i64 (by omega)
    have hlw : (Lit.int .i64 l).wf = true := WalkArith.wf_i64 (by omega)
    rcases M.verify_of k l r t m with hc | hc | hc | hc
    · rw [hc]
      have hfd : ∀ (x0 x1 x2 x3 x4 : Int) (w : World), (Instr.field 45 (.agg #[.int .i64 x0, .int .i64 x1, .int .i64 x2, .int .i64 x3, .int .i64 x4]) 4).run Try.prog w = .ok (.int .i64 x4) w := fun _ _ _ _ _ _ => by kernel_rfl
      have HP := Lib.hid (oldBlk (.cells #[.int .i64 0, .int .i64 0, .int .i64 0, .int .i64 0] 48) (oldBlk (.cells #[.int .i64 0, .int .i64 0, .int .i64 0, .int .i64 0] 30) (oldBlk (.cells #[.int .i64 r, .int .i64 t, .int .i64 m, .int .i64 x, .int .i64 y] 45) (newBlk w #[.int .i64 a, .int .i64 b, .int .i64 k, .int .i64 l] 30 w.heap.size rfl))))
      have HV := Lib.hid (oldBlk (.cells #[.int .i64 0, .int .i64 0, .int .i64 0, .int .i64 0] 48) (oldBlk (.cells #[.int .i64 0, .int .i64 0, .int .i64 0, .int .i64 0] 30) (newBlk (w.alloc (.cells #[.int .i64 a, .int .i64 b, .int .i64 k, .int .i64 l] 30)) #[.int .i64 r, .int .i64 t, .int .i64 m, .int .i64 x, .int .i64 y] 45 (w.heap.size + 1) (by simp))))
      have HA := Lib.hid (oldBlk (.cells #[.int .i64 0, .int .i64 0, .int .i64 0, .int .i64 0] 48) (newBlk ((w.alloc (.cells #[.int .i64 a, .int .i64 b, .int .i64 k, .int .i64 l] 30)).alloc (.cells #[.int .i64 r, .int .i64 t, .int .i64 m, .int .i64 x, .int .i64 y] 45)) #[.int .i64 0, .int .i64 0, .int .i64 0, .int .i64 0] 30 (w.heap.size + 1 + 1) (by simp)))
      have HR := Lib.hid (newBlk (((w.alloc (.cells #[.int .i64 a, .int .i64 b, .int .i64 k, .int .i64 l] 30)).alloc (.cells #[.int .i64 r, .int .i64 t, .int .i64 m, .int .i64 x, .int .i64 y] 45)).alloc (.cells #[.int .i64 0, .int .i64 0, .int .i64 0, .int .i64 0] 30)) #[.int .i64 0, .int .i64 0, .int .i64 0, .int .i64 0] 48 (w.heap.size + 1 + 1 + 1) (by simp))
      have B0 := Below.al (Below.al (Below.al (Below.al (Below.refl w.heap.size w) (.cells #[.int .i64 a, .int .i64 b, .int .i64 k, .int .i64 l] 30)) (.cells #[.int .i64 r, .int .i64 t, .int .i64 m, .int .i64 x, .int .i64 y] 45)) (.cells #[.int .i64 0, .int .i64 0, .int .i64 0, .int .i64 0] 30)) (.cells #[.int .i64 0, .int .i64 0, .int .i64 0, .int .i64 0] 48)
      go_enter Try.func29, Try.ntmps29
      go_wp2_with fail
      refine (spec_IsValidUSIM _ _ _ _ _).mono ?_
      rw [hv]
      rintro e u0 ⟨rfl, h0⟩
      have b0 := below_of_alloc2 h0
      clear h0
      replace HP := Lib.hid (cells_of_below b0 HP.out)
      replace HV := Lib.hid (cells_of_below b0 HV.out)
      replace HA := Lib.hid (cells_of_below b0 HA.out)
      replace HR := Lib.hid (cells_of_below b0 HR.out)
      replace B0 := Below.next B0 b0
      clear b0
      have cP0 := cell_of HP.out 0
      have cP1 := cell_of HP.out 1
      have cP2 := cell_of HP.out 2
      have cP3 := cell_of HP.out 3
      have cV0 := cell_of HV.out 0
      have cV1 := cell_of HV.out 1
      have cV2 := cell_of HV.out 2
      have cV3 := cell_of HV.out 3
      have cV4 := cell_of HV.out 4
      simp only [List.getElem?_toArray, List.getElem?_cons_zero, List.getElem?_cons_succ] at cP0 cP1 cP2 cP3 cV0 cV1 cV2 cV3 cV4
      go_wp2_with fail
      refine (spec_VerifyVector _ _ _ _ _ _ _ _ hkw hlw hr ht).mono ?_
      rw [hc]
      rintro e u1 ⟨rfl, b1⟩
      clear cP0 cP1 cP2 cP3 cV0 cV1 cV2 cV3 cV4
      replace HP := Lib.hid (cells_of_below b1 HP.out)
      replace HV := Lib.hid (cells_of_below b1 HV.out)
      replace HA := Lib.hid (cells_of_below b1 HA.out)
      replace HR := Lib.hid (cells_of_below b1 HR.out)
      replace B0 := Below.next B0 b1
      clear b1
      have z7 : w.heap.size + 1 + 1 + 1 < u1.heap.size := (Array.getElem?_eq_some_iff.1 HR.out).1
      have dP0 := cell_of HP.out 0
      have dP1 := cell_of HP.out 1
      have dP2 := cell_of HP.out 2
      have dP3 := cell_of HP.out 3
      have dV0 := cell_of HV.out 0
      have dV1 := cell_of HV.out 1
      have dV2 := cell_of HV.out 2
      have dV3 := cell_of HV.out 3
      have dV4 := cell_of HV.out 4
      simp only [List.getElem?_toArray, List.getElem?_cons_zero, List.getElem?_cons_succ] at dP0 dP1 dP2 dP3 dV0 dV1 dV2 dV3 dV4
      obtain ⟨s0, s1⟩ := M.unmask_bd k r t
      have hsw : (Lit.int .i64 (M.unmask k r t)).wf = true := WalkArith.wf_i64 (by omega)
      have hw2 := Lib.hid (wf2 (a := 3) (by decide) hr)
      have hl2 : [3, r].length ≤ 1099511627776 := by simp
      go_wp2_with fail
      refine (spec_UnmaskSequence _ _ _ _ hkw hr ht).mono ?_
      rintro e u2 ⟨rfl, b2⟩
      clear dP0 dP1 dP2 dP3 dV0 dV1 dV2 dV3 dV4
      replace HP := Lib.hid (cells_of_below b2 HP.out)
      replace HV := Lib.hid (cells_of_below b2 HV.out)
      replace HA := Lib.hid (cells_of_below b2 HA.out)
      replace HR := Lib.hid (cells_of_below b2 HR.out)
      replace B0 := Below.next B0 b2
      clear b2
      have z8 : w.heap.size + 1 + 1 + 1 < u2.heap.size := (Array.getElem?_eq_some_iff.1 HR.out).1
      have gP0 := cell_of HP.out 0
      have gP1 := cell_of HP.out 1
      have gP2 := cell_of HP.out 2
      have gP3 := cell_of HP.out 3
      have gV0 := cell_of HV.out 0
      have gV1 := cell_of HV.out 1
      have gV2 := cell_of HV.out 2
      have gV3 := cell_of HV.out 3
      have gV4 := cell_of HV.out 4
      simp only [List.getElem?_toArray, List.getElem?_cons_zero, List.getElem?_cons_succ] at gP0 gP1 gP2 gP3 gV0 gV1 gV2 gV3 gV4
      go_wp2
      clear gP0 gP1 gP2 gP3 gV0 gV1 gV2 gV3 gV4
      replace HP := Lib.hid (oldBlk (.cells #[.int .i64 a, .int .i64 b, .int .i64 k, .int .i64 (M.unmask k r t)] 30) HP.out)
      replace HV := Lib.hid (oldBlk (.cells #[.int .i64 a, .int .i64 b, .int .i64 k, .int .i64 (M.unmask k r t)] 30) HV.out)
      replace HA := Lib.hid (oldBlk (.cells #[.int .i64 a, .int .i64 b, .int .i64 k, .int .i64 (M.unmask k r t)] 30) HA.out)
      replace HR := Lib.hid (oldBlk (.cells #[.int .i64 a, .int .i64 b, .int .i64 k, .int .i64 (M.unmask k r t)] 30) HR.out)
      have H8 := Lib.hid (newBlk u2 #[.int .i64 a, .int .i64 b, .int .i64 k, .int .i64 (M.unmask k r t)] 30 u2.heap.size rfl)
      replace B0 := Below.al B0 (.cells #[.int .i64 a, .int .i64 b, .int .i64 k, .int .i64 (M.unmask k r t)] 30)
      obtain ⟨W, hW⟩ : ∃ W, W = u2.alloc (.cells #[.int .i64 a, .int .i64 b, .int .i64 k, .int .i64 (M.unmask k r t)] 30) := ⟨_, rfl⟩
      rw [← hW] at HP HV HA HR H8 B0 ⊢
      clear hW
      have n80 := cell_of H8.out 0
      have n81 := cell_of H8.out 1
      have n82 := cell_of H8.out 2
      have n83 := cell_of H8.out 3
      have nP0 := cell_of HP.out 0
      have nP1 := cell_of HP.out 1
      have nP2 := cell_of HP.out 2
      have nP3 := cell_of HP.out 3
      have nV0 := cell_of HV.out 0
      have nV1 := cell_of HV.out 1
      have nV2 := cell_of HV.out 2
      have nV3 := cell_of HV.out 3
      have nV4 := cell_of HV.out 4
      have nA0 := cell_of HA.out 0
      have nA1 := cell_of HA.out 1
      have nA2 := cell_of HA.out 2
      have nA3 := cell_of HA.out 3
      have nR0 := cell_of HR.out 0
      have nR1 := cell_of HR.out 1
      have nR2 := cell_of HR.out 2
      have nR3 := cell_of HR.out 3
      simp only [List.getElem?_toArray, List.getElem?_cons_zero, List.getElem?_cons_succ] at n80 n81 n82 n83 nP0 nP1 nP2 nP3 nV0 nV1 nV2 nV3 nV4 nA0 nA1 nA2 nA3 nR0 nR1 nR2 nR3
      have fA := free_of HA.out
      have fR := free_of HR.out
      have lst : Hid (Rd .i64 (W.alloc (.cells #[.int .i64 3, .int .i64 r] 3)).drew (.slice (some ⟨W.heap.size, 0, none⟩) 2 2) [3, r]) := Lib.hid (Rd.lit 3 W [3, r] (by simp [maxLen]))
      go_region_held3 (fun w' => w'.cell? ⟨u2.heap.size, 0, none⟩ = some (.int .i64 a) ∧ w'.cell? ⟨u2.heap.size, 1, none⟩ = some (.int .i64 b) ∧ w'.cell? ⟨u2.heap.size, 2, none⟩ = some (.int .i64 k) ∧ w'.cell? ⟨u2.heap.size, 3, none⟩ = some (.int .i64 (M.unmask k r t)) ∧ w'.cell? ⟨w.heap.size, 2, none⟩ = some (.int .i64 k) ∧ w'.cell? ⟨w.heap.size + 1, 0, none⟩ = some (.int .i64 r)) (first | (refine ⟨?_, ?_, ?_, ?_, ?_, ?_⟩ <;> (first | (rw [set_far4 _ _ _ _ _ _ _ _ (by omega), set_far4 _ _ _ _ _ _ _ _ (by omega)]; assumption) | (rw [set_far4 _ _ _ _ _ _ _ _ (by omega)]; assumption))) | go_keep)
        (first
          | (go_at_call 56; (first | refine (spec_KeyedHash _ _ [3, r] _ hkw lst.out hw2.out hl2).mono ?_ | refine (spec_KeyedHash _ _ [3, r] _ hkw (lst.out.below bnv) hw2.out hl2).mono ?_); rintro e ukh ⟨rfl, bkh⟩; (first | replace H8 := Lib.hid (cells_of_below bkh H8.out) | replace H8 := Lib.hid (cells_of_below bkh (oldBlk _ H8.out))); (first | replace HP := Lib.hid (cells_of_below bkh HP.out) | replace HP := Lib.hid (cells_of_below bkh (oldBlk _ HP.out))); (first | replace HV := Lib.hid (cells_of_below bkh HV.out) | replace HV := Lib.hid (cells_of_below bkh (oldBlk _ HV.out))); (first | replace HA := Lib.hid (cells_of_below bkh HA.out) | replace HA := Lib.hid (cells_of_below bkh (oldBlk _ HA.out))); (first | replace HR := Lib.hid (cells_of_below bkh HR.out) | replace HR := Lib.hid (cells_of_below bkh (oldBlk _ HR.out))); (first | replace B0 := Below.next B0 bkh | replace B0 := Below.next (Below.drew B0) bkh | replace B0 := Below.next (Below.al B0 _) bkh | replace B0 := Below.next (Below.al (Below.drew B0) _) bkh); have p80 := cell_of H8.out 0; have p81 := cell_of H8.out 1; have p82 := cell_of H8.out 2; have p83 := cell_of H8.out 3; have pP0 := cell_of HP.out 0; have pP1 := cell_of HP.out 1; have pP2 := cell_of HP.out 2; have pP3 := cell_of HP.out 3; have pV0 := cell_of HV.out 0; have pV1 := cell_of HV.out 1; have pV2 := cell_of HV.out 2; have pV3 := cell_of HV.out 3; have pV4 := cell_of HV.out 4; have pA0 := cell_of HA.out 0; have pA1 := cell_of HA.out 1; have pA2 := cell_of HA.out 2; have pA3 := cell_of HA.out 3; have pR0 := cell_of HR.out 0; have pR1 := cell_of HR.out 1; have pR2 := cell_of HR.out 2; have pR3 := cell_of HR.out 3; simp only [List.getElem?_toArray, List.getElem?_cons_zero, List.getElem?_cons_succ] at p80 p81 p82 p83 pP0 pP1 pP2 pP3 pV0 pV1 pV2 pV3 pV4 pA0 pA1 pA2 pA3 pR0 pR1 pR2 pR3; (have fpA := free_of HA.out); (have fpR := free_of HR.out))
          | (go_at_call 57; refine (spec_NewAuthVector _ _ _ _ hkw hr hsw).mono ?_; rintro e unv ⟨rfl, bnv⟩; (first | replace H8 := Lib.hid (cells_of_below bnv H8.out) | replace H8 := Lib.hid (cells_of_below bnv (oldBlk _ H8.out))); (first | replace HP := Lib.hid (cells_of_below bnv HP.out) | replace HP := Lib.hid (cells_of_below bnv (oldBlk _ HP.out))); (first | replace HV := Lib.hid (cells_of_below bnv HV.out) | replace HV := Lib.hid (cells_of_below bnv (oldBlk _ HV.out))); (first | replace HA := Lib.hid (cells_of_below bnv HA.out) | replace HA := Lib.hid (cells_of_below bnv (oldBlk _ HA.out))); (first | replace HR := Lib.hid (cells_of_below bnv HR.out) | replace HR := Lib.hid (cells_of_below bnv (oldBlk _ HR.out))); (first | replace B0 := Below.next B0 bnv | replace B0 := Below.next (Below.drew B0) bnv | replace B0 := Below.next (Below.al B0 _) bnv | replace B0 := Below.next (Below.al (Below.drew B0) _) bnv); have q80 := cell_of H8.out 0; have q81 := cell_of H8.out 1; have q82 := cell_of H8.out 2; have q83 := cell_of H8.out 3; have qP0 := cell_of HP.out 0; have qP1 := cell_of HP.out 1; have qP2 := cell_of HP.out 2; have qP3 := cell_of HP.out 3; have qV0 := cell_of HV.out 0; have qV1 := cell_of HV.out 1; have qV2 := cell_of HV.out 2; have qV3 := cell_of HV.out 3; have qV4 := cell_of HV.out 4; have qA0 := cell_of HA.out 0; have qA1 := cell_of HA.out 1; have qA2 := cell_of HA.out 2; have qA3 := cell_of HA.out 3; have qR0 := cell_of HR.out 0; have qR1 := cell_of HR.out 1; have qR2 := cell_of HR.out 2; have qR3 := cell_of HR.out 3; simp only [List.getElem?_toArray, List.getElem?_cons_zero, List.getElem?_cons_succ] at q80 q81 q82 q83 qP0 qP1 qP2 qP3 qV0 qV1 qV2 qV3 qV4 qA0 qA1 qA2 qA3 qR0 qR1 qR2 qR3; (have fqA := free_of HA.out); (have fqR := free_of HR.out)))
      all_goals go_wp2
      all_goals refine bodyPost_ret (v := .tuple #[.agg #[.int .i64 a, .int .i64 b, .int .i64 k, .int .i64 (M.unmask k r t)], .agg #[.int .i64 0, .int .i64 (M.kh k [3, r]), .int .i64 (M.nv4 k r (M.unmask k r t)), .int .i64 0]]) (by simp [results, Try.results29, go_sem, *]) rfl ⟨rfl, ?_⟩
      all_goals exact (by repeat (first | (with_reducible exact B0) | (with_reducible refine Below.st ?_ _ _ _ (by omega)) | (with_reducible refine Below.al ?_ _) | (with_reducible refine Below.dn ?_ _) | (with_reducible refine Below.drew ?_)))
    · rw [hc]
      have HP := Lib.hid (oldBlk (.cells #[.int .i64 0, .int .i64 0, .int .i64 0, .int .i64 0] 48) (oldBlk (.cells #[.int .i64 0, .int .i64 0, .int .i64 0, .int .i64 0] 30) (oldBlk (.cells #[.int .i64 r, .int .i64 t, .int .i64 m, .int .i64 x, .int .i64 y] 45) (newBlk w #[.int .i64 a, .int .i64 b, .int .i64 k, .int .i64 l] 30 w.heap.size rfl))))
      have HV := Lib.hid (oldBlk (.cells #[.int .i64 0, .int .i64 0, .int .i64 0, .int .i64 0] 48) (oldBlk (.cells #[.int .i64 0, .int .i64 0, .int .i64 0, .int .i64 0] 30) (newBlk (w.alloc (.cells #[.int .i64 a, .int .i64 b, .int .i64 k, .int .i64 l] 30)) #[.int .i64 r, .int .i64 t, .int .i64 m, .int .i64 x, .int .i64 y] 45 (w.heap.size + 1) (by simp))))
      have HA := Lib.hid (oldBlk (.cells #[.int .i64 0, .int .i64 0, .int .i64 0, .int .i64 0] 48) (newBlk ((w.alloc (.cells #[.int .i64 a, .int .i64 b, .int .i64 k, .int .i64 l] 30)).alloc (.cells #[.int .i64 r, .int .i64 t, .int .i64 m, .int .i64 x, .int .i64 y] 45)) #[.int .i64 0, .int .i64 0, .int .i64 0, .int .i64 0] 30 (w.heap.size + 1 + 1) (by simp)))
      have HR := Lib.hid (newBlk (((w.alloc (.cells #[.int .i64 a, .int .i64 b, .int .i64 k, .int .i64 l] 30)).alloc (.cells #[.int .i64 r, .int .i64 t, .int .i64 m, .int .i64 x, .int .i64 y] 45)).alloc (.cells #[.int .i64 0, .int .i64 0, .int .i64 0, .int .i64 0] 30)) #[.int .i64 0, .int .i64 0, .int .i64 0, .int .i64 0] 48 (w.heap.size + 1 + 1 + 1) (by simp))
      have B0 := Below.al (Below.al (Below.al (Below.al (Below.refl w.heap.size w) (.cells #[.int .i64 a, .int .i64 b, .int .i64 k, .int .i64 l] 30)) (.cells #[.int .i64 r, .int .i64 t, .int .i64 m, .int .i64 x, .int .i64 y] 45)) (.cells #[.int .i64 0, .int .i64 0, .int .i64 0, .int .i64 0] 30)) (.cells #[.int .i64 0, .int .i64 0, .int .i64 0, .int .i64 0] 48)
      go_enter Try.func29, Try.ntmps29
      go_wp2_with fail
      refine (spec_IsValidUSIM _ _ _ _ _).mono ?_
      rw [hv]
      rintro e u0 ⟨rfl, h0⟩
      have b0 := below_of_alloc2 h0
      clear h0
      replace HP := Lib.hid (cells_of_below b0 HP.out)
      replace HV := Lib.hid (cells_of_below b0 HV.out)
      replace HA := Lib.hid (cells_of_below b0 HA.out)
      replace HR := Lib.hid (cells_of_below b0 HR.out)
      replace B0 := Below.next B0 b0
      clear b0
      have cP0 := cell_of HP.out 0
      have cP1 := cell_of HP.out 1
      have cP2 := cell_of HP.out 2
      have cP3 := cell_of HP.out 3
      have cV0 := cell_of HV.out 0
      have cV1 := cell_of HV.out 1
      have cV2 := cell_of HV.out 2
      have cV3 := cell_of HV.out 3
      have cV4 := cell_of HV.out 4
      simp only [List.getElem?_toArray, List.getElem?_cons_zero, List.getElem?_cons_succ] at cP0 cP1 cP2 cP3 cV0 cV1 cV2 cV3 cV4
      go_wp2_with fail
      refine (spec_VerifyVector _ _ _ _ _ _ _ _ hkw hlw hr ht).mono ?_
      rw [hc]
      rintro e u1 ⟨rfl, b1⟩
      clear cP0 cP1 cP2 cP3 cV0 cV1 cV2 cV3 cV4
      replace HP := Lib.hid (cells_of_below b1 HP.out)
      replace HV := Lib.hid (cells_of_below b1 HV.out)
      replace HA := Lib.hid (cells_of_below b1 HA.out)
      replace HR := Lib.hid (cells_of_below b1 HR.out)
      replace B0 := Below.next B0 b1
      clear b1
      have z7 : w.heap.size + 1 + 1 + 1 < u1.heap.size := (Array.getElem?_eq_some_iff.1 HR.out).1
      have dP0 := cell_of HP.out 0
      have dP1 := cell_of HP.out 1
      have dP2 := cell_of HP.out 2
      have dP3 := cell_of HP.out 3
      have dA0 := cell_of HA.out 0
      have dA1 := cell_of HA.out 1
      have dA2 := cell_of HA.out 2
      have dA3 := cell_of HA.out 3
      have dR0 := cell_of HR.out 0
      have dR1 := cell_of HR.out 1
      have dR2 := cell_of HR.out 2
      have dR3 := cell_of HR.out 3
      simp only [List.getElem?_toArray, List.getElem?_cons_zero, List.getElem?_cons_succ] at dP0 dP1 dP2 dP3 dA0 dA1 dA2 dA3 dR0 dR1 dR2 dR3
      have fA := free_of HA.out
      have fR := free_of HR.out
      go_wp2
      refine bodyPost_ret (v := .tuple #[.agg #[.int .i64 a, .int .i64 b, .int .i64 k, .int .i64 l], .agg #[.int .i64 1, .int .i64 0, .int .i64 0, .int .i64 0]]) (by simp [results, Try.results29, go_sem, *]) rfl ⟨rfl, ?_⟩
      exact (by repeat (first | (with_reducible exact B0) | (with_reducible refine Below.st ?_ _ _ _ (by omega)) | (with_reducible refine Below.al ?_ _) | (with_reducible refine Below.dn ?_ _) | (with_reducible refine Below.drew ?_)))
    · rw [hc]
      have HP := Lib.hid (oldBlk (.cells #[.int .i64 0, .int .i64 0, .int .i64 0, .int .i64 0] 48) (oldBlk (.cells #[.int .i64 0, .int .i64 0, .int .i64 0, .int .i64 0] 30) (oldBlk (.cells #[.int .i64 r, .int .i64 t, .int .i64 m, .int .i64 x, .int .i64 y] 45) (newBlk w #[.int .i64 a, .int .i64 b, .int .i64 k, .int .i64 l] 30 w.heap.size rfl))))
      have HV := Lib.hid (oldBlk (.cells #[.int .i64 0, .int .i64 0, .int .i64 0, .int .i64 0] 48) (oldBlk (.cells #[.int .i64 0, .int .i64 0, .int .i64 0, .int .i64 0] 30) (newBlk (w.alloc (.cells #[.int .i64 a, .int .i64 b, .int .i64 k, .int .i64 l] 30)) #[.int .i64 r, .int .i64 t, .int .i64 m, .int .i64 x, .int .i64 y] 45 (w.heap.size + 1) (by simp))))
      have HA := Lib.hid (oldBlk (.cells #[.int .i64 0, .int .i64 0, .int .i64 0, .int .i64 0] 48) (newBlk ((w.alloc (.cells #[.int .i64 a, .int .i64 b, .int .i64 k, .int .i64 l] 30)).alloc (.cells #[.int .i64 r, .int .i64 t, .int .i64 m, .int .i64 x, .int .i64 y] 45)) #[.int .i64 0, .int .i64 0, .int .i64 0, .int .i64 0] 30 (w.heap.size + 1 + 1) (by simp)))
      have HR := Lib.hid (newBlk (((w.alloc (.cells #[.int .i64 a, .int .i64 b, .int .i64 k, .int .i64 l] 30)).alloc (.cells #[.int .i64 r, .int .i64 t, .int .i64 m, .int .i64 x, .int .i64 y] 45)).alloc (.cells #[.int .i64 0, .int .i64 0, .int .i64 0, .int .i64 0] 30)) #[.int .i64 0, .int .i64 0, .int .i64 0, .int .i64 0] 48 (w.heap.size + 1 + 1 + 1) (by simp))
      have B0 := Below.al (Below.al (Below.al (Below.al (Below.refl w.heap.size w) (.cells #[.int .i64 a, .int .i64 b, .int .i64 k, .int .i64 l] 30)) (.cells #[.int .i64 r, .int .i64 t, .int .i64 m, .int .i64 x, .int .i64 y] 45)) (.cells #[.int .i64 0, .int .i64 0, .int .i64 0, .int .i64 0] 30)) (.cells #[.int .i64 0, .int .i64 0, .int .i64 0, .int .i64 0] 48)
      go_enter Try.func29, Try.ntmps29
      go_wp2_with fail
      refine (spec_IsValidUSIM _ _ _ _ _).mono ?_
      rw [hv]
      rintro e u0 ⟨rfl, h0⟩
      have b0 := below_of_alloc2 h0
      clear h0
      replace HP := Lib.hid (cells_of_below b0 HP.out)
      replace HV := Lib.hid (cells_of_below b0 HV.out)
      replace HA := Lib.hid (cells_of_below b0 HA.out)
      replace HR := Lib.hid (cells_of_below b0 HR.out)
      replace B0 := Below.next B0 b0
      clear b0
      have cP0 := cell_of HP.out 0
      have cP1 := cell_of HP.out 1
      have cP2 := cell_of HP.out 2
      have cP3 := cell_of HP.out 3
      have cV0 := cell_of HV.out 0
      have cV1 := cell_of HV.out 1
      have cV2 := cell_of HV.out 2
      have cV3 := cell_of HV.out 3
      have cV4 := cell_of HV.out 4
      simp only [List.getElem?_toArray, List.getElem?_cons_zero, List.getElem?_cons_succ] at cP0 cP1 cP2 cP3 cV0 cV1 cV2 cV3 cV4
      go_wp2_with fail
      refine (spec_VerifyVector _ _ _ _ _ _ _ _ hkw hlw hr ht).mono ?_
      rw [hc]
      rintro e u1 ⟨rfl, b1⟩
      clear cP0 cP1 cP2 cP3 cV0 cV1 cV2 cV3 cV4
      replace HP := Lib.hid (cells_of_below b1 HP.out)
      replace HV := Lib.hid (cells_of_below b1 HV.out)
      replace HA := Lib.hid (cells_of_below b1 HA.out)
      replace HR := Lib.hid (cells_of_below b1 HR.out)
      replace B0 := Below.next B0 b1
      clear b1
      have z7 : w.heap.size + 1 + 1 + 1 < u1.heap.size := (Array.getElem?_eq_some_iff.1 HR.out).1
      have dP0 := cell_of HP.out 0
      have dP1 := cell_of HP.out 1
      have dP2 := cell_of HP.out 2
      have dP3 := cell_of HP.out 3
      have dV0 := cell_of HV.out 0
      have dV1 := cell_of HV.out 1
      have dV2 := cell_of HV.out 2
      have dV3 := cell_of HV.out 3
      have dV4 := cell_of HV.out 4
      have dA0 := cell_of HA.out 0
      have dA1 := cell_of HA.out 1
      have dA2 := cell_of HA.out 2
      have dA3 := cell_of HA.out 3
      have dR0 := cell_of HR.out 0
      have dR1 := cell_of HR.out 1
      have dR2 := cell_of HR.out 2
      have dR3 := cell_of HR.out 3
      simp only [List.getElem?_toArray, List.getElem?_cons_zero, List.getElem?_cons_succ] at dP0 dP1 dP2 dP3 dV0 dV1 dV2 dV3 dV4 dA0 dA1 dA2 dA3 dR0 dR1 dR2 dR3
      have fA := free_of HA.out
      have fR := free_of HR.out
      go_wp2
      go_region_held3 (fun w' => w'.cell? ⟨w.heap.size, 0, none⟩ = some (.int .i64 a) ∧ w'.cell? ⟨w.heap.size, 1, none⟩ = some (.int .i64 b) ∧ w'.cell? ⟨w.heap.size, 2, none⟩ = some (.int .i64 k) ∧ w'.cell? ⟨w.heap.size, 3, none⟩ = some (.int .i64 l) ∧ w'.cell? ⟨w.heap.size + 1, 0, none⟩ = some (.int .i64 r)) (first | (refine ⟨?_, ?_, ?_, ?_, ?_⟩ <;> (first | (rw [set_far4 _ _ _ _ _ _ _ _ (by omega), set_far4 _ _ _ _ _ _ _ _ (by omega)]; assumption) | (rw [set_far4 _ _ _ _ _ _ _ _ (by omega)]; assumption))) | go_keep)
        (first
          | (go_at_call 34; refine (spec_ResyncToken _ _ _ _ hkw hr hlw).mono ?_; rintro e u2 ⟨rfl, b2⟩; (first | replace HP := Lib.hid (cells_of_below b2 HP.out) | replace HP := Lib.hid (cells_of_below b2 (oldBlk _ HP.out))); (first | replace HV := Lib.hid (cells_of_below b2 HV.out) | replace HV := Lib.hid (cells_of_below b2 (oldBlk _ HV.out))); (first | replace HA := Lib.hid (cells_of_below b2 HA.out) | replace HA := Lib.hid (cells_of_below b2 (oldBlk _ HA.out))); (first | replace HR := Lib.hid (cells_of_below b2 HR.out) | replace HR := Lib.hid (cells_of_below b2 (oldBlk _ HR.out))); (first | replace B0 := Below.next B0 b2 | replace B0 := Below.next (Below.drew B0) b2 | replace B0 := Below.next (Below.al B0 _) b2 | replace B0 := Below.next (Below.al (Below.drew B0) _) b2); have gP0 := cell_of HP.out 0; have gP1 := cell_of HP.out 1; have gP2 := cell_of HP.out 2; have gP3 := cell_of HP.out 3; have gV0 := cell_of HV.out 0; have gV1 := cell_of HV.out 1; have gV2 := cell_of HV.out 2; have gV3 := cell_of HV.out 3; have gV4 := cell_of HV.out 4; have gA0 := cell_of HA.out 0; have gA1 := cell_of HA.out 1; have gA2 := cell_of HA.out 2; have gA3 := cell_of HA.out 3; have gR0 := cell_of HR.out 0; have gR1 := cell_of HR.out 1; have gR2 := cell_of HR.out 2; have gR3 := cell_of HR.out 3; simp only [List.getElem?_toArray, List.getElem?_cons_zero, List.getElem?_cons_succ] at gP0 gP1 gP2 gP3 gV0 gV1 gV2 gV3 gV4 gA0 gA1 gA2 gA3 gR0 gR1 gR2 gR3; (have fgA := free_of HA.out); (have fgR := free_of HR.out)))
      all_goals go_wp2
      all_goals refine bodyPost_ret (v := .tuple #[.agg #[.int .i64 a, .int .i64 b, .int .i64 k, .int .i64 l], .agg #[.int .i64 2, .int .i64 0, .int .i64 0, .int .i64 (M.token k r l)]]) (by simp [results, Try.results29, go_sem, *]) rfl ⟨rfl, ?_⟩
      all_goals exact (by repeat (first | (with_reducible exact B0) | (with_reducible refine Below.st ?_ _ _ _ (by omega)) | (with_reducible refine Below.al ?_ _) | (with_reducible refine Below.dn ?_ _) | (with_reducible refine Below.drew ?_)))
    · rw [hc]
      have HP := Lib.hid (oldBlk (.cells #[.int .i64 0, .int .i64 0, .int .i64 0, .int .i64 0] 48) (oldBlk (.cells #[.int .i64 0, .int .i64 0, .int .i64 0, .int .i64 0] 30) (oldBlk (.cells #[.int .i64 r, .int .i64 t, .int .i64 m, .int .i64 x, .int .i64 y] 45) (newBlk w #[.int .i64 a, .int .i64 b, .int .i64 k, .int .i64 l] 30 w.heap.size rfl))))
      have HV := Lib.hid (oldBlk (.cells #[.int .i64 0, .int .i64 0, .int .i64 0, .int .i64 0] 48) (oldBlk (.cells #[.int .i64 0, .int .i64 0, .int .i64 0, .int .i64 0] 30) (newBlk (w.alloc (.cells #[.int .i64 a, .int .i64 b, .int .i64 k, .int .i64 l] 30)) #[.int .i64 r, .int .i64 t, .int .i64 m, .int .i64 x, .int .i64 y] 45 (w.heap.size + 1) (by simp))))
      have HA := Lib.hid (oldBlk (.cells #[.int .i64 0, .int .i64 0, .int .i64 0, .int .i64 0] 48) (newBlk ((w.alloc (.cells #[.int .i64 a, .int .i64 b, .int .i64 k, .int .i64 l] 30)).alloc (.cells #[.int .i64 r, .int .i64 t, .int .i64 m, .int .i64 x, .int .i64 y] 45)) #[.int .i64 0, .int .i64 0, .int .i64 0, .int .i64 0] 30 (w.heap.size + 1 + 1) (by simp)))
      have HR := Lib.hid (newBlk (((w.alloc (.cells #[.int .i64 a, .int .i64 b, .int .i64 k, .int .i64 l] 30)).alloc (.cells #[.int .i64 r, .int .i64 t, .int .i64 m, .int .i64 x, .int .i64 y] 45)).alloc (.cells #[.int .i64 0, .int .i64 0, .int .i64 0, .int .i64 0] 30)) #[.int .i64 0, .int .i64 0, .int .i64 0, .int .i64 0] 48 (w.heap.size + 1 + 1 + 1) (by simp))
      have B0 := Below.al (Below.al (Below.al (Below.al (Below.refl w.heap.size w) (.cells #[.int .i64 a, .int .i64 b, .int .i64 k, .int .i64 l] 30)) (.cells #[.int .i64 r, .int .i64 t, .int .i64 m, .int .i64 x, .int .i64 y] 45)) (.cells #[.int .i64 0, .int .i64 0, .int .i64 0, .int .i64 0] 30)) (.cells #[.int .i64 0, .int .i64 0, .int .i64 0, .int .i64 0] 48)
      go_enter Try.func29, Try.ntmps29
      go_wp2_with fail
      refine (spec_IsValidUSIM _ _ _ _ _).mono ?_
      rw [hv]
      rintro e u0 ⟨rfl, h0⟩
      have b0 := below_of_alloc2 h0
      clear h0
      replace HP := Lib.hid (cells_of_below b0 HP.out)
      replace HV := Lib.hid (cells_of_below b0 HV.out)
      replace HA := Lib.hid (cells_of_below b0 HA.out)
      replace HR := Lib.hid (cells_of_below b0 HR.out)
      replace B0 := Below.next B0 b0
      clear b0
      have cP0 := cell_of HP.out 0
      have cP1 := cell_of HP.out 1
      have cP2 := cell_of HP.out 2
      have cP3 := cell_of HP.out 3
      have cV0 := cell_of HV.out 0
      have cV1 := cell_of HV.out 1
      have cV2 := cell_of HV.out 2
      have cV3 := cell_of HV.out 3
      have cV4 := cell_of HV.out 4
      simp only [List.getElem?_toArray, List.getElem?_cons_zero, List.getElem?_cons_succ] at cP0 cP1 cP2 cP3 cV0 cV1 cV2 cV3 cV4
      go_wp2_with fail
      refine (spec_VerifyVector _ _ _ _ _ _ _ _ hkw hlw hr ht).mono ?_
      rw [hc]
      rintro e u1 ⟨rfl, b1⟩
      clear cP0 cP1 cP2 cP3 cV0 cV1 cV2 cV3 cV4
      replace HP := Lib.hid (cells_of_below b1 HP.out)
      replace HV := Lib.hid (cells_of_below b1 HV.out)
      replace HA := Lib.hid (cells_of_below b1 HA.out)
      replace HR := Lib.hid (cells_of_below b1 HR.out)
      replace B0 := Below.next B0 b1
      clear b1
      have z7 : w.heap.size + 1 + 1 + 1 < u1.heap.size := (Array.getElem?_eq_some_iff.1 HR.out).1
      have dP0 := cell_of HP.out 0
      have dP1 := cell_of HP.out 1
      have dP2 := cell_of HP.out 2
      have dP3 := cell_of HP.out 3
      have dV0 := cell_of HV.out 0
      have dV1 := cell_of HV.out 1
      have dV2 := cell_of HV.out 2
      have dV3 := cell_of HV.out 3
      have dV4 := cell_of HV.out 4
      have dA0 := cell_of HA.out 0
      have dA1 := cell_of HA.out 1
      have dA2 := cell_of HA.out 2
      have dA3 := cell_of HA.out 3
      have dR0 := cell_of HR.out 0
      have dR1 := cell_of HR.out 1
      have dR2 := cell_of HR.out 2
      have dR3 := cell_of HR.out 3
      simp only [List.getElem?_toArray, List.getElem?_cons_zero, List.getElem?_cons_succ] at dP0 dP1 dP2 dP3 dV0 dV1 dV2 dV3 dV4 dA0 dA1 dA2 dA3 dR0 dR1 dR2 dR3
      have fA := free_of HA.out
      have fR := free_of HR.out
      go_wp2
      go_region_held3 (fun w' => w'.cell? ⟨w.heap.size, 0, none⟩ = some (.int .i64 a) ∧ w'.cell? ⟨w.heap.size, 1, none⟩ = some (.int .i64 b) ∧ w'.cell? ⟨w.heap.size, 2, none⟩ = some (.int .i64 k) ∧ w'.cell? ⟨w.heap.size, 3, none⟩ = some (.int .i64 l) ∧ w'.cell? ⟨w.heap.size + 1, 0, none⟩ = some (.int .i64 r)) (first | (refine ⟨?_, ?_, ?_, ?_, ?_⟩ <;> (first | (rw [set_far4 _ _ _ _ _ _ _ _ (by omega), set_far4 _ _ _ _ _ _ _ _ (by omega)]; assumption) | (rw [set_far4 _ _ _ _ _ _ _ _ (by omega)]; assumption))) | go_keep)
        (first
          | (go_at_call 34; refine (spec_ResyncToken _ _ _ _ hkw hr hlw).mono ?_; rintro e u2 ⟨rfl, b2⟩; (first | replace HP := Lib.hid (cells_of_below b2 HP.out) | replace HP := Lib.hid (cells_of_below b2 (oldBlk _ HP.out))); (first | replace HV := Lib.hid (cells_of_below b2 HV.out) | replace HV := Lib.hid (cells_of_below b2 (oldBlk _ HV.out))); (first | replace HA := Lib.hid (cells_of_below b2 HA.out) | replace HA := Lib.hid (cells_of_below b2 (oldBlk _ HA.out))); (first | replace HR := Lib.hid (cells_of_below b2 HR.out) | replace HR := Lib.hid (cells_of_below b2 (oldBlk _ HR.out))); (first | replace B0 := Below.next B0 b2 | replace B0 := Below.next (Below.drew B0) b2 | replace B0 := Below.next (Below.al B0 _) b2 | replace B0 := Below.next (Below.al (Below.drew B0) _) b2); have gP0 := cell_of HP.out 0; have gP1 := cell_of HP.out 1; have gP2 := cell_of HP.out 2; have gP3 := cell_of HP.out 3; have gV0 := cell_of HV.out 0; have gV1 := cell_of HV.out 1; have gV2 := cell_of HV.out 2; have gV3 := cell_of HV.out 3; have gV4 := cell_of HV.out 4; have gA0 := cell_of HA.out 0; have gA1 := cell_of HA.out 1; have gA2 := cell_of HA.out 2; have gA3 := cell_of HA.out 3; have gR0 := cell_of HR.out 0; have gR1 := cell_of HR.out 1; have gR2 := cell_of HR.out 2; have gR3 := cell_of HR.out 3; simp only [List.getElem?_toArray, List.getElem?_cons_zero, List.getElem?_cons_succ] at gP0 gP1 gP2 gP3 gV0 gV1 gV2 gV3 gV4 gA0 gA1 gA2 gA3 gR0 gR1 gR2 gR3; (have fgA := free_of HA.out); (have fgR := free_of HR.out)))
      all_goals go_wp2
      all_goals refine bodyPost_ret (v := .tuple #[.agg #[.int .i64 a, .int .i64 b, .int .i64 k, .int .i64 l], .agg #[.int .i64 3, .int .i64 0, .int .i64 0, .int .i64 (M.token k r l)]]) (by simp [results, Try.results29, go_sem, *]) rfl ⟨rfl, ?_⟩
      all_goals exact (by repeat (first | (with_reducible exact B0) | (with_reducible refine Below.st ?_ _ _ _ (by omega)) | (with_reducible refine Below.al ?_ _) | (with_reducible refine Below.dn ?_ _) | (with_reducible refine Below.drew ?_)))

end Go.Proofs.Ytfenmicakmjelaa
