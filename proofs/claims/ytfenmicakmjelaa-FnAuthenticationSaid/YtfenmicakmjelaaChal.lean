/-
  Contracts: a card answers a challenge.
-/
import Derived.Test.YtfenmicakmjelaaRec
import Derived.Test.YtfenmicakmjelaaRec2
import Derived.Deep.RegionHeld3
namespace Go.Proofs.Ytfenmicakmjelaa
open Go.RowKit

theorem below_of_alloc2 {w w' : World} {o o' : Obj} (h : w' = (w.alloc o).alloc o') : Below w.heap.size w w' := h ▸ Below.al (Below.al (Below.refl _ _) _) _
theorem setBlk {w : World} {g : Nat} {cs cs' : Array Value} {t : TypeId} (h : w.heap[g]? = some (.cells cs t (0, 0))) (i : Nat) (v : Value) (hc : cs.setIfInBounds i v = cs') : (w.setCell ⟨g, i, none⟩ v).heap[g]? = some (.cells cs' t (0, 0)) := by
  subst hc
  simp [World.setCell, Array.getElem?_modify, h]
theorem setBlkNe {w : World} {g g' : Nat} {cs : Array Value} {t : TypeId} (h : w.heap[g]? = some (.cells cs t (0, 0))) (i : Nat) (v : Value) (hn : g' ≠ g) : (w.setCell ⟨g', i, none⟩ v).heap[g]? = some (.cells cs t (0, 0)) := by
  simp [World.setCell, Array.getElem?_modify, hn, h]

namespace M
def rcCode (a b k l r t m : Int) : Int := if vCard a b k l = true then verify k l r t m else 1
def rcLast (c k l r t : Int) : Int := if c = 0 then unmask k r t else l
def rcRes (c k r : Int) : Int := if c = 0 then kh k [3, r] else 0
def rcKey (c k r t : Int) : Int := if c = 0 then nv4 k r (unmask k r t) else 0
def rcTok (c k l r : Int) : Int := if c = 2 ∨ c = 3 then token k r l else 0
theorem verify_of (k l r t m : Int) : verify k l r t m = 0 ∨ verify k l r t m = 1 ∨ verify k l r t m = 2 ∨ verify k l r t m = 3 := by
  unfold verify
  by_cases h1 : m = kh k [2, r, unmask k r t]
  · rw [if_pos h1]
    by_cases h2 : unmask k r t ≤ l
    · rw [if_pos h2]; omega
    · rw [if_neg h2]
      by_cases h3 : l + 1000 < unmask k r t
      · rw [if_pos h3]; omega
      · rw [if_neg h3]; omega
  · rw [if_neg h1]; omega
end M

set_option maxHeartbeats 4000000 in
theorem impl_RespondToChallenge (a b k l r t m x y : Int) (w : World) (hr : (Lit.int .i64 r).wf = true) (ht : (Lit.int .i64 t).wf = true) :
    Calls Try.prog 17 #[.agg #[.int .i64 a, .int .i64 b, .int .i64 k, .int .i64 l], .agg #[.int .i64 r, .int .i64 t, .int .i64 m, .int .i64 x, .int .i64 y]] w fun e w' => e = .returned (.tuple #[.agg #[.int .i64 a, .int .i64 b, .int .i64 k, .int .i64 (M.rcLast (M.rcCode a b k l r t m) k l r t)], .agg #[.int .i64 (M.rcCode a b k l r t m), .int .i64 (M.rcRes (M.rcCode a b k l r t m) k r), .int .i64 (M.rcKey (M.rcCode a b k l r t m) k r t), .int .i64 (M.rcTok (M.rcCode a b k l r t m) k l r)]]) ∧ Below w.heap.size w w' := by
  unfold M.rcCode
  cases hv : M.vCard a b k l
  · simp only [Bool.false_eq_true, if_false]
    have HP := Lib.hid (oldBlk (.cells #[.int .i64 0, .int .i64 0, .int .i64 0, .int .i64 0] 48) (oldBlk (.cells #[.int .i64 0, .int .i64 0, .int .i64 0, .int .i64 0] 30) (oldBlk (.cells #[.int .i64 r, .int .i64 t, .int .i64 m, .int .i64 x, .int .i64 y] 45) (newBlk w #[.int .i64 a, .int .i64 b, .int .i64 k, .int .i64 l] 30 w.heap.size rfl))))
    have HV := Lib.hid (oldBlk (.cells #[.int .i64 0, .int .i64 0, .int .i64 0, .int .i64 0] 48) (oldBlk (.cells #[.int .i64 0, .int .i64 0, .int .i64 0, .int .i64 0] 30) (newBlk (w.alloc (.cells #[.int .i64 a, .int .i64 b, .int .i64 k, .int .i64 l] 30)) #[.int .i64 r, .int .i64 t, .int .i64 m, .int .i64 x, .int .i64 y] 45 (w.heap.size + 1) (by simp))))
    have HA := Lib.hid (oldBlk (.cells #[.int .i64 0, .int .i64 0, .int .i64 0, .int .i64 0] 48) (newBlk ((w.alloc (.cells #[.int .i64 a, .int .i64 b, .int .i64 k, .int .i64 l] 30)).alloc (.cells #[.int .i64 r, .int .i64 t, .int .i64 m, .int .i64 x, .int .i64 y] 45)) #[.int .i64 0, .int .i64 0, .int .i64 0, .int .i64 0] 30 (w.heap.size + 1 + 1) (by simp)))
    have HR := Lib.hid (newBlk (((w.alloc (.cells #[.int .i64 a, .int .i64 b, .int .i64 k, .int .i64 l] 30)).alloc (.cells #[.int .i64 r, .int .i64 t, .int .i64 m, .int .i64 x, .int .i64 y] 45)).alloc (.cells #[.int .i64 0, .int .i64 0, .int .i64 0, .int .i64 0] 30)) #[.int .i64 0, .int .i64 0, .int .i64 0, .int .i64 0] 48 (w.heap.size + 1 + 1 + 1) (by simp))
    have B0 := Below.al (Below.al (Below.al (Below.al (Below.refl w.heap.size w) (.cells #[.int .i64 a, .int .i64 b, .int .i64 k, .int .i64 l] 30)) (.cells #[.int .i64 r, .int .i64 t, .int .i64 m, .int .i64 x, .int .i64 y] 45)) (.cells #[.int .i64 0, .int .i64 0, .int .i64 0, .int .i64 0] 30)) (.cells #[.int .i64 0, .int .i64 0, .int .i64 0, .int .i64 0] 48)
    go_enter Try.func17, Try.ntmps17
    go_wp2_with fail
    refine (impl_IsValidUSIM _ _ _ _ _).mono ?_
    rw [hv]
    rintro e u0 ⟨rfl, h0⟩
    have b0 := below_of_alloc2 h0
    clear h0
    replace HP := Lib.hid (cells_of_below b0 HP.out)
    replace HV := Lib.hid (cells_of_below b0 HV.out)
    replace HA := Lib.hid (cells_of_below b0 HA.out)
    replace HR := Lib.hid (cells_of_below b0 HR.out)
    replace B0 := Below.next B0 b0
    clear b0
    have cP0 := cell_of HP.out 0
    have cP1 := cell_of HP.out 1
    have cP2 := cell_of HP.out 2
    have cP3 := cell_of HP.out 3
    have cA0 := cell_of HA.out 0
    have cA1 := cell_of HA.out 1
    have cA2 := cell_of HA.out 2
    have cA3 := cell_of HA.out 3
    have cR0 := cell_of HR.out 0
    have cR1 := cell_of HR.out 1
    have cR2 := cell_of HR.out 2
    have cR3 := cell_of HR.out 3
    simp only [List.getElem?_toArray, List.getElem?_cons_zero, List.getElem?_cons_succ] at cP0 cP1 cP2 cP3 cA0 cA1 cA2 cA3 cR0 cR1 cR2 cR3
    have fA := free_of HA.out
    have fR := free_of HR.out
    go_wp2
    refine bodyPost_ret (v := .tuple #[.agg #[.int .i64 a, .int .i64 b, .int .i64 k, .int .i64 l], .agg #[.int .i64 1, .int .i64 0, .int .i64 0, .int .i64 0]]) (by simp [results, Try.results17, go_sem, *]) rfl ⟨rfl, ?_⟩
    exact (by repeat (first | (with_reducible exact B0) | (with_reducible refine Below.st ?_ _ _ _ (by omega)) | (with_reducible refine Below.al ?_ _) | (with_reducible refine Below.dn ?_ _) | (with_reducible refine Below.drew ?_)))
  · simp only [if_true]
    obtain ⟨⟨k0, k1⟩, l0, l1⟩ := M.vCard_bd hv
    have hkw : (Lit.int .i64 k).wf = true := WalkArith.wf_i64 (by omega)
    have hlw : (Lit.int .i64 l).wf = true := WalkArith.wf_i64 (by omega)
    rcases M.verify_of k l r t m with hc | hc | hc | hc
    · rw [hc]
      have hfd : ∀ (x0 x1 x2 x3 x4 : Int) (w : World), (Instr.field 45 (.agg #[.int .i64 x0, .int .i64 x1, .int .i64 x2, .int .i64 x3, .int .i64 x4]) 4).run Try.prog w = .ok (.int .i64 x4) w := fun _ _ _ _ _ _ => by kernel_rfl
      have HP := Lib.hid (oldBlk (.cells #[.int .i64 0, .int .i64 0, .int .i64 0, .int .i64 0] 48) (oldBlk (.cells #[.int .i64 0, .int .i64 0, .int .i64 0, .int .i64 0] 30) (oldBlk (.cells #[.int .i64 r, .int .i64 t, .int .i64 m, .int .i64 x, .int .i64 y] 45) (newBlk w #[.int .i64 a, .int .i64 b, .int .i64 k, .int .i64 l] 30 w.heap.size rfl))))
      have HV := Lib.hid (oldBlk (.cells #[.int .i64 0, .int .i64 0, .int .i64 0, .int .i64 0] 48) (oldBlk (.cells #[.int .i64 0, .int .i64 0, .int .i64 0, .int .i64 0] 30) (newBlk (w.alloc (.cells #[.int .i64 a, .int .i64 b, .int .i64 k, .int .i64 l] 30)) #[.int .i64 r, .int .i64 t, .int .i64 m, .int .i64 x, .int .i64 y] 45 (w.heap.size + 1) (by simp))))
      have HA := Lib.hid (oldBlk (.cells #[.int .i64 0, .int .i64 0, .int .i64 0, .int .i64 0] 48) (newBlk ((w.alloc (.cells #[.int .i64 a, .int .i64 b, .int .i64 k, .int .i64 l] 30)).alloc (.cells #[.int .i64 r, .int .i64 t, .int .i64 m, .int .i64 x, .int .i64 y] 45)) #[.int .i64 0, .int .i64 0, .int .i64 0, .int .i64 0] 30 (w.heap.size + 1 + 1) (by simp)))
      have HR := Lib.hid (newBlk (((w.alloc (.cells #[.int .i64 a, .int .i64 b, .int .i64 k, .int .i64 l] 30)).alloc (.cells #[.int .i64 r, .int .i64 t, .int .i64 m, .int .i64 x, .int .i64 y] 45)).alloc (.cells #[.int .i64 0, .int .i64 0, .int .i64 0, .int .i64 0] 30)) #[.int .i64 0, .int .i64 0, .int .i64 0, .int .i64 0] 48 (w.heap.size + 1 + 1 + 1) (by simp))
      have B0 := Below.al (Below.al (Below.al (Below.al (Below.refl w.heap.size w) (.cells #[.int .i64 a, .int .i64 b, .int .i64 k, .int .i64 l] 30)) (.cells #[.int .i64 r, .int .i64 t, .int .i64 m, .int .i64 x, .int .i64 y] 45)) (.cells #[.int .i64 0, .int .i64 0, .int .i64 0, .int .i64 0] 30)) (.cells #[.int .i64 0, .int .i64 0, .int .i64 0, .int .i64 0] 48)
      go_enter Try.func17, Try.ntmps17
      go_wp2_with fail
      refine (impl_IsValidUSIM _ _ _ _ _).mono ?_
      rw [hv]
      rintro e u0 ⟨rfl, h0⟩
      have b0 := below_of_alloc2 h0
      clear h0
      replace HP := Lib.hid (cells_of_below b0 HP.out)
      replace HV := Lib.hid (cells_of_below b0 HV.out)
      replace HA := Lib.hid (cells_of_below b0 HA.out)
      replace HR := Lib.hid (cells_of_below b0 HR.out)
      replace B0 := Below.next B0 b0
      clear b0
      have cP0 := cell_of HP.out 0
      have cP1 := cell_of HP.out 1
      have cP2 := cell_of HP.out 2
      have cP3 := cell_of HP.out 3
      have cV0 := cell_of HV.out 0
      have cV1 := cell_of HV.out 1
      have cV2 := cell_of HV.out 2
      have cV3 := cell_of HV.out 3
      have cV4 := cell_of HV.out 4
      simp only [List.getElem?_toArray, List.getElem?_cons_zero, List.getElem?_cons_succ] at cP0 cP1 cP2 cP3 cV0 cV1 cV2 cV3 cV4
      go_wp2_with fail
      refine (impl_VerifyVector _ _ _ _ _ _ _ _ hkw hlw hr ht).mono ?_
      rw [hc]
      rintro e u1 ⟨rfl, b1⟩
      clear cP0 cP1 cP2 cP3 cV0 cV1 cV2 cV3 cV4
      replace HP := Lib.hid (cells_of_below b1 HP.out)
      replace HV := Lib.hid (cells_of_below b1 HV.out)
      replace HA := Lib.hid (cells_of_below b1 HA.out)
      replace HR := Lib.hid (cells_of_below b1 HR.out)
      replace B0 := Below.next B0 b1
      clear b1
      have z7 : w.heap.size + 1 + 1 + 1 < u1.heap.size := (Array.getElem?_eq_some_iff.1 HR.out).1
      replace HP := Lib.hid (oldBlk (.cells #[.int .i64 0, .int .i64 0, .int .i64 0, .int .i64 0] 48) HP.out)
      replace HV := Lib.hid (oldBlk (.cells #[.int .i64 0, .int .i64 0, .int .i64 0, .int .i64 0] 48) HV.out)
      replace HA := Lib.hid (oldBlk (.cells #[.int .i64 0, .int .i64 0, .int .i64 0, .int .i64 0] 48) HA.out)
      replace HR := Lib.hid (oldBlk (.cells #[.int .i64 0, .int .i64 0, .int .i64 0, .int .i64 0] 48) HR.out)
      have H7 := Lib.hid (newBlk u1 #[.int .i64 0, .int .i64 0, .int .i64 0, .int .i64 0] 48 u1.heap.size rfl)
      replace B0 := Below.al B0 (.cells #[.int .i64 0, .int .i64 0, .int .i64 0, .int .i64 0] 48)
      have dP0 := cell_of HP.out 0
      have dP1 := cell_of HP.out 1
      have dP2 := cell_of HP.out 2
      have dP3 := cell_of HP.out 3
      have dV0 := cell_of HV.out 0
      have dV1 := cell_of HV.out 1
      have dV2 := cell_of HV.out 2
      have dV3 := cell_of HV.out 3
      have dV4 := cell_of HV.out 4
      have d70 := cell_of H7.out 0
      have d71 := cell_of H7.out 1
      have d72 := cell_of H7.out 2
      have d73 := cell_of H7.out 3
      simp only [List.getElem?_toArray, List.getElem?_cons_zero, List.getElem?_cons_succ] at dP0 dP1 dP2 dP3 dV0 dV1 dV2 dV3 dV4 d70 d71 d72 d73
      obtain ⟨s0, s1⟩ := M.unmask_bd k r t
      have hsw : (Lit.int .i64 (M.unmask k r t)).wf = true := WalkArith.wf_i64 (by omega)
      go_wp2_with fail
      refine (impl_UnmaskSequence _ _ _ _ hkw hr ht).mono ?_
      rintro e u2 ⟨rfl, h2⟩
      have b2 := below_of_alloc h2
      clear h2 dP0 dP1 dP2 dP3 dV0 dV1 dV2 dV3 dV4 d70 d71 d72 d73
      replace HP := Lib.hid (cells_of_below b2 HP.out)
      replace HV := Lib.hid (cells_of_below b2 HV.out)
      replace HA := Lib.hid (cells_of_below b2 HA.out)
      replace HR := Lib.hid (cells_of_below b2 HR.out)
      replace H7 := Lib.hid (cells_of_below b2 H7.out)
      replace B0 := Below.next B0 b2
      clear b2
      have z8 : u1.heap.size < u2.heap.size := (Array.getElem?_eq_some_iff.1 H7.out).1
      have gP0 := cell_of HP.out 0
      have gP1 := cell_of HP.out 1
      have gP2 := cell_of HP.out 2
      have gP3 := cell_of HP.out 3
      have gV0 := cell_of HV.out 0
      have gV1 := cell_of HV.out 1
      have gV2 := cell_of HV.out 2
      have gV3 := cell_of HV.out 3
      have gV4 := cell_of HV.out 4
      have g70 := cell_of H7.out 0
      have g71 := cell_of H7.out 1
      have g72 := cell_of H7.out 2
      have g73 := cell_of H7.out 3
      simp only [List.getElem?_toArray, List.getElem?_cons_zero, List.getElem?_cons_succ] at gP0 gP1 gP2 gP3 gV0 gV1 gV2 gV3 gV4 g70 g71 g72 g73
      have f7 := free_of H7.out
      go_wp2_with fail
      refine (impl_KeyedHash _ _ [3, r] _ hkw (Rd.litN 3 _ [3, r] _ _ (by simp) rfl (by simp [maxLen])) (wf2 (by decide) hr)).mono ?_
      rintro e w' ⟨rfl, rfl⟩
      have q2 := cell_of (oldBlk (.cells #[.int .i64 3, .int .i64 r] 3) (setBlkNe HP.out 1 (.int .i64 (M.kh k [3, r])) (by omega : u1.heap.size ≠ w.heap.size))) 2
      have q0 := cell_of (oldBlk (.cells #[.int .i64 3, .int .i64 r] 3) (setBlkNe HV.out 1 (.int .i64 (M.kh k [3, r])) (by omega : u1.heap.size ≠ w.heap.size + 1))) 0
      simp only [List.getElem?_toArray, List.getElem?_cons_zero, List.getElem?_cons_succ] at q2 q0
      go_wp2_with fail
      refine (impl_NewAuthVector _ _ _ _ hkw hr hsw).mono ?_
      rintro e u3 ⟨rfl, b3⟩
      clear q2 q0
      have NP : Hid (u3.heap[w.heap.size]? = some (.cells #[.int .i64 a, .int .i64 b, .int .i64 k, .int .i64 l] 30 (0, 0))) := Lib.hid (cells_of_below b3 (by first | exact setBlkNe (oldBlk _ HP.out) _ _ (by omega) | exact oldBlk _ (setBlkNe HP.out _ _ (by omega)) | exact oldBlk _ (setBlk HP.out _ _ rfl) | exact setBlk (oldBlk _ HP.out) _ _ rfl))
      have NV : Hid (u3.heap[w.heap.size + 1]? = some (.cells #[.int .i64 r, .int .i64 t, .int .i64 m, .int .i64 x, .int .i64 y] 45 (0, 0))) := Lib.hid (cells_of_below b3 (by first | exact setBlkNe (oldBlk _ HV.out) _ _ (by omega) | exact oldBlk _ (setBlkNe HV.out _ _ (by omega)) | exact oldBlk _ (setBlk HV.out _ _ rfl) | exact setBlk (oldBlk _ HV.out) _ _ rfl))
      have NA : Hid (u3.heap[w.heap.size + 1 + 1]? = some (.cells #[.int .i64 0, .int .i64 0, .int .i64 0, .int .i64 0] 30 (0, 0))) := Lib.hid (cells_of_below b3 (by first | exact setBlkNe (oldBlk _ HA.out) _ _ (by omega) | exact oldBlk _ (setBlkNe HA.out _ _ (by omega)) | exact oldBlk _ (setBlk HA.out _ _ rfl) | exact setBlk (oldBlk _ HA.out) _ _ rfl))
      have NR : Hid (u3.heap[w.heap.size + 1 + 1 + 1]? = some (.cells #[.int .i64 0, .int .i64 0, .int .i64 0, .int .i64 0] 48 (0, 0))) := Lib.hid (cells_of_below b3 (by first | exact setBlkNe (oldBlk _ HR.out) _ _ (by omega) | exact oldBlk _ (setBlkNe HR.out _ _ (by omega)) | exact oldBlk _ (setBlk HR.out _ _ rfl) | exact setBlk (oldBlk _ HR.out) _ _ rfl))
      have N7 : Hid (u3.heap[u1.heap.size]? = some (.cells #[.int .i64 0, .int .i64 (M.kh k [3, r]), .int .i64 0, .int .i64 0] 48 (0, 0))) := Lib.hid (cells_of_below b3 (by first | exact setBlkNe (oldBlk _ H7.out) _ _ (by omega) | exact oldBlk _ (setBlkNe H7.out _ _ (by omega)) | exact oldBlk _ (setBlk H7.out _ _ rfl) | exact setBlk (oldBlk _ H7.out) _ _ rfl))
      have B3 : Below w.heap.size w u3 := Below.next (by first | exact Below.st (Below.al B0 _) _ _ _ (by omega) | exact Below.al (Below.st B0 _ _ _ (by omega)) _) b3
      clear b3 f7 gP0 gP1 gP2 gP3 gV0 gV1 gV2 gV3 gV4 g70 g71 g72 g73 HP HV HA HR H7 B0
      have HP := NP; have HV := NV; have HA := NA; have HR := NR; have H7 := N7; have B0 := B3
      clear NP NV NA NR N7 B3
      have z9 : u1.heap.size < u3.heap.size := (Array.getElem?_eq_some_iff.1 H7.out).1
      have nP0 := cell_of HP.out 0
      have nP1 := cell_of HP.out 1
      have nP2 := cell_of HP.out 2
      have nP3 := cell_of HP.out 3
      have nV0 := cell_of HV.out 0
      have nV1 := cell_of HV.out 1
      have nV2 := cell_of HV.out 2
      have nV3 := cell_of HV.out 3
      have nV4 := cell_of HV.out 4
      have n70 := cell_of H7.out 0
      have n71 := cell_of H7.out 1
      have n72 := cell_of H7.out 2
      have n73 := cell_of H7.out 3
      simp only [List.getElem?_toArray, List.getElem?_cons_zero, List.getElem?_cons_succ] at nP0 nP1 nP2 nP3 nV0 nV1 nV2 nV3 nV4 n70 n71 n72 n73
      have f7 := free_of H7.out
      have fP := free_of HP.out
      go_wp2
      clear nP0 nP1 nP2 nP3 nV0 nV1 nV2 nV3 nV4 n70 n71 n72 n73 f7 fP
      replace HV := Lib.hid (setBlkNe (setBlkNe HV.out 2 (.int .i64 (M.nv4 k r (M.unmask k r t))) (by omega : u1.heap.size ≠ w.heap.size + 1)) 3 (.int .i64 (M.unmask k r t)) (by omega : w.heap.size ≠ w.heap.size + 1))
      replace HA := Lib.hid (setBlkNe (setBlkNe HA.out 2 (.int .i64 (M.nv4 k r (M.unmask k r t))) (by omega : u1.heap.size ≠ w.heap.size + 1 + 1)) 3 (.int .i64 (M.unmask k r t)) (by omega : w.heap.size ≠ w.heap.size + 1 + 1))
      replace HR := Lib.hid (setBlkNe (setBlkNe HR.out 2 (.int .i64 (M.nv4 k r (M.unmask k r t))) (by omega : u1.heap.size ≠ w.heap.size + 1 + 1 + 1)) 3 (.int .i64 (M.unmask k r t)) (by omega : w.heap.size ≠ w.heap.size + 1 + 1 + 1))
      replace HP := Lib.hid (setBlk (setBlkNe HP.out 2 (.int .i64 (M.nv4 k r (M.unmask k r t))) (by omega : u1.heap.size ≠ w.heap.size)) 3 (.int .i64 (M.unmask k r t)) rfl)
      replace H7 := Lib.hid (setBlkNe (setBlk H7.out 2 (.int .i64 (M.nv4 k r (M.unmask k r t))) rfl) 3 (.int .i64 (M.unmask k r t)) (by omega : w.heap.size ≠ u1.heap.size))
      replace B0 := Below.st (Below.st B0 u1.heap.size 2 (.int .i64 (M.nv4 k r (M.unmask k r t))) (by omega)) w.heap.size 3 (.int .i64 (M.unmask k r t)) (by omega)
      obtain ⟨W, hW⟩ : ∃ W, W = (u3.setCell ⟨u1.heap.size, 2, none⟩ (.int .i64 (M.nv4 k r (M.unmask k r t)))).setCell ⟨w.heap.size, 3, none⟩ (.int .i64 (M.unmask k r t)) := ⟨_, rfl⟩
      rw [← hW] at HP HV HA HR H7 B0 ⊢
      clear hW
      have eP0 := cell_of HP.out 0
      have eP1 := cell_of HP.out 1
      have eP2 := cell_of HP.out 2
      have eP3 := cell_of HP.out 3
      have e70 := cell_of H7.out 0
      have e71 := cell_of H7.out 1
      have e72 := cell_of H7.out 2
      have e73 := cell_of H7.out 3
      have eA0 := cell_of HA.out 0
      have eA1 := cell_of HA.out 1
      have eA2 := cell_of HA.out 2
      have eA3 := cell_of HA.out 3
      have eR0 := cell_of HR.out 0
      have eR1 := cell_of HR.out 1
      have eR2 := cell_of HR.out 2
      have eR3 := cell_of HR.out 3
      simp only [List.getElem?_toArray, List.getElem?_cons_zero, List.getElem?_cons_succ] at eP0 eP1 eP2 eP3 e70 e71 e72 e73 eA0 eA1 eA2 eA3 eR0 eR1 eR2 eR3
      have fA := free_of HA.out
      have fR := free_of HR.out
      go_region
      all_goals go_wp2
      all_goals refine bodyPost_ret (v := .tuple #[.agg #[.int .i64 a, .int .i64 b, .int .i64 k, .int .i64 (M.unmask k r t)], .agg #[.int .i64 0, .int .i64 (M.kh k [3, r]), .int .i64 (M.nv4 k r (M.unmask k r t)), .int .i64 0]]) (by simp [results, Try.results17, go_sem, *]) rfl ⟨rfl, ?_⟩
      all_goals exact (by repeat (first | (with_reducible exact B0) | (with_reducible refine Below.st ?_ _ _ _ (by omega)) | (with_reducible refine Below.al ?_ _) | (with_reducible refine Below.dn ?_ _) | (with_reducible refine Below.drew ?_)))
    · rw [hc]
      have HP := Lib.hid (oldBlk (.cells #[.int .i64 0, .int .i64 0, .int .i64 0, .int .i64 0] 48) (oldBlk (.cells #[.int .i64 0, .int .i64 0, .int .i64 0, .int .i64 0] 30) (oldBlk (.cells #[.int .i64 r, .int .i64 t, .int .i64 m, .int .i64 x, .int .i64 y] 45) (newBlk w #[.int .i64 a, .int .i64 b, .int .i64 k, .int .i64 l] 30 w.heap.size rfl))))
      have HV := Lib.hid (oldBlk (.cells #[.int .i64 0, .int .i64 0, .int .i64 0, .int .i64 0] 48) (oldBlk (.cells #[.int .i64 0, .int .i64 0, .int .i64 0, .int .i64 0] 30) (newBlk (w.alloc (.cells #[.int .i64 a, .int .i64 b, .int .i64 k, .int .i64 l] 30)) #[.int .i64 r, .int .i64 t, .int .i64 m, .int .i64 x, .int .i64 y] 45 (w.heap.size + 1) (by simp))))
      have HA := Lib.hid (oldBlk (.cells #[.int .i64 0, .int .i64 0, .int .i64 0, .int .i64 0] 48) (newBlk ((w.alloc (.cells #[.int .i64 a, .int .i64 b, .int .i64 k, .int .i64 l] 30)).alloc (.cells #[.int .i64 r, .int .i64 t, .int .i64 m, .int .i64 x, .int .i64 y] 45)) #[.int .i64 0, .int .i64 0, .int .i64 0, .int .i64 0] 30 (w.heap.size + 1 + 1) (by simp)))
      have HR := Lib.hid (newBlk (((w.alloc (.cells #[.int .i64 a, .int .i64 b, .int .i64 k, .int .i64 l] 30)).alloc (.cells #[.int .i64 r, .int .i64 t, .int .i64 m, .int .i64 x, .int .i64 y] 45)).alloc (.cells #[.int .i64 0, .int .i64 0, .int .i64 0, .int .i64 0] 30)) #[.int .i64 0, .int .i64 0, .int .i64 0, .int .i64 0] 48 (w.heap.size + 1 + 1 + 1) (by simp))
      have B0 := Below.al (Below.al (Below.al (Below.al (Below.refl w.heap.size w) (.cells #[.int .i64 a, .int .i64 b, .int .i64 k, .int .i64 l] 30)) (.cells #[.int .i64 r, .int .i64 t, .int .i64 m, .int .i64 x, .int .i64 y] 45)) (.cells #[.int .i64 0, .int .i64 0, .int .i64 0, .int .i64 0] 30)) (.cells #[.int .i64 0, .int .i64 0, .int .i64 0, .int .i64 0] 48)
      go_enter Try.func17, Try.ntmps17
      go_wp2_with fail
      refine (impl_IsValidUSIM _ _ _ _ _).mono ?_
      rw [hv]
      rintro e u0 ⟨rfl, h0⟩
      have b0 := below_of_alloc2 h0
      clear h0
      replace HP := Lib.hid (cells_of_below b0 HP.out)
      replace HV := Lib.hid (cells_of_below b0 HV.out)
      replace HA := Lib.hid (cells_of_below b0 HA.out)
      replace HR := Lib.hid (cells_of_below b0 HR.out)
      replace B0 := Below.next B0 b0
      clear b0
      have cP0 := cell_of HP.out 0
      have cP1 := cell_of HP.out 1
      have cP2 := cell_of HP.out 2
      have cP3 := cell_of HP.out 3
      have cV0 := cell_of HV.out 0
      have cV1 := cell_of HV.out 1
      have cV2 := cell_of HV.out 2
      have cV3 := cell_of HV.out 3
      have cV4 := cell_of HV.out 4
      simp only [List.getElem?_toArray, List.getElem?_cons_zero, List.getElem?_cons_succ] at cP0 cP1 cP2 cP3 cV0 cV1 cV2 cV3 cV4
      go_wp2_with fail
      refine (impl_VerifyVector _ _ _ _ _ _ _ _ hkw hlw hr ht).mono ?_
      rw [hc]
      rintro e u1 ⟨rfl, b1⟩
      clear cP0 cP1 cP2 cP3 cV0 cV1 cV2 cV3 cV4
      replace HP := Lib.hid (cells_of_below b1 HP.out)
      replace HV := Lib.hid (cells_of_below b1 HV.out)
      replace HA := Lib.hid (cells_of_below b1 HA.out)
      replace HR := Lib.hid (cells_of_below b1 HR.out)
      replace B0 := Below.next B0 b1
      clear b1
      have z7 : w.heap.size + 1 + 1 + 1 < u1.heap.size := (Array.getElem?_eq_some_iff.1 HR.out).1
      replace HP := Lib.hid (oldBlk (.cells #[.int .i64 1, .int .i64 0, .int .i64 0, .int .i64 0] 48) HP.out)
      replace HV := Lib.hid (oldBlk (.cells #[.int .i64 1, .int .i64 0, .int .i64 0, .int .i64 0] 48) HV.out)
      replace HA := Lib.hid (oldBlk (.cells #[.int .i64 1, .int .i64 0, .int .i64 0, .int .i64 0] 48) HA.out)
      replace HR := Lib.hid (oldBlk (.cells #[.int .i64 1, .int .i64 0, .int .i64 0, .int .i64 0] 48) HR.out)
      have H7 := Lib.hid (newBlk u1 #[.int .i64 1, .int .i64 0, .int .i64 0, .int .i64 0] 48 u1.heap.size rfl)
      replace B0 := Below.al B0 (.cells #[.int .i64 1, .int .i64 0, .int .i64 0, .int .i64 0] 48)
      have dP0 := cell_of HP.out 0
      have dP1 := cell_of HP.out 1
      have dP2 := cell_of HP.out 2
      have dP3 := cell_of HP.out 3
      have dV0 := cell_of HV.out 0
      have dV1 := cell_of HV.out 1
      have dV2 := cell_of HV.out 2
      have dV3 := cell_of HV.out 3
      have dV4 := cell_of HV.out 4
      have d70 := cell_of H7.out 0
      have d71 := cell_of H7.out 1
      have d72 := cell_of H7.out 2
      have d73 := cell_of H7.out 3
      simp only [List.getElem?_toArray, List.getElem?_cons_zero, List.getElem?_cons_succ] at dP0 dP1 dP2 dP3 dV0 dV1 dV2 dV3 dV4 d70 d71 d72 d73
      go_wp2
      clear dP0 dP1 dP2 dP3 dV0 dV1 dV2 dV3 dV4 d70 d71 d72 d73
      obtain ⟨W, hW⟩ : ∃ W, W = u1.alloc (.cells #[.int .i64 1, .int .i64 0, .int .i64 0, .int .i64 0] 48) := ⟨_, rfl⟩
      rw [← hW] at HP HV HA HR H7 B0 ⊢
      clear hW
      have eP0 := cell_of HP.out 0
      have eP1 := cell_of HP.out 1
      have eP2 := cell_of HP.out 2
      have eP3 := cell_of HP.out 3
      have e70 := cell_of H7.out 0
      have e71 := cell_of H7.out 1
      have e72 := cell_of H7.out 2
      have e73 := cell_of H7.out 3
      have eA0 := cell_of HA.out 0
      have eA1 := cell_of HA.out 1
      have eA2 := cell_of HA.out 2
      have eA3 := cell_of HA.out 3
      have eR0 := cell_of HR.out 0
      have eR1 := cell_of HR.out 1
      have eR2 := cell_of HR.out 2
      have eR3 := cell_of HR.out 3
      simp only [List.getElem?_toArray, List.getElem?_cons_zero, List.getElem?_cons_succ] at eP0 eP1 eP2 eP3 e70 e71 e72 e73 eA0 eA1 eA2 eA3 eR0 eR1 eR2 eR3
      have fA := free_of HA.out
      have fR := free_of HR.out
      go_region
      all_goals go_wp2
      all_goals refine bodyPost_ret (v := .tuple #[.agg #[.int .i64 a, .int .i64 b, .int .i64 k, .int .i64 l], .agg #[.int .i64 1, .int .i64 0, .int .i64 0, .int .i64 0]]) (by simp [results, Try.results17, go_sem, *]) rfl ⟨rfl, ?_⟩
      all_goals exact (by repeat (first | (with_reducible exact B0) | (with_reducible refine Below.st ?_ _ _ _ (by omega)) | (with_reducible refine Below.al ?_ _) | (with_reducible refine Below.dn ?_ _) | (with_reducible refine Below.drew ?_)))
    · rw [hc]
      have HP := Lib.hid (oldBlk (.cells #[.int .i64 0, .int .i64 0, .int .i64 0, .int .i64 0] 48) (oldBlk (.cells #[.int .i64 0, .int .i64 0, .int .i64 0, .int .i64 0] 30) (oldBlk (.cells #[.int .i64 r, .int .i64 t, .int .i64 m, .int .i64 x, .int .i64 y] 45) (newBlk w #[.int .i64 a, .int .i64 b, .int .i64 k, .int .i64 l] 30 w.heap.size rfl))))
      have HV := Lib.hid (oldBlk (.cells #[.int .i64 0, .int .i64 0, .int .i64 0, .int .i64 0] 48) (oldBlk (.cells #[.int .i64 0, .int .i64 0, .int .i64 0, .int .i64 0] 30) (newBlk (w.alloc (.cells #[.int .i64 a, .int .i64 b, .int .i64 k, .int .i64 l] 30)) #[.int .i64 r, .int .i64 t, .int .i64 m, .int .i64 x, .int .i64 y] 45 (w.heap.size + 1) (by simp))))
      have HA := Lib.hid (oldBlk (.cells #[.int .i64 0, .int .i64 0, .int .i64 0, .int .i64 0] 48) (newBlk ((w.alloc (.cells #[.int .i64 a, .int .i64 b, .int .i64 k, .int .i64 l] 30)).alloc (.cells #[.int .i64 r, .int .i64 t, .int .i64 m, .int .i64 x, .int .i64 y] 45)) #[.int .i64 0, .int .i64 0, .int .i64 0, .int .i64 0] 30 (w.heap.size + 1 + 1) (by simp)))
      have HR := Lib.hid (newBlk (((w.alloc (.cells #[.int .i64 a, .int .i64 b, .int .i64 k, .int .i64 l] 30)).alloc (.cells #[.int .i64 r, .int .i64 t, .int .i64 m, .int .i64 x, .int .i64 y] 45)).alloc (.cells #[.int .i64 0, .int .i64 0, .int .i64 0, .int .i64 0] 30)) #[.int .i64 0, .int .i64 0, .int .i64 0, .int .i64 0] 48 (w.heap.size + 1 + 1 + 1) (by simp))
      have B0 := Below.al (Below.al (Below.al (Below.al (Below.refl w.heap.size w) (.cells #[.int .i64 a, .int .i64 b, .int .i64 k, .int .i64 l] 30)) (.cells #[.int .i64 r, .int .i64 t, .int .i64 m, .int .i64 x, .int .i64 y] 45)) (.cells #[.int .i64 0, .int .i64 0, .int .i64 0, .int .i64 0] 30)) (.cells #[.int .i64 0, .int .i64 0, .int .i64 0, .int .i64 0] 48)
      go_enter Try.func17, Try.ntmps17
      go_wp2_with fail
      refine (impl_IsValidUSIM _ _ _ _ _).mono ?_
      rw [hv]
      rintro e u0 ⟨rfl, h0⟩
      have b0 := below_of_alloc2 h0
      clear h0
      replace HP := Lib.hid (cells_of_below b0 HP.out)
      replace HV := Lib.hid (cells_of_below b0 HV.out)
      replace HA := Lib.hid (cells_of_below b0 HA.out)
      replace HR := Lib.hid (cells_of_below b0 HR.out)
      replace B0 := Below.next B0 b0
      clear b0
      have cP0 := cell_of HP.out 0
      have cP1 := cell_of HP.out 1
      have cP2 := cell_of HP.out 2
      have cP3 := cell_of HP.out 3
      have cV0 := cell_of HV.out 0
      have cV1 := cell_of HV.out 1
      have cV2 := cell_of HV.out 2
      have cV3 := cell_of HV.out 3
      have cV4 := cell_of HV.out 4
      simp only [List.getElem?_toArray, List.getElem?_cons_zero, List.getElem?_cons_succ] at cP0 cP1 cP2 cP3 cV0 cV1 cV2 cV3 cV4
      go_wp2_with fail
      refine (impl_VerifyVector _ _ _ _ _ _ _ _ hkw hlw hr ht).mono ?_
      rw [hc]
      rintro e u1 ⟨rfl, b1⟩
      clear cP0 cP1 cP2 cP3 cV0 cV1 cV2 cV3 cV4
      replace HP := Lib.hid (cells_of_below b1 HP.out)
      replace HV := Lib.hid (cells_of_below b1 HV.out)
      replace HA := Lib.hid (cells_of_below b1 HA.out)
      replace HR := Lib.hid (cells_of_below b1 HR.out)
      replace B0 := Below.next B0 b1
      clear b1
      have z7 : w.heap.size + 1 + 1 + 1 < u1.heap.size := (Array.getElem?_eq_some_iff.1 HR.out).1
      replace HP := Lib.hid (oldBlk (.cells #[.int .i64 2, .int .i64 0, .int .i64 0, .int .i64 0] 48) HP.out)
      replace HV := Lib.hid (oldBlk (.cells #[.int .i64 2, .int .i64 0, .int .i64 0, .int .i64 0] 48) HV.out)
      replace HA := Lib.hid (oldBlk (.cells #[.int .i64 2, .int .i64 0, .int .i64 0, .int .i64 0] 48) HA.out)
      replace HR := Lib.hid (oldBlk (.cells #[.int .i64 2, .int .i64 0, .int .i64 0, .int .i64 0] 48) HR.out)
      have H7 := Lib.hid (newBlk u1 #[.int .i64 2, .int .i64 0, .int .i64 0, .int .i64 0] 48 u1.heap.size rfl)
      replace B0 := Below.al B0 (.cells #[.int .i64 2, .int .i64 0, .int .i64 0, .int .i64 0] 48)
      have dP0 := cell_of HP.out 0
      have dP1 := cell_of HP.out 1
      have dP2 := cell_of HP.out 2
      have dP3 := cell_of HP.out 3
      have dV0 := cell_of HV.out 0
      have dV1 := cell_of HV.out 1
      have dV2 := cell_of HV.out 2
      have dV3 := cell_of HV.out 3
      have dV4 := cell_of HV.out 4
      have d70 := cell_of H7.out 0
      have d71 := cell_of H7.out 1
      have d72 := cell_of H7.out 2
      have d73 := cell_of H7.out 3
      simp only [List.getElem?_toArray, List.getElem?_cons_zero, List.getElem?_cons_succ] at dP0 dP1 dP2 dP3 dV0 dV1 dV2 dV3 dV4 d70 d71 d72 d73
      go_wp2_with fail
      refine (impl_ResyncToken _ _ _ _ hkw hr hlw).mono ?_
      rintro e u2 ⟨rfl, b2⟩
      clear dP0 dP1 dP2 dP3 dV0 dV1 dV2 dV3 dV4 d70 d71 d72 d73
      replace HP := Lib.hid (cells_of_below b2 HP.out)
      replace HV := Lib.hid (cells_of_below b2 HV.out)
      replace HA := Lib.hid (cells_of_below b2 HA.out)
      replace HR := Lib.hid (cells_of_below b2 HR.out)
      replace H7 := Lib.hid (cells_of_below b2 H7.out)
      replace B0 := Below.next B0 b2
      clear b2
      have z8 : u1.heap.size < u2.heap.size := (Array.getElem?_eq_some_iff.1 H7.out).1
      have g70 := cell_of H7.out 0
      have g71 := cell_of H7.out 1
      have g72 := cell_of H7.out 2
      have g73 := cell_of H7.out 3
      simp only [List.getElem?_toArray, List.getElem?_cons_zero, List.getElem?_cons_succ] at g70 g71 g72 g73
      have f7 := free_of H7.out
      go_wp2
      clear g70 g71 g72 g73 f7
      replace HP := Lib.hid (setBlkNe HP.out 3 (.int .i64 (M.token k r l)) (by omega : u1.heap.size ≠ w.heap.size))
      replace HV := Lib.hid (setBlkNe HV.out 3 (.int .i64 (M.token k r l)) (by omega : u1.heap.size ≠ w.heap.size + 1))
      replace HA := Lib.hid (setBlkNe HA.out 3 (.int .i64 (M.token k r l)) (by omega : u1.heap.size ≠ w.heap.size + 1 + 1))
      replace HR := Lib.hid (setBlkNe HR.out 3 (.int .i64 (M.token k r l)) (by omega : u1.heap.size ≠ w.heap.size + 1 + 1 + 1))
      replace H7 := Lib.hid (setBlk H7.out 3 (.int .i64 (M.token k r l)) rfl)
      replace B0 := Below.st B0 u1.heap.size 3 (.int .i64 (M.token k r l)) (by omega)
      obtain ⟨W, hW⟩ : ∃ W, W = u2.setCell ⟨u1.heap.size, 3, none⟩ (.int .i64 (M.token k r l)) := ⟨_, rfl⟩
      rw [← hW] at HP HV HA HR H7 B0 ⊢
      clear hW
      have eP0 := cell_of HP.out 0
      have eP1 := cell_of HP.out 1
      have eP2 := cell_of HP.out 2
      have eP3 := cell_of HP.out 3
      have e70 := cell_of H7.out 0
      have e71 := cell_of H7.out 1
      have e72 := cell_of H7.out 2
      have e73 := cell_of H7.out 3
      have eA0 := cell_of HA.out 0
      have eA1 := cell_of HA.out 1
      have eA2 := cell_of HA.out 2
      have eA3 := cell_of HA.out 3
      have eR0 := cell_of HR.out 0
      have eR1 := cell_of HR.out 1
      have eR2 := cell_of HR.out 2
      have eR3 := cell_of HR.out 3
      simp only [List.getElem?_toArray, List.getElem?_cons_zero, List.getElem?_cons_succ] at eP0 eP1 eP2 eP3 e70 e71 e72 e73 eA0 eA1 eA2 eA3 eR0 eR1 eR2 eR3
      have fA := free_of HA.out
      have fR := free_of HR.out
      go_region
      all_goals go_wp2
      all_goals refine bodyPost_ret (v := .tuple #[.agg #[.int .i64 a, .int .i64 b, .int .i64 k, .int .i64 l], .agg #[.int .i64 2, .int .i64 0, .int .i64 0, .int .i64 (M.token k r l)]]) (by simp [results, Try.results17, go_sem, *]) rfl ⟨rfl, ?_⟩
      all_goals exact (by repeat (first | (with_reducible exact B0) | (with_reducible refine Below.st ?_ _ _ _ (by omega)) | (with_reducible refine Below.al ?_ _) | (with_reducible refine Below.dn ?_ _) | (with_reducible refine Below.drew ?_)))
    · rw [hc]
      have HP := Lib.hid (oldBlk (.cells #[.int .i64 0, .int .i64 0, .int .i64 0, .int .i64 0] 48) (oldBlk (.cells #[.int .i64 0, .int .i64 0, .int .i64 0, .int .i64 0] 30) (oldBlk (.cells #[.int .i64 r, .int .i64 t, .int .i64 m, .int .i64 x, .int .i64 y] 45) (newBlk w #[.int .i64 a, .int .i64 b, .int .i64 k, .int .i64 l] 30 w.heap.size rfl))))
      have HV := Lib.hid (oldBlk (.cells #[.int .i64 0, .int .i64 0, .int .i64 0, .int .i64 0] 48) (oldBlk (.cells #[.int .i64 0, .int .i64 0, .int .i64 0, .int .i64 0] 30) (newBlk (w.alloc (.cells #[.int .i64 a, .int .i64 b, .int .i64 k, .int .i64 l] 30)) #[.int .i64 r, .int .i64 t, .int .i64 m, .int .i64 x, .int .i64 y] 45 (w.heap.size + 1) (by simp))))
      have HA := Lib.hid (oldBlk (.cells #[.int .i64 0, .int .i64 0, .int .i64 0, .int .i64 0] 48) (newBlk ((w.alloc (.cells #[.int .i64 a, .int .i64 b, .int .i64 k, .int .i64 l] 30)).alloc (.cells #[.int .i64 r, .int .i64 t, .int .i64 m, .int .i64 x, .int .i64 y] 45)) #[.int .i64 0, .int .i64 0, .int .i64 0, .int .i64 0] 30 (w.heap.size + 1 + 1) (by simp)))
      have HR := Lib.hid (newBlk (((w.alloc (.cells #[.int .i64 a, .int .i64 b, .int .i64 k, .int .i64 l] 30)).alloc (.cells #[.int .i64 r, .int .i64 t, .int .i64 m, .int .i64 x, .int .i64 y] 45)).alloc (.cells #[.int .i64 0, .int .i64 0, .int .i64 0, .int .i64 0] 30)) #[.int .i64 0, .int .i64 0, .int .i64 0, .int .i64 0] 48 (w.heap.size + 1 + 1 + 1) (by simp))
      have B0 := Below.al (Below.al (Below.al (Below.al (Below.refl w.heap.size w) (.cells #[.int .i64 a, .int .i64 b, .int .i64 k, .int .i64 l] 30)) (.cells #[.int .i64 r, .int .i64 t, .int .i64 m, .int .i64 x, .int .i64 y] 45)) (.cells #[.int .i64 0, .int .i64 0, .int .i64 0, .int .i64 0] 30)) (.cells #[.int .i64 0, .int .i64 0, .int .i64 0, .int .i64 0] 48)
      go_enter Try.func17, Try.ntmps17
      go_wp2_with fail
      refine (impl_IsValidUSIM _ _ _ _ _).mono ?_
      rw [hv]
      rintro e u0 ⟨rfl, h0⟩
      have b0 := below_of_alloc2 h0
      clear h0
      replace HP := Lib.hid (cells_of_below b0 HP.out)
      replace HV := Lib.hid (cells_of_below b0 HV.out)
      replace HA := Lib.hid (cells_of_below b0 HA.out)
      replace HR := Lib.hid (cells_of_below b0 HR.out)
      replace B0 := Below.next B0 b0
      clear b0
      have cP0 := cell_of HP.out 0
      have cP1 := cell_of HP.out 1
      have cP2 := cell_of HP.out 2
      have cP3 := cell_of HP.out 3
      have cV0 := cell_of HV.out 0
      have cV1 := cell_of HV.out 1
      have cV2 := cell_of HV.out 2
      have cV3 := cell_of HV.out 3
      have cV4 := cell_of HV.out 4
      simp only [List.getElem?_toArray, List.getElem?_cons_zero, List.getElem?_cons_succ] at cP0 cP1 cP2 cP3 cV0 cV1 cV2 cV3 cV4
      go_wp2_with fail
      refine (impl_VerifyVector _ _ _ _ _ _ _ _ hkw hlw hr ht).mono ?_
      rw [hc]
      rintro e u1 ⟨rfl, b1⟩
      clear cP0 cP1 cP2 cP3 cV0 cV1 cV2 cV3 cV4
      replace HP := Lib.hid (cells_of_below b1 HP.out)
      replace HV := Lib.hid (cells_of_below b1 HV.out)
      replace HA := Lib.hid (cells_of_below b1 HA.out)
      replace HR := Lib.hid (cells_of_below b1 HR.out)
      replace B0 := Below.next B0 b1
      clear b1
      have z7 : w.heap.size + 1 + 1 + 1 < u1.heap.size := (Array.getElem?_eq_some_iff.1 HR.out).1
      replace HP := Lib.hid (oldBlk (.cells #[.int .i64 3, .int .i64 0, .int .i64 0, .int .i64 0] 48) HP.out)
      replace HV := Lib.hid (oldBlk (.cells #[.int .i64 3, .int .i64 0, .int .i64 0, .int .i64 0] 48) HV.out)
      replace HA := Lib.hid (oldBlk (.cells #[.int .i64 3, .int .i64 0, .int .i64 0, .int .i64 0] 48) HA.out)
      replace HR := Lib.hid (oldBlk (.cells #[.int .i64 3, .int .i64 0, .int .i64 0, .int .i64 0] 48) HR.out)
      have H7 := Lib.hid (newBlk u1 #[.int .i64 3, .int .i64 0, .int .i64 0, .int .i64 0] 48 u1.heap.size rfl)
      replace B0 := Below.al B0 (.cells #[.int .i64 3, .int .i64 0, .int .i64 0, .int .i64 0] 48)
      have dP0 := cell_of HP.out 0
      have dP1 := cell_of HP.out 1
      have dP2 := cell_of HP.out 2
      have dP3 := cell_of HP.out 3
      have dV0 := cell_of HV.out 0
      have dV1 := cell_of HV.out 1
      have dV2 := cell_of HV.out 2
      have dV3 := cell_of HV.out 3
      have dV4 := cell_of HV.out 4
      have d70 := cell_of H7.out 0
      have d71 := cell_of H7.out 1
      have d72 := cell_of H7.out 2
      have d73 := cell_of H7.out 3
      simp only [List.getElem?_toArray, List.getElem?_cons_zero, List.getElem?_cons_succ] at dP0 dP1 dP2 dP3 dV0 dV1 dV2 dV3 dV4 d70 d71 d72 d73
      go_wp2_with fail
      refine (impl_ResyncToken _ _ _ _ hkw hr hlw).mono ?_
      rintro e u2 ⟨rfl, b2⟩
      clear dP0 dP1 dP2 dP3 dV0 dV1 dV2 dV3 dV4 d70 d71 d72 d73
      replace HP := Lib.hid (cells_of_below b2 HP.out)
      replace HV := Lib.hid (cells_of_below b2 HV.out)
      replace HA := Lib.hid (cells_of_below b2 HA.out)
      replace HR := Lib.hid (cells_of_below b2 HR.out)
      replace H7 := Lib.hid (cells_of_below b2 H7.out)
      replace B0 := Below.next B0 b2
      clear b2
      have z8 : u1.heap.size < u2.heap.size := (Array.getElem?_eq_some_iff.1 H7.out).1
      have g70 := cell_of H7.out 0
      have g71 := cell_of H7.out 1
      have g72 := cell_of H7.out 2
      have g73 := cell_of H7.out 3
      simp only [List.getElem?_toArray, List.getElem?_cons_zero, List.getElem?_cons_succ] at g70 g71 g72 g73
      have f7 := free_of H7.out
      go_wp2
      clear g70 g71 g72 g73 f7
      replace HP := Lib.hid (setBlkNe HP.out 3 (.int .i64 (M.token k r l)) (by omega : u1.heap.size ≠ w.heap.size))
      replace HV := Lib.hid (setBlkNe HV.out 3 (.int .i64 (M.token k r l)) (by omega : u1.heap.size ≠ w.heap.size + 1))
      replace HA := Lib.hid (setBlkNe HA.out 3 (.int .i64 (M.token k r l)) (by omega : u1.heap.size ≠ w.heap.size + 1 + 1))
      replace HR := Lib.hid (setBlkNe HR.out 3 (.int .i64 (M.token k r l)) (by omega : u1.heap.size ≠ w.heap.size + 1 + 1 + 1))
      replace H7 := Lib.hid (setBlk H7.out 3 (.int .i64 (M.token k r l)) rfl)
      replace B0 := Below.st B0 u1.heap.size 3 (.int .i64 (M.token k r l)) (by omega)
      obtain ⟨W, hW⟩ : ∃ W, W = u2.setCell ⟨u1.heap.size, 3, none⟩ (.int .i64 (M.token k r l)) := ⟨_, rfl⟩
      rw [← hW] at HP HV HA HR H7 B0 ⊢
      clear hW
      have eP0 := cell_of HP.out 0
      have eP1 := cell_of HP.out 1
      have eP2 := cell_of HP.out 2
      have eP3 := cell_of HP.out 3
      have e70 := cell_of H7.out 0
      have e71 := cell_of H7.out 1
      have e72 := cell_of H7.out 2
      have e73 := cell_of H7.out 3
      have eA0 := cell_of HA.out 0
      have eA1 := cell_of HA.out 1
      have eA2 := cell_of HA.out 2
      have eA3 := cell_of HA.out 3
      have eR0 := cell_of HR.out 0
      have eR1 := cell_of HR.out 1
      have eR2 := cell_of HR.out 2
      have eR3 := cell_of HR.out 3
      simp only [List.getElem?_toArray, List.getElem?_cons_zero, List.getElem?_cons_succ] at eP0 eP1 eP2 eP3 e70 e71 e72 e73 eA0 eA1 eA2 eA3 eR0 eR1 eR2 eR3
      have fA := free_of HA.out
      have fR := free_of HR.out
      go_region
      all_goals go_wp2
      all_goals refine bodyPost_ret (v := .tuple #[.agg #[.int .i64 a, .int .i64 b, .int .i64 k, .int .i64 l], .agg #[.int .i64 3, .int .i64 0, .int .i64 0, .int .i64 (M.token k r l)]]) (by simp [results, Try.results17, go_sem, *]) rfl ⟨rfl, ?_⟩
      all_goals exact (by repeat (first | (with_reducible exact B0) | (with_reducible refine Below.st ?_ _ _ _ (by omega)) | (with_reducible refine Below.al ?_ _) | (with_reducible refine Below.dn ?_ _) | (with_reducible refine Below.drew ?_)))

end Go.Proofs.Ytfenmicakmjelaa
