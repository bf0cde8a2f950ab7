/-
  For all inputs (longer ones than 1048576 bytes the law passes by itself) a valid card and a valid record of the same identity and key authenticate each other, whatever their sequence numbers, and are in step afterwards. No condition.
-/
import Derived.Test.YtfenmicakmjelaaRows
import Derived.Test.YtfenmicakmjelaaDraw6c
namespace Go.Proofs.Ytfenmicakmjelaa.lawFnAuthentication
open Go.Proofs.Ytfenmicakmjelaa
open Go.ChangeShapes Go.WideShapes Go.ChangeAt Go.RowKit
open Go.ChangeMaps (open_string shut_string)
set_option linter.unusedVariables false

theorem neqSid (a b c d : Int) (w : World) : (binOp .neq 28 (.agg #[.int .i64 a, .int .i64 b]) (.agg #[.int .i64 c, .int .i64 d])).run Try.prog w = .ok (.bool (!(a == c && b == d))) w := by
  have u3 := Try.underlying3
  have a3 := Try.isAgg3
  have z3 := Try.sizeOf3
  have hS : Try.prog.underlying 28 = some (.struct (Try.prog.fieldsOf 28)) := by kernel_rfl
  have hp : Try.prog.stoodInHeld 28 = false := by kernel_rfl
  rw [run_neq_struct, show (10000 : Nat) = 9999 + 1 from rfl, run_equalIn_agg w 9999 28 _ _ hS hp]
  simp only [Program.fieldsOf, Try.underlying28]
  go_simp
  by_cases h1 : a = c <;> by_cases h2 : b = d <;> simp [h1, h2]
theorem nv_in (k r q : Int) (h : 1 ≤ q ∧ q ≤ 999999) : M.nv0 r q = r ∧ M.unmask k r (M.nv1 k r q) = q ∧ M.nv2 k r q = M.kh k [2, r, q] ∧ M.nv3 k r q = M.kh k [3, r] ∧ 1 ≤ M.nv4 k r q ∧ M.nv4 k r q ≤ 2147483646 := by
  have hin : M.inR q 0 999999 = true := M.inR_true (by omega)
  have e1 : M.nv1 k r q = (q + M.mask k r) % 1000000 := by unfold M.nv1; rw [if_pos hin]
  have hm := M.mask_bd k r
  have a4 := M.kh_bd k [4, r, q]
  have p4 := M.pos1_bd _ a4.1 a4.2
  have e4 : M.nv4 k r q = M.pos1 (M.kh k [4, r, q]) := by unfold M.nv4; rw [if_pos hin]
  refine ⟨by unfold M.nv0; rw [if_pos hin], ?_, by unfold M.nv2; rw [if_pos hin], by unfold M.nv3; rw [if_pos hin], by omega, by omega⟩
  rw [e1]
  unfold M.unmask
  omega
theorem vCard_parts {a b k l : Int} (h : M.vCard a b k l = true) : 0 ≤ l ∧ l ≤ 999999 ∧ ∀ u, 0 ≤ u → u ≤ 999999 → M.vCard a b k u = true := by
  unfold M.vCard at h ⊢
  simp only [Bool.and_eq_true] at h ⊢
  have h3 := (M.inR_iff _ _ _).1 h.2.2
  exact ⟨h3.1, h3.2, fun u h0 h1 => ⟨h.1, h.2.1, M.inR_true ⟨h0, h1⟩⟩⟩
theorem na_in {a b k s r : Int} (h : M.vCard a b k s = true) (hs : s ≤ 999998) : M.nSeq a b k s = s + 1 ∧ M.na0 a b k s r = M.nv0 r (s + 1) ∧ M.na1 a b k s r = M.nv1 k r (s + 1) ∧ M.na2 a b k s r = M.nv2 k r (s + 1) ∧ M.na3 a b k s r = M.nv3 k r (s + 1) ∧ M.na4 a b k s r = M.nv4 k r (s + 1) := by
  have hn : M.nOk a b k s = true := by unfold M.nOk; rw [h]; simp; omega
  unfold M.nSeq M.na0 M.na1 M.na2 M.na3 M.na4
  exact ⟨if_pos hn, if_pos hn, if_pos hn, if_pos hn, if_pos hn, if_pos hn⟩
theorem tok_back (k r l : Int) (h0 : 0 ≤ l) (h1 : l ≤ 999999) : M.pOk k r (M.token k r l) = true ∧ M.token k r l % 1000000 = l := by
  have e0 : M.token k r l = 1000000 * (M.kh k [5, r, l] % 1000) + l := by unfold M.token; rw [if_pos (M.inR_true ⟨h0, h1⟩)]
  have e : M.token k r l % 1000000 = l := by rw [e0]; omega
  exact ⟨by unfold M.pOk; rw [e]; simp, e⟩
/-- A card and a record that are right authenticate each other: what both tries give. -/
theorem auth_good {a b k l s r : Int} (h1 : M.vCard a b k l = true) (h2 : M.vCard a b k s = true) (hl : l ≤ 999994) (hs : s ≤ 999994) (r0 : 0 ≤ r) (r1 : r ≤ 100000) :
    ∃ s1 v0 v1 v2 v3 v4 c1 l1 e1 y1 t1 s2 s3 p0 p1 p2 p3 p4 c2 l2 e2 y2 t2 lf kf : Int, Try1 a b k l a b k s r s1 v0 v1 v2 v3 v4 c1 l1 e1 y1 t1 ∧ s2 = M.rsSeq k s1 r t1 ∧ Try1 a b k l1 a b k s2 (wrap64 (r + 1)) s3 p0 p1 p2 p3 p4 c2 l2 e2 y2 t2 ∧
      (if c1 = 2 ∨ c1 = 3 then lf = l2 ∧ lf = s3 ∧ kf = endKey c2 e2 p3 y2 else lf = l1 ∧ lf = s1 ∧ kf = endKey c1 e1 v3 y1) ∧ l < lf ∧ (0 ≤ lf ∧ lf ≤ 999999) ∧ 1 ≤ kf ∧ kf ≤ 2147483646 := by
  obtain ⟨l0, l9, hvl⟩ := vCard_parts h1
  obtain ⟨s0, s9, hvs⟩ := vCard_parts h2
  obtain ⟨n0, n1, n2, n3, n4, n5⟩ := na_in (r := r) h2 (by omega)
  obtain ⟨f0, f1, f2, f3, f4, f5⟩ := nv_in k r (s + 1) (by omega)
  rw [f0] at n1
  rw [f2] at n3
  rw [f3] at n4
  have hc : M.rcCode a b k l (M.na0 a b k s r) (M.na1 a b k s r) (M.na2 a b k s r) = if s + 1 ≤ l then 2 else if l + 1000 < s + 1 then 3 else 0 := by
    unfold M.rcCode M.verify
    rw [if_pos h1, n1, n2, n3, f1, if_pos rfl]
  by_cases hok : ¬ (s + 1 ≤ l) ∧ ¬ (l + 1000 < s + 1)
  · rw [if_neg hok.1, if_neg hok.2] at hc
    have hl1 : M.rcLast 0 k l (M.na0 a b k s r) (M.na1 a b k s r) = s + 1 := by unfold M.rcLast; rw [if_pos rfl, n1, n2, f1]
    have he1 : M.rcRes 0 k (M.na0 a b k s r) = M.na3 a b k s r := by unfold M.rcRes; rw [if_pos rfl, n1, n4]
    have hy1 : M.rcKey 0 k (M.na0 a b k s r) (M.na1 a b k s r) = M.nv4 k r (s + 1) := by unfold M.rcKey; rw [if_pos rfl, n1, n2, f1]
    refine ⟨_, _, _, _, _, _, _, _, _, _, _, _, _, _, _, _, _, _, _, _, _, _, _, s + 1, M.nv4 k r (s + 1), ⟨rfl, rfl, rfl, rfl, rfl, rfl, rfl, rfl, rfl, rfl, rfl⟩, rfl, ⟨rfl, rfl, rfl, rfl, rfl, rfl, rfl, rfl, rfl, rfl, rfl⟩, ?_, by omega, ⟨by omega, by omega⟩, f4, f5⟩
    rw [hc, if_neg (by omega), hl1, he1, hy1, n0]
    refine ⟨rfl, rfl, ?_⟩
    unfold endKey
    rw [if_pos ⟨rfl, rfl⟩]
  · have hc23 : (if s + 1 ≤ l then (2 : Int) else if l + 1000 < s + 1 then 3 else 0) = 2 ∨ (if s + 1 ≤ l then (2 : Int) else if l + 1000 < s + 1 then 3 else 0) = 3 := by
      split
      · exact .inl rfl
      · split
        · exact .inr rfl
        · exact absurd ⟨‹_›, ‹_›⟩ hok
    rw [← hc] at hc23
    obtain ⟨c, hcc⟩ : ∃ c, c = M.rcCode a b k l (M.na0 a b k s r) (M.na1 a b k s r) (M.na2 a b k s r) := ⟨_, rfl⟩
    rw [← hcc] at hc23
    have hne : ¬ c = 0 := by omega
    have hl1 : M.rcLast c k l (M.na0 a b k s r) (M.na1 a b k s r) = l := by unfold M.rcLast; rw [if_neg hne]
    have ht1 : M.rcTok c k l (M.na0 a b k s r) = M.token k r l := by unfold M.rcTok; rw [if_pos hc23, n1]
    obtain ⟨tk1, tk2⟩ := tok_back k r l l0 l9
    have hr2 : M.rsSeq k (s + 1) r (M.token k r l) = l := by
      have hw : wrap64 (s + 1 - 1000) = s + 1 - 1000 := IntWalk.wrap64_in _ (by omega)
      unfold M.rsSeq
      rw [if_pos tk1, tk2, hw]
      split
      · rfl
      · split
        · rfl
        · omega
    have hwr : wrap64 (r + 1) = r + 1 := IntWalk.wrap64_in _ (by omega)
    obtain ⟨m0, m1, m2, m3, m4, m5⟩ := na_in (r := r + 1) h1 (by omega)
    obtain ⟨g0, g1, g2, g3, g4, g5⟩ := nv_in k (r + 1) (l + 1) (by omega)
    rw [g0] at m1
    rw [g2] at m3
    rw [g3] at m4
    have hd : M.rcCode a b k l (M.na0 a b k l (r + 1)) (M.na1 a b k l (r + 1)) (M.na2 a b k l (r + 1)) = 0 := by
      unfold M.rcCode M.verify
      rw [if_pos h1, m1, m2, m3, g1, if_pos rfl, if_neg (by omega), if_neg (by omega)]
    have hl2 : M.rcLast 0 k l (M.na0 a b k l (r + 1)) (M.na1 a b k l (r + 1)) = l + 1 := by unfold M.rcLast; rw [if_pos rfl, m1, m2, g1]
    have he2 : M.rcRes 0 k (M.na0 a b k l (r + 1)) = M.na3 a b k l (r + 1) := by unfold M.rcRes; rw [if_pos rfl, m1, m4]
    have hy2 : M.rcKey 0 k (M.na0 a b k l (r + 1)) (M.na1 a b k l (r + 1)) = M.nv4 k (r + 1) (l + 1) := by unfold M.rcKey; rw [if_pos rfl, m1, m2, g1]
    refine ⟨s + 1, _, _, _, _, _, c, l, _, _, M.token k r l, l, l + 1, _, _, _, _, _, 0, l + 1, _, _, _, l + 1, M.nv4 k (r + 1) (l + 1), ⟨n0.symm, rfl, rfl, rfl, rfl, rfl, hcc, hl1.symm, rfl, rfl, ht1.symm⟩, hr2.symm, ⟨m0.symm, rfl, rfl, rfl, rfl, rfl, ?_, ?_, rfl, rfl, rfl⟩, ?_, by omega, ⟨by omega, by omega⟩, g4, g5⟩
    · rw [hwr]; exact hd.symm
    · rw [hwr]; exact hl2.symm
    · rw [if_pos hc23]
      refine ⟨rfl, rfl, ?_⟩
      rw [hwr, he2, hy2]
      unfold endKey
      rw [if_pos ⟨rfl, rfl⟩]
theorem sync_good {a b k l s : Int} (h : M.vCard a b k l = true) (h0 : 0 ≤ s ∧ s ≤ 999999) (_ : 0 ≤ s) : M.sync a b k s a b k s = true := by
  have hv := (vCard_parts h).2.2 s h0.1 h0.2
  unfold M.sync
  rw [hv]
  simp
  exact M.inR_true (by omega)

set_option maxRecDepth 100000 in
set_option maxHeartbeats 8000000 in
theorem walk (v0 : Value) (z0 : List Int) (w : World) (r0 : Rd .u8 w v0 z0) (h0 : ∀ n ∈ z0, (Lit.int .u8 n).wf = true) :
    Calls Try.prog 5 #[v0] w fun e w' => e = .returned (.bool true) ∧ Below w.heap.size w w' := by
  obtain ⟨A0, c0, rfl, hc0, hm0, -⟩ := id r0
  unfold maxLen at hm0
  by_cases hl : z0.length ≤ 1048576
  · skip
    go_enter Try.func5, Try.ntmps5
    have B := Below.refl w.heap.size w
    go_wp2_with fail
    refine (laws_big _ _ _ _ hl).mono ?_
    rintro e w' ⟨rfl, rfl⟩
    have B0 := B
    clear B
    go_wp2_with fail
    refine (spec_DrawCard _ z0 _ (r0.below B0) h0 hl).mono ?_
    rintro e w1 ⟨a, b, k, l, a', b', k', s, r, ⟨⟨ya, yb, yk, yl⟩, ya', yb', yk', ys⟩, ⟨r0', r1'⟩, rfl, b1⟩
    replace B0 := Below.next B0 b1
    clear b1 h0 r0
    cases hV1 : M.vCard a b k l
    · go_wp2_with fail
      refine (spec_IsValidUSIM a b k l _).mono ?_
      rw [hV1]
      rintro e w2 ⟨rfl, ha2⟩
      have b2 := below_of_alloc2 ha2
      clear ha2
      have NA : Hid (w2.heap[w1.heap.size]? = some (.cells #[.int .i64 a, .int .i64 b, .int .i64 k, .int .i64 l] 30 (0, 0))) := Lib.hid (cells_of_below b2 (by (repeat (first | ((with_reducible refine newBlk _ _ _ _ ?_); (first | rfl | (simp; done))) | ((with_reducible refine bxSetNe ?_ _ _ ?_); (rotate_left); (first | omega | (simp; omega))) | (with_reducible refine drewBlk ?_) | (with_reducible refine oldBlk _ ?_)))))
      have NC : Hid (w2.heap[w1.heap.size + 1]? = some (.cells #[.int .i64 a', .int .i64 b', .int .i64 k', .int .i64 s] 32 (0, 0))) := Lib.hid (cells_of_below b2 (by (repeat (first | ((with_reducible refine newBlk _ _ _ _ ?_); (first | rfl | (simp; done))) | ((with_reducible refine bxSetNe ?_ _ _ ?_); (rotate_left); (first | omega | (simp; omega))) | (with_reducible refine drewBlk ?_) | (with_reducible refine oldBlk _ ?_)))))
      have NO : Below w.heap.size w w2 := Below.next (by (repeat (first | (with_reducible exact B0) | ((with_reducible refine Below.st ?_ _ _ _ ?_); (rotate_left); (first | omega | (simp; omega))) | (with_reducible refine Below.al ?_ _) | (with_reducible refine Below.drew ?_)))) b2
      clear B0
      have HA := NA
      have HC := NC
      have B0 := NO
      clear NA NC NO
      have lA_2 : w1.heap.size < w2.heap.size := (Array.getElem?_eq_some_iff.1 HA.out).1
      have lC_2 : w1.heap.size + 1 < w2.heap.size := (Array.getElem?_eq_some_iff.1 HC.out).1
      have zz2 := B0.size
      clear b2
      have cA0 := cell_of HA.out 0
      have cA1 := cell_of HA.out 1
      have cA2 := cell_of HA.out 2
      have cA3 := cell_of HA.out 3
      have cC0 := cell_of HC.out 0
      have cC1 := cell_of HC.out 1
      have cC2 := cell_of HC.out 2
      have cC3 := cell_of HC.out 3
      simp only [List.getElem?_toArray, List.getElem?_cons_zero, List.getElem?_cons_succ] at cA0 cA1 cA2 cA3 cC0 cC1 cC2 cC3
      have fA := free_of HA.out
      have fC := free_of HC.out
      have sne := bxNe
      have dAC : ¬ w1.heap.size = w1.heap.size + 1 := by omega
      have dCA : ¬ w1.heap.size + 1 = w1.heap.size := by omega
      go_wp2_with fail
      refine (impl_IsValidUSIM a b k l _).mono ?_
      rw [hV1]
      rintro e w3 ⟨rfl, ha3⟩
      have b3 := below_of_alloc2 ha3
      clear ha3
      have NA : Hid (w3.heap[w1.heap.size]? = some (.cells #[.int .i64 a, .int .i64 b, .int .i64 k, .int .i64 l] 30 (0, 0))) := Lib.hid (cells_of_below b3 (by (repeat (first | (with_reducible exact HA.out) | (with_reducible exact HC.out) | ((with_reducible refine newBlk _ _ _ _ ?_); (first | rfl | (simp; done))) | ((with_reducible refine bxSetNe ?_ _ _ ?_); (rotate_left); (first | omega | (simp; omega))) | (with_reducible refine drewBlk ?_) | (with_reducible refine oldBlk _ ?_)))))
      have NC : Hid (w3.heap[w1.heap.size + 1]? = some (.cells #[.int .i64 a', .int .i64 b', .int .i64 k', .int .i64 s] 32 (0, 0))) := Lib.hid (cells_of_below b3 (by (repeat (first | (with_reducible exact HA.out) | (with_reducible exact HC.out) | ((with_reducible refine newBlk _ _ _ _ ?_); (first | rfl | (simp; done))) | ((with_reducible refine bxSetNe ?_ _ _ ?_); (rotate_left); (first | omega | (simp; omega))) | (with_reducible refine drewBlk ?_) | (with_reducible refine oldBlk _ ?_)))))
      have NO : Below w.heap.size w w3 := Below.next (by (repeat (first | (with_reducible exact B0) | ((with_reducible refine Below.st ?_ _ _ _ ?_); (rotate_left); (first | omega | (simp; omega))) | (with_reducible refine Below.al ?_ _) | (with_reducible refine Below.drew ?_)))) b3
      clear cA0 cA1 cA2 cA3 cC0 cC1 cC2 cC3 fA fC sne dAC dCA HA HC B0
      have HA := NA
      have HC := NC
      have B0 := NO
      clear NA NC NO
      have lA_3 : w1.heap.size < w3.heap.size := (Array.getElem?_eq_some_iff.1 HA.out).1
      have lC_3 : w1.heap.size + 1 < w3.heap.size := (Array.getElem?_eq_some_iff.1 HC.out).1
      have zz3 := B0.size
      clear b3
      have cA0 := cell_of HA.out 0
      have cA1 := cell_of HA.out 1
      have cA2 := cell_of HA.out 2
      have cA3 := cell_of HA.out 3
      have cC0 := cell_of HC.out 0
      have cC1 := cell_of HC.out 1
      have cC2 := cell_of HC.out 2
      have cC3 := cell_of HC.out 3
      simp only [List.getElem?_toArray, List.getElem?_cons_zero, List.getElem?_cons_succ] at cA0 cA1 cA2 cA3 cC0 cC1 cC2 cC3
      have fA := free_of HA.out
      have fC := free_of HC.out
      have sne := bxNe
      have dAC : ¬ w1.heap.size = w1.heap.size + 1 := by omega
      have dCA : ¬ w1.heap.size + 1 = w1.heap.size := by omega
      go_wp2_with fail
      go_ret
      exact ⟨by first | rfl | (simp; done) | (simp; omega), by repeat (first | (with_reducible exact B0) | (with_reducible refine Below.al ?_ _) | (with_reducible refine Below.drew ?_))⟩
    · cases hV2 : M.vCard a' b' k' s
      · go_wp2_with fail
        refine (spec_IsValidUSIM a b k l _).mono ?_
        rw [hV1]
        rintro e w2 ⟨rfl, ha2⟩
        have b2 := below_of_alloc2 ha2
        clear ha2
        have NA : Hid (w2.heap[w1.heap.size]? = some (.cells #[.int .i64 a, .int .i64 b, .int .i64 k, .int .i64 l] 30 (0, 0))) := Lib.hid (cells_of_below b2 (by (repeat (first | ((with_reducible refine newBlk _ _ _ _ ?_); (first | rfl | (simp; done))) | ((with_reducible refine bxSetNe ?_ _ _ ?_); (rotate_left); (first | omega | (simp; omega))) | (with_reducible refine drewBlk ?_) | (with_reducible refine oldBlk _ ?_)))))
        have NC : Hid (w2.heap[w1.heap.size + 1]? = some (.cells #[.int .i64 a', .int .i64 b', .int .i64 k', .int .i64 s] 32 (0, 0))) := Lib.hid (cells_of_below b2 (by (repeat (first | ((with_reducible refine newBlk _ _ _ _ ?_); (first | rfl | (simp; done))) | ((with_reducible refine bxSetNe ?_ _ _ ?_); (rotate_left); (first | omega | (simp; omega))) | (with_reducible refine drewBlk ?_) | (with_reducible refine oldBlk _ ?_)))))
        have NO : Below w.heap.size w w2 := Below.next (by (repeat (first | (with_reducible exact B0) | ((with_reducible refine Below.st ?_ _ _ _ ?_); (rotate_left); (first | omega | (simp; omega))) | (with_reducible refine Below.al ?_ _) | (with_reducible refine Below.drew ?_)))) b2
        clear B0
        have HA := NA
        have HC := NC
        have B0 := NO
        clear NA NC NO
        have lA_2 : w1.heap.size < w2.heap.size := (Array.getElem?_eq_some_iff.1 HA.out).1
        have lC_2 : w1.heap.size + 1 < w2.heap.size := (Array.getElem?_eq_some_iff.1 HC.out).1
        have zz2 := B0.size
        clear b2
        have cC0 := cell_of HC.out 0
        have cC1 := cell_of HC.out 1
        have cC2 := cell_of HC.out 2
        have cC3 := cell_of HC.out 3
        simp only [List.getElem?_toArray, List.getElem?_cons_zero, List.getElem?_cons_succ] at cC0 cC1 cC2 cC3
        have fC := free_of HC.out
        have sne := bxNe
        have dAC : ¬ w1.heap.size = w1.heap.size + 1 := by omega
        have dCA : ¬ w1.heap.size + 1 = w1.heap.size := by omega
        go_wp2_with fail
        refine (spec_IsValidSubscriberRecord a' b' k' s _).mono ?_
        rw [hV2]
        rintro e w3 ⟨rfl, ha3⟩
        have b3 := below_of_alloc2 ha3
        clear ha3
        have NA : Hid (w3.heap[w1.heap.size]? = some (.cells #[.int .i64 a, .int .i64 b, .int .i64 k, .int .i64 l] 30 (0, 0))) := Lib.hid (cells_of_below b3 (by (repeat (first | (with_reducible exact HA.out) | (with_reducible exact HC.out) | ((with_reducible refine newBlk _ _ _ _ ?_); (first | rfl | (simp; done))) | ((with_reducible refine bxSetNe ?_ _ _ ?_); (rotate_left); (first | omega | (simp; omega))) | (with_reducible refine drewBlk ?_) | (with_reducible refine oldBlk _ ?_)))))
        have NC : Hid (w3.heap[w1.heap.size + 1]? = some (.cells #[.int .i64 a', .int .i64 b', .int .i64 k', .int .i64 s] 32 (0, 0))) := Lib.hid (cells_of_below b3 (by (repeat (first | (with_reducible exact HA.out) | (with_reducible exact HC.out) | ((with_reducible refine newBlk _ _ _ _ ?_); (first | rfl | (simp; done))) | ((with_reducible refine bxSetNe ?_ _ _ ?_); (rotate_left); (first | omega | (simp; omega))) | (with_reducible refine drewBlk ?_) | (with_reducible refine oldBlk _ ?_)))))
        have NO : Below w.heap.size w w3 := Below.next (by (repeat (first | (with_reducible exact B0) | ((with_reducible refine Below.st ?_ _ _ _ ?_); (rotate_left); (first | omega | (simp; omega))) | (with_reducible refine Below.al ?_ _) | (with_reducible refine Below.drew ?_)))) b3
        clear cC0 cC1 cC2 cC3 fC sne dAC dCA HA HC B0
        have HA := NA
        have HC := NC
        have B0 := NO
        clear NA NC NO
        have lA_3 : w1.heap.size < w3.heap.size := (Array.getElem?_eq_some_iff.1 HA.out).1
        have lC_3 : w1.heap.size + 1 < w3.heap.size := (Array.getElem?_eq_some_iff.1 HC.out).1
        have zz3 := B0.size
        clear b3
        have cA0 := cell_of HA.out 0
        have cA1 := cell_of HA.out 1
        have cA2 := cell_of HA.out 2
        have cA3 := cell_of HA.out 3
        have cC0 := cell_of HC.out 0
        have cC1 := cell_of HC.out 1
        have cC2 := cell_of HC.out 2
        have cC3 := cell_of HC.out 3
        simp only [List.getElem?_toArray, List.getElem?_cons_zero, List.getElem?_cons_succ] at cA0 cA1 cA2 cA3 cC0 cC1 cC2 cC3
        have fA := free_of HA.out
        have fC := free_of HC.out
        have sne := bxNe
        have dAC : ¬ w1.heap.size = w1.heap.size + 1 := by omega
        have dCA : ¬ w1.heap.size + 1 = w1.heap.size := by omega
        go_wp2_with fail
        refine (impl_IsValidUSIM a b k l _).mono ?_
        rw [hV1]
        rintro e w4 ⟨rfl, ha4⟩
        have b4 := below_of_alloc2 ha4
        clear ha4
        have NA : Hid (w4.heap[w1.heap.size]? = some (.cells #[.int .i64 a, .int .i64 b, .int .i64 k, .int .i64 l] 30 (0, 0))) := Lib.hid (cells_of_below b4 (by (repeat (first | (with_reducible exact HA.out) | (with_reducible exact HC.out) | ((with_reducible refine newBlk _ _ _ _ ?_); (first | rfl | (simp; done))) | ((with_reducible refine bxSetNe ?_ _ _ ?_); (rotate_left); (first | omega | (simp; omega))) | (with_reducible refine drewBlk ?_) | (with_reducible refine oldBlk _ ?_)))))
        have NC : Hid (w4.heap[w1.heap.size + 1]? = some (.cells #[.int .i64 a', .int .i64 b', .int .i64 k', .int .i64 s] 32 (0, 0))) := Lib.hid (cells_of_below b4 (by (repeat (first | (with_reducible exact HA.out) | (with_reducible exact HC.out) | ((with_reducible refine newBlk _ _ _ _ ?_); (first | rfl | (simp; done))) | ((with_reducible refine bxSetNe ?_ _ _ ?_); (rotate_left); (first | omega | (simp; omega))) | (with_reducible refine drewBlk ?_) | (with_reducible refine oldBlk _ ?_)))))
        have NO : Below w.heap.size w w4 := Below.next (by (repeat (first | (with_reducible exact B0) | ((with_reducible refine Below.st ?_ _ _ _ ?_); (rotate_left); (first | omega | (simp; omega))) | (with_reducible refine Below.al ?_ _) | (with_reducible refine Below.drew ?_)))) b4
        clear cA0 cA1 cA2 cA3 cC0 cC1 cC2 cC3 fA fC sne dAC dCA HA HC B0
        have HA := NA
        have HC := NC
        have B0 := NO
        clear NA NC NO
        have lA_4 : w1.heap.size < w4.heap.size := (Array.getElem?_eq_some_iff.1 HA.out).1
        have lC_4 : w1.heap.size + 1 < w4.heap.size := (Array.getElem?_eq_some_iff.1 HC.out).1
        have zz4 := B0.size
        clear b4
        have cC0 := cell_of HC.out 0
        have cC1 := cell_of HC.out 1
        have cC2 := cell_of HC.out 2
        have cC3 := cell_of HC.out 3
        simp only [List.getElem?_toArray, List.getElem?_cons_zero, List.getElem?_cons_succ] at cC0 cC1 cC2 cC3
        have fC := free_of HC.out
        have sne := bxNe
        have dAC : ¬ w1.heap.size = w1.heap.size + 1 := by omega
        have dCA : ¬ w1.heap.size + 1 = w1.heap.size := by omega
        go_wp2_with fail
        refine (impl_IsValidSubscriberRecord a' b' k' s _).mono ?_
        rw [hV2]
        rintro e w5 ⟨rfl, ha5⟩
        have b5 := below_of_alloc2 ha5
        clear ha5
        have NA : Hid (w5.heap[w1.heap.size]? = some (.cells #[.int .i64 a, .int .i64 b, .int .i64 k, .int .i64 l] 30 (0, 0))) := Lib.hid (cells_of_below b5 (by (repeat (first | (with_reducible exact HA.out) | (with_reducible exact HC.out) | ((with_reducible refine newBlk _ _ _ _ ?_); (first | rfl | (simp; done))) | ((with_reducible refine bxSetNe ?_ _ _ ?_); (rotate_left); (first | omega | (simp; omega))) | (with_reducible refine drewBlk ?_) | (with_reducible refine oldBlk _ ?_)))))
        have NC : Hid (w5.heap[w1.heap.size + 1]? = some (.cells #[.int .i64 a', .int .i64 b', .int .i64 k', .int .i64 s] 32 (0, 0))) := Lib.hid (cells_of_below b5 (by (repeat (first | (with_reducible exact HA.out) | (with_reducible exact HC.out) | ((with_reducible refine newBlk _ _ _ _ ?_); (first | rfl | (simp; done))) | ((with_reducible refine bxSetNe ?_ _ _ ?_); (rotate_left); (first | omega | (simp; omega))) | (with_reducible refine drewBlk ?_) | (with_reducible refine oldBlk _ ?_)))))
        have NO : Below w.heap.size w w5 := Below.next (by (repeat (first | (with_reducible exact B0) | ((with_reducible refine Below.st ?_ _ _ _ ?_); (rotate_left); (first | omega | (simp; omega))) | (with_reducible refine Below.al ?_ _) | (with_reducible refine Below.drew ?_)))) b5
        clear cC0 cC1 cC2 cC3 fC sne dAC dCA HA HC B0
        have HA := NA
        have HC := NC
        have B0 := NO
        clear NA NC NO
        have lA_5 : w1.heap.size < w5.heap.size := (Array.getElem?_eq_some_iff.1 HA.out).1
        have lC_5 : w1.heap.size + 1 < w5.heap.size := (Array.getElem?_eq_some_iff.1 HC.out).1
        have zz5 := B0.size
        clear b5
        have cA0 := cell_of HA.out 0
        have cA1 := cell_of HA.out 1
        have cA2 := cell_of HA.out 2
        have cA3 := cell_of HA.out 3
        have cC0 := cell_of HC.out 0
        have cC1 := cell_of HC.out 1
        have cC2 := cell_of HC.out 2
        have cC3 := cell_of HC.out 3
        simp only [List.getElem?_toArray, List.getElem?_cons_zero, List.getElem?_cons_succ] at cA0 cA1 cA2 cA3 cC0 cC1 cC2 cC3
        have fA := free_of HA.out
        have fC := free_of HC.out
        have sne := bxNe
        have dAC : ¬ w1.heap.size = w1.heap.size + 1 := by omega
        have dCA : ¬ w1.heap.size + 1 = w1.heap.size := by omega
        go_wp2_with fail
        go_ret
        exact ⟨by first | rfl | (simp; done) | (simp; omega), by repeat (first | (with_reducible exact B0) | (with_reducible refine Below.al ?_ _) | (with_reducible refine Below.drew ?_))⟩
      · have neqS := neqSid
        cases hid : (a == a' && b == b')
        · go_wp2_with fail
          refine (spec_IsValidUSIM a b k l _).mono ?_
          rw [hV1]
          rintro e w2 ⟨rfl, ha2⟩
          have b2 := below_of_alloc2 ha2
          clear ha2
          have NA : Hid (w2.heap[w1.heap.size]? = some (.cells #[.int .i64 a, .int .i64 b, .int .i64 k, .int .i64 l] 30 (0, 0))) := Lib.hid (cells_of_below b2 (by (repeat (first | ((with_reducible refine newBlk _ _ _ _ ?_); (first | rfl | (simp; done))) | ((with_reducible refine bxSetNe ?_ _ _ ?_); (rotate_left); (first | omega | (simp; omega))) | (with_reducible refine drewBlk ?_) | (with_reducible refine oldBlk _ ?_)))))
          have NC : Hid (w2.heap[w1.heap.size + 1]? = some (.cells #[.int .i64 a', .int .i64 b', .int .i64 k', .int .i64 s] 32 (0, 0))) := Lib.hid (cells_of_below b2 (by (repeat (first | ((with_reducible refine newBlk _ _ _ _ ?_); (first | rfl | (simp; done))) | ((with_reducible refine bxSetNe ?_ _ _ ?_); (rotate_left); (first | omega | (simp; omega))) | (with_reducible refine drewBlk ?_) | (with_reducible refine oldBlk _ ?_)))))
          have NO : Below w.heap.size w w2 := Below.next (by (repeat (first | (with_reducible exact B0) | ((with_reducible refine Below.st ?_ _ _ _ ?_); (rotate_left); (first | omega | (simp; omega))) | (with_reducible refine Below.al ?_ _) | (with_reducible refine Below.drew ?_)))) b2
          clear B0
          have HA := NA
          have HC := NC
          have B0 := NO
          clear NA NC NO
          have lA_2 : w1.heap.size < w2.heap.size := (Array.getElem?_eq_some_iff.1 HA.out).1
          have lC_2 : w1.heap.size + 1 < w2.heap.size := (Array.getElem?_eq_some_iff.1 HC.out).1
          have zz2 := B0.size
          clear b2
          have cC0 := cell_of HC.out 0
          have cC1 := cell_of HC.out 1
          have cC2 := cell_of HC.out 2
          have cC3 := cell_of HC.out 3
          simp only [List.getElem?_toArray, List.getElem?_cons_zero, List.getElem?_cons_succ] at cC0 cC1 cC2 cC3
          have fC := free_of HC.out
          have sne := bxNe
          have dAC : ¬ w1.heap.size = w1.heap.size + 1 := by omega
          have dCA : ¬ w1.heap.size + 1 = w1.heap.size := by omega
          go_wp2_with fail
          refine (spec_IsValidSubscriberRecord a' b' k' s _).mono ?_
          rw [hV2]
          rintro e w3 ⟨rfl, ha3⟩
          have b3 := below_of_alloc2 ha3
          clear ha3
          have NA : Hid (w3.heap[w1.heap.size]? = some (.cells #[.int .i64 a, .int .i64 b, .int .i64 k, .int .i64 l] 30 (0, 0))) := Lib.hid (cells_of_below b3 (by (repeat (first | (with_reducible exact HA.out) | (with_reducible exact HC.out) | ((with_reducible refine newBlk _ _ _ _ ?_); (first | rfl | (simp; done))) | ((with_reducible refine bxSetNe ?_ _ _ ?_); (rotate_left); (first | omega | (simp; omega))) | (with_reducible refine drewBlk ?_) | (with_reducible refine oldBlk _ ?_)))))
          have NC : Hid (w3.heap[w1.heap.size + 1]? = some (.cells #[.int .i64 a', .int .i64 b', .int .i64 k', .int .i64 s] 32 (0, 0))) := Lib.hid (cells_of_below b3 (by (repeat (first | (with_reducible exact HA.out) | (with_reducible exact HC.out) | ((with_reducible refine newBlk _ _ _ _ ?_); (first | rfl | (simp; done))) | ((with_reducible refine bxSetNe ?_ _ _ ?_); (rotate_left); (first | omega | (simp; omega))) | (with_reducible refine drewBlk ?_) | (with_reducible refine oldBlk _ ?_)))))
          have NO : Below w.heap.size w w3 := Below.next (by (repeat (first | (with_reducible exact B0) | ((with_reducible refine Below.st ?_ _ _ _ ?_); (rotate_left); (first | omega | (simp; omega))) | (with_reducible refine Below.al ?_ _) | (with_reducible refine Below.drew ?_)))) b3
          clear cC0 cC1 cC2 cC3 fC sne dAC dCA HA HC B0
          have HA := NA
          have HC := NC
          have B0 := NO
          clear NA NC NO
          have lA_3 : w1.heap.size < w3.heap.size := (Array.getElem?_eq_some_iff.1 HA.out).1
          have lC_3 : w1.heap.size + 1 < w3.heap.size := (Array.getElem?_eq_some_iff.1 HC.out).1
          have zz3 := B0.size
          clear b3
          have cA0 := cell_of HA.out 0
          have cA1 := cell_of HA.out 1
          have cA2 := cell_of HA.out 2
          have cA3 := cell_of HA.out 3
          have cC0 := cell_of HC.out 0
          have cC1 := cell_of HC.out 1
          have cC2 := cell_of HC.out 2
          have cC3 := cell_of HC.out 3
          simp only [List.getElem?_toArray, List.getElem?_cons_zero, List.getElem?_cons_succ] at cA0 cA1 cA2 cA3 cC0 cC1 cC2 cC3
          have fA := free_of HA.out
          have fC := free_of HC.out
          have sne := bxNe
          have dAC : ¬ w1.heap.size = w1.heap.size + 1 := by omega
          have dCA : ¬ w1.heap.size + 1 = w1.heap.size := by omega
          go_wp2_with fail
          refine (impl_IsValidUSIM a b k l _).mono ?_
          rw [hV1]
          rintro e w4 ⟨rfl, ha4⟩
          have b4 := below_of_alloc2 ha4
          clear ha4
          have NA : Hid (w4.heap[w1.heap.size]? = some (.cells #[.int .i64 a, .int .i64 b, .int .i64 k, .int .i64 l] 30 (0, 0))) := Lib.hid (cells_of_below b4 (by (repeat (first | (with_reducible exact HA.out) | (with_reducible exact HC.out) | ((with_reducible refine newBlk _ _ _ _ ?_); (first | rfl | (simp; done))) | ((with_reducible refine bxSetNe ?_ _ _ ?_); (rotate_left); (first | omega | (simp; omega))) | (with_reducible refine drewBlk ?_) | (with_reducible refine oldBlk _ ?_)))))
          have NC : Hid (w4.heap[w1.heap.size + 1]? = some (.cells #[.int .i64 a', .int .i64 b', .int .i64 k', .int .i64 s] 32 (0, 0))) := Lib.hid (cells_of_below b4 (by (repeat (first | (with_reducible exact HA.out) | (with_reducible exact HC.out) | ((with_reducible refine newBlk _ _ _ _ ?_); (first | rfl | (simp; done))) | ((with_reducible refine bxSetNe ?_ _ _ ?_); (rotate_left); (first | omega | (simp; omega))) | (with_reducible refine drewBlk ?_) | (with_reducible refine oldBlk _ ?_)))))
          have NO : Below w.heap.size w w4 := Below.next (by (repeat (first | (with_reducible exact B0) | ((with_reducible refine Below.st ?_ _ _ _ ?_); (rotate_left); (first | omega | (simp; omega))) | (with_reducible refine Below.al ?_ _) | (with_reducible refine Below.drew ?_)))) b4
          clear cA0 cA1 cA2 cA3 cC0 cC1 cC2 cC3 fA fC sne dAC dCA HA HC B0
          have HA := NA
          have HC := NC
          have B0 := NO
          clear NA NC NO
          have lA_4 : w1.heap.size < w4.heap.size := (Array.getElem?_eq_some_iff.1 HA.out).1
          have lC_4 : w1.heap.size + 1 < w4.heap.size := (Array.getElem?_eq_some_iff.1 HC.out).1
          have zz4 := B0.size
          clear b4
          have cC0 := cell_of HC.out 0
          have cC1 := cell_of HC.out 1
          have cC2 := cell_of HC.out 2
          have cC3 := cell_of HC.out 3
          simp only [List.getElem?_toArray, List.getElem?_cons_zero, List.getElem?_cons_succ] at cC0 cC1 cC2 cC3
          have fC := free_of HC.out
          have sne := bxNe
          have dAC : ¬ w1.heap.size = w1.heap.size + 1 := by omega
          have dCA : ¬ w1.heap.size + 1 = w1.heap.size := by omega
          go_wp2_with fail
          refine (impl_IsValidSubscriberRecord a' b' k' s _).mono ?_
          rw [hV2]
          rintro e w5 ⟨rfl, ha5⟩
          have b5 := below_of_alloc2 ha5
          clear ha5
          have NA : Hid (w5.heap[w1.heap.size]? = some (.cells #[.int .i64 a, .int .i64 b, .int .i64 k, .int .i64 l] 30 (0, 0))) := Lib.hid (cells_of_below b5 (by (repeat (first | (with_reducible exact HA.out) | (with_reducible exact HC.out) | ((with_reducible refine newBlk _ _ _ _ ?_); (first | rfl | (simp; done))) | ((with_reducible refine bxSetNe ?_ _ _ ?_); (rotate_left); (first | omega | (simp; omega))) | (with_reducible refine drewBlk ?_) | (with_reducible refine oldBlk _ ?_)))))
          have NC : Hid (w5.heap[w1.heap.size + 1]? = some (.cells #[.int .i64 a', .int .i64 b', .int .i64 k', .int .i64 s] 32 (0, 0))) := Lib.hid (cells_of_below b5 (by (repeat (first | (with_reducible exact HA.out) | (with_reducible exact HC.out) | ((with_reducible refine newBlk _ _ _ _ ?_); (first | rfl | (simp; done))) | ((with_reducible refine bxSetNe ?_ _ _ ?_); (rotate_left); (first | omega | (simp; omega))) | (with_reducible refine drewBlk ?_) | (with_reducible refine oldBlk _ ?_)))))
          have NO : Below w.heap.size w w5 := Below.next (by (repeat (first | (with_reducible exact B0) | ((with_reducible refine Below.st ?_ _ _ _ ?_); (rotate_left); (first | omega | (simp; omega))) | (with_reducible refine Below.al ?_ _) | (with_reducible refine Below.drew ?_)))) b5
          clear cC0 cC1 cC2 cC3 fC sne dAC dCA HA HC B0
          have HA := NA
          have HC := NC
          have B0 := NO
          clear NA NC NO
          have lA_5 : w1.heap.size < w5.heap.size := (Array.getElem?_eq_some_iff.1 HA.out).1
          have lC_5 : w1.heap.size + 1 < w5.heap.size := (Array.getElem?_eq_some_iff.1 HC.out).1
          have zz5 := B0.size
          clear b5
          have cA0 := cell_of HA.out 0
          have cA1 := cell_of HA.out 1
          have cA2 := cell_of HA.out 2
          have cA3 := cell_of HA.out 3
          have cC0 := cell_of HC.out 0
          have cC1 := cell_of HC.out 1
          have cC2 := cell_of HC.out 2
          have cC3 := cell_of HC.out 3
          simp only [List.getElem?_toArray, List.getElem?_cons_zero, List.getElem?_cons_succ] at cA0 cA1 cA2 cA3 cC0 cC1 cC2 cC3
          have fA := free_of HA.out
          have fC := free_of HC.out
          have sne := bxNe
          have dAC : ¬ w1.heap.size = w1.heap.size + 1 := by omega
          have dCA : ¬ w1.heap.size + 1 = w1.heap.size := by omega
          go_wp2_with fail
          go_ret
          exact ⟨by first | rfl | (simp; done) | (simp; omega), by repeat (first | (with_reducible exact B0) | (with_reducible refine Below.al ?_ _) | (with_reducible refine Below.drew ?_))⟩
        · have hid2 : a = a' ∧ b = b' := by simpa using hid
          obtain ⟨e1, e2⟩ := hid2
          obtain rfl : a = a' := e1
          obtain rfl : b = b' := e2
          by_cases hk : k = k'
          · obtain rfl : k = k' := hk
            clear hid
            have haa : (a == a && b == b) = true := by simp
            have hll : (999994 < l) ∨ (l ≤ 999994 ∧ 999994 < s) ∨ (l ≤ 999994 ∧ s ≤ 999994) := by omega
            rcases hll with q1 | ⟨q1, q2⟩ | ⟨q1, q2⟩
            · go_wp2_with fail
              refine (spec_IsValidUSIM a b k l _).mono ?_
              rw [hV1]
              rintro e w2 ⟨rfl, ha2⟩
              have b2 := below_of_alloc2 ha2
              clear ha2
              have NA : Hid (w2.heap[w1.heap.size]? = some (.cells #[.int .i64 a, .int .i64 b, .int .i64 k, .int .i64 l] 30 (0, 0))) := Lib.hid (cells_of_below b2 (by (repeat (first | ((with_reducible refine newBlk _ _ _ _ ?_); (first | rfl | (simp; done))) | ((with_reducible refine bxSetNe ?_ _ _ ?_); (rotate_left); (first | omega | (simp; omega))) | (with_reducible refine drewBlk ?_) | (with_reducible refine oldBlk _ ?_)))))
              have NC : Hid (w2.heap[w1.heap.size + 1]? = some (.cells #[.int .i64 a, .int .i64 b, .int .i64 k, .int .i64 s] 32 (0, 0))) := Lib.hid (cells_of_below b2 (by (repeat (first | ((with_reducible refine newBlk _ _ _ _ ?_); (first | rfl | (simp; done))) | ((with_reducible refine bxSetNe ?_ _ _ ?_); (rotate_left); (first | omega | (simp; omega))) | (with_reducible refine drewBlk ?_) | (with_reducible refine oldBlk _ ?_)))))
              have NO : Below w.heap.size w w2 := Below.next (by (repeat (first | (with_reducible exact B0) | ((with_reducible refine Below.st ?_ _ _ _ ?_); (rotate_left); (first | omega | (simp; omega))) | (with_reducible refine Below.al ?_ _) | (with_reducible refine Below.drew ?_)))) b2
              clear B0
              have HA := NA
              have HC := NC
              have B0 := NO
              clear NA NC NO
              have lA_2 : w1.heap.size < w2.heap.size := (Array.getElem?_eq_some_iff.1 HA.out).1
              have lC_2 : w1.heap.size + 1 < w2.heap.size := (Array.getElem?_eq_some_iff.1 HC.out).1
              have zz2 := B0.size
              clear b2
              have cC0 := cell_of HC.out 0
              have cC1 := cell_of HC.out 1
              have cC2 := cell_of HC.out 2
              have cC3 := cell_of HC.out 3
              simp only [List.getElem?_toArray, List.getElem?_cons_zero, List.getElem?_cons_succ] at cC0 cC1 cC2 cC3
              have fC := free_of HC.out
              have sne := bxNe
              have dAC : ¬ w1.heap.size = w1.heap.size + 1 := by omega
              have dCA : ¬ w1.heap.size + 1 = w1.heap.size := by omega
              go_wp2_with fail
              refine (spec_IsValidSubscriberRecord a b k s _).mono ?_
              rw [hV2]
              rintro e w3 ⟨rfl, ha3⟩
              have b3 := below_of_alloc2 ha3
              clear ha3
              have NA : Hid (w3.heap[w1.heap.size]? = some (.cells #[.int .i64 a, .int .i64 b, .int .i64 k, .int .i64 l] 30 (0, 0))) := Lib.hid (cells_of_below b3 (by (repeat (first | (with_reducible exact HA.out) | (with_reducible exact HC.out) | ((with_reducible refine newBlk _ _ _ _ ?_); (first | rfl | (simp; done))) | ((with_reducible refine bxSetNe ?_ _ _ ?_); (rotate_left); (first | omega | (simp; omega))) | (with_reducible refine drewBlk ?_) | (with_reducible refine oldBlk _ ?_)))))
              have NC : Hid (w3.heap[w1.heap.size + 1]? = some (.cells #[.int .i64 a, .int .i64 b, .int .i64 k, .int .i64 s] 32 (0, 0))) := Lib.hid (cells_of_below b3 (by (repeat (first | (with_reducible exact HA.out) | (with_reducible exact HC.out) | ((with_reducible refine newBlk _ _ _ _ ?_); (first | rfl | (simp; done))) | ((with_reducible refine bxSetNe ?_ _ _ ?_); (rotate_left); (first | omega | (simp; omega))) | (with_reducible refine drewBlk ?_) | (with_reducible refine oldBlk _ ?_)))))
              have NO : Below w.heap.size w w3 := Below.next (by (repeat (first | (with_reducible exact B0) | ((with_reducible refine Below.st ?_ _ _ _ ?_); (rotate_left); (first | omega | (simp; omega))) | (with_reducible refine Below.al ?_ _) | (with_reducible refine Below.drew ?_)))) b3
              clear cC0 cC1 cC2 cC3 fC sne dAC dCA HA HC B0
              have HA := NA
              have HC := NC
              have B0 := NO
              clear NA NC NO
              have lA_3 : w1.heap.size < w3.heap.size := (Array.getElem?_eq_some_iff.1 HA.out).1
              have lC_3 : w1.heap.size + 1 < w3.heap.size := (Array.getElem?_eq_some_iff.1 HC.out).1
              have zz3 := B0.size
              clear b3
              have cA0 := cell_of HA.out 0
              have cA1 := cell_of HA.out 1
              have cA2 := cell_of HA.out 2
              have cA3 := cell_of HA.out 3
              have cC0 := cell_of HC.out 0
              have cC1 := cell_of HC.out 1
              have cC2 := cell_of HC.out 2
              have cC3 := cell_of HC.out 3
              simp only [List.getElem?_toArray, List.getElem?_cons_zero, List.getElem?_cons_succ] at cA0 cA1 cA2 cA3 cC0 cC1 cC2 cC3
              have fA := free_of HA.out
              have fC := free_of HC.out
              have sne := bxNe
              have dAC : ¬ w1.heap.size = w1.heap.size + 1 := by omega
              have dCA : ¬ w1.heap.size + 1 = w1.heap.size := by omega
              go_wp2_with fail
              refine (impl_IsValidUSIM a b k l _).mono ?_
              rw [hV1]
              rintro e w4 ⟨rfl, ha4⟩
              have b4 := below_of_alloc2 ha4
              clear ha4
              have NA : Hid (w4.heap[w1.heap.size]? = some (.cells #[.int .i64 a, .int .i64 b, .int .i64 k, .int .i64 l] 30 (0, 0))) := Lib.hid (cells_of_below b4 (by (repeat (first | (with_reducible exact HA.out) | (with_reducible exact HC.out) | ((with_reducible refine newBlk _ _ _ _ ?_); (first | rfl | (simp; done))) | ((with_reducible refine bxSetNe ?_ _ _ ?_); (rotate_left); (first | omega | (simp; omega))) | (with_reducible refine drewBlk ?_) | (with_reducible refine oldBlk _ ?_)))))
              have NC : Hid (w4.heap[w1.heap.size + 1]? = some (.cells #[.int .i64 a, .int .i64 b, .int .i64 k, .int .i64 s] 32 (0, 0))) := Lib.hid (cells_of_below b4 (by (repeat (first | (with_reducible exact HA.out) | (with_reducible exact HC.out) | ((with_reducible refine newBlk _ _ _ _ ?_); (first | rfl | (simp; done))) | ((with_reducible refine bxSetNe ?_ _ _ ?_); (rotate_left); (first | omega | (simp; omega))) | (with_reducible refine drewBlk ?_) | (with_reducible refine oldBlk _ ?_)))))
              have NO : Below w.heap.size w w4 := Below.next (by (repeat (first | (with_reducible exact B0) | ((with_reducible refine Below.st ?_ _ _ _ ?_); (rotate_left); (first | omega | (simp; omega))) | (with_reducible refine Below.al ?_ _) | (with_reducible refine Below.drew ?_)))) b4
              clear cA0 cA1 cA2 cA3 cC0 cC1 cC2 cC3 fA fC sne dAC dCA HA HC B0
              have HA := NA
              have HC := NC
              have B0 := NO
              clear NA NC NO
              have lA_4 : w1.heap.size < w4.heap.size := (Array.getElem?_eq_some_iff.1 HA.out).1
              have lC_4 : w1.heap.size + 1 < w4.heap.size := (Array.getElem?_eq_some_iff.1 HC.out).1
              have zz4 := B0.size
              clear b4
              have cC0 := cell_of HC.out 0
              have cC1 := cell_of HC.out 1
              have cC2 := cell_of HC.out 2
              have cC3 := cell_of HC.out 3
              simp only [List.getElem?_toArray, List.getElem?_cons_zero, List.getElem?_cons_succ] at cC0 cC1 cC2 cC3
              have fC := free_of HC.out
              have sne := bxNe
              have dAC : ¬ w1.heap.size = w1.heap.size + 1 := by omega
              have dCA : ¬ w1.heap.size + 1 = w1.heap.size := by omega
              go_wp2_with fail
              refine (impl_IsValidSubscriberRecord a b k s _).mono ?_
              rw [hV2]
              rintro e w5 ⟨rfl, ha5⟩
              have b5 := below_of_alloc2 ha5
              clear ha5
              have NA : Hid (w5.heap[w1.heap.size]? = some (.cells #[.int .i64 a, .int .i64 b, .int .i64 k, .int .i64 l] 30 (0, 0))) := Lib.hid (cells_of_below b5 (by (repeat (first | (with_reducible exact HA.out) | (with_reducible exact HC.out) | ((with_reducible refine newBlk _ _ _ _ ?_); (first | rfl | (simp; done))) | ((with_reducible refine bxSetNe ?_ _ _ ?_); (rotate_left); (first | omega | (simp; omega))) | (with_reducible refine drewBlk ?_) | (with_reducible refine oldBlk _ ?_)))))
              have NC : Hid (w5.heap[w1.heap.size + 1]? = some (.cells #[.int .i64 a, .int .i64 b, .int .i64 k, .int .i64 s] 32 (0, 0))) := Lib.hid (cells_of_below b5 (by (repeat (first | (with_reducible exact HA.out) | (with_reducible exact HC.out) | ((with_reducible refine newBlk _ _ _ _ ?_); (first | rfl | (simp; done))) | ((with_reducible refine bxSetNe ?_ _ _ ?_); (rotate_left); (first | omega | (simp; omega))) | (with_reducible refine drewBlk ?_) | (with_reducible refine oldBlk _ ?_)))))
              have NO : Below w.heap.size w w5 := Below.next (by (repeat (first | (with_reducible exact B0) | ((with_reducible refine Below.st ?_ _ _ _ ?_); (rotate_left); (first | omega | (simp; omega))) | (with_reducible refine Below.al ?_ _) | (with_reducible refine Below.drew ?_)))) b5
              clear cC0 cC1 cC2 cC3 fC sne dAC dCA HA HC B0
              have HA := NA
              have HC := NC
              have B0 := NO
              clear NA NC NO
              have lA_5 : w1.heap.size < w5.heap.size := (Array.getElem?_eq_some_iff.1 HA.out).1
              have lC_5 : w1.heap.size + 1 < w5.heap.size := (Array.getElem?_eq_some_iff.1 HC.out).1
              have zz5 := B0.size
              clear b5
              have cA0 := cell_of HA.out 0
              have cA1 := cell_of HA.out 1
              have cA2 := cell_of HA.out 2
              have cA3 := cell_of HA.out 3
              have cC0 := cell_of HC.out 0
              have cC1 := cell_of HC.out 1
              have cC2 := cell_of HC.out 2
              have cC3 := cell_of HC.out 3
              simp only [List.getElem?_toArray, List.getElem?_cons_zero, List.getElem?_cons_succ] at cA0 cA1 cA2 cA3 cC0 cC1 cC2 cC3
              have fA := free_of HA.out
              have fC := free_of HC.out
              have sne := bxNe
              have dAC : ¬ w1.heap.size = w1.heap.size + 1 := by omega
              have dCA : ¬ w1.heap.size + 1 = w1.heap.size := by omega
              go_wp2_with fail
              go_ret
              exact ⟨by first | rfl | (simp; done) | (simp; omega), by repeat (first | (with_reducible exact B0) | (with_reducible refine Below.al ?_ _) | (with_reducible refine Below.drew ?_))⟩
            · go_wp2_with fail
              refine (spec_IsValidUSIM a b k l _).mono ?_
              rw [hV1]
              rintro e w2 ⟨rfl, ha2⟩
              have b2 := below_of_alloc2 ha2
              clear ha2
              have NA : Hid (w2.heap[w1.heap.size]? = some (.cells #[.int .i64 a, .int .i64 b, .int .i64 k, .int .i64 l] 30 (0, 0))) := Lib.hid (cells_of_below b2 (by (repeat (first | ((with_reducible refine newBlk _ _ _ _ ?_); (first | rfl | (simp; done))) | ((with_reducible refine bxSetNe ?_ _ _ ?_); (rotate_left); (first | omega | (simp; omega))) | (with_reducible refine drewBlk ?_) | (with_reducible refine oldBlk _ ?_)))))
              have NC : Hid (w2.heap[w1.heap.size + 1]? = some (.cells #[.int .i64 a, .int .i64 b, .int .i64 k, .int .i64 s] 32 (0, 0))) := Lib.hid (cells_of_below b2 (by (repeat (first | ((with_reducible refine newBlk _ _ _ _ ?_); (first | rfl | (simp; done))) | ((with_reducible refine bxSetNe ?_ _ _ ?_); (rotate_left); (first | omega | (simp; omega))) | (with_reducible refine drewBlk ?_) | (with_reducible refine oldBlk _ ?_)))))
              have NO : Below w.heap.size w w2 := Below.next (by (repeat (first | (with_reducible exact B0) | ((with_reducible refine Below.st ?_ _ _ _ ?_); (rotate_left); (first | omega | (simp; omega))) | (with_reducible refine Below.al ?_ _) | (with_reducible refine Below.drew ?_)))) b2
              clear B0
              have HA := NA
              have HC := NC
              have B0 := NO
              clear NA NC NO
              have lA_2 : w1.heap.size < w2.heap.size := (Array.getElem?_eq_some_iff.1 HA.out).1
              have lC_2 : w1.heap.size + 1 < w2.heap.size := (Array.getElem?_eq_some_iff.1 HC.out).1
              have zz2 := B0.size
              clear b2
              have cC0 := cell_of HC.out 0
              have cC1 := cell_of HC.out 1
              have cC2 := cell_of HC.out 2
              have cC3 := cell_of HC.out 3
              simp only [List.getElem?_toArray, List.getElem?_cons_zero, List.getElem?_cons_succ] at cC0 cC1 cC2 cC3
              have fC := free_of HC.out
              have sne := bxNe
              have dAC : ¬ w1.heap.size = w1.heap.size + 1 := by omega
              have dCA : ¬ w1.heap.size + 1 = w1.heap.size := by omega
              go_wp2_with fail
              refine (spec_IsValidSubscriberRecord a b k s _).mono ?_
              rw [hV2]
              rintro e w3 ⟨rfl, ha3⟩
              have b3 := below_of_alloc2 ha3
              clear ha3
              have NA : Hid (w3.heap[w1.heap.size]? = some (.cells #[.int .i64 a, .int .i64 b, .int .i64 k, .int .i64 l] 30 (0, 0))) := Lib.hid (cells_of_below b3 (by (repeat (first | (with_reducible exact HA.out) | (with_reducible exact HC.out) | ((with_reducible refine newBlk _ _ _ _ ?_); (first | rfl | (simp; done))) | ((with_reducible refine bxSetNe ?_ _ _ ?_); (rotate_left); (first | omega | (simp; omega))) | (with_reducible refine drewBlk ?_) | (with_reducible refine oldBlk _ ?_)))))
              have NC : Hid (w3.heap[w1.heap.size + 1]? = some (.cells #[.int .i64 a, .int .i64 b, .int .i64 k, .int .i64 s] 32 (0, 0))) := Lib.hid (cells_of_below b3 (by (repeat (first | (with_reducible exact HA.out) | (with_reducible exact HC.out) | ((with_reducible refine newBlk _ _ _ _ ?_); (first | rfl | (simp; done))) | ((with_reducible refine bxSetNe ?_ _ _ ?_); (rotate_left); (first | omega | (simp; omega))) | (with_reducible refine drewBlk ?_) | (with_reducible refine oldBlk _ ?_)))))
              have NO : Below w.heap.size w w3 := Below.next (by (repeat (first | (with_reducible exact B0) | ((with_reducible refine Below.st ?_ _ _ _ ?_); (rotate_left); (first | omega | (simp; omega))) | (with_reducible refine Below.al ?_ _) | (with_reducible refine Below.drew ?_)))) b3
              clear cC0 cC1 cC2 cC3 fC sne dAC dCA HA HC B0
              have HA := NA
              have HC := NC
              have B0 := NO
              clear NA NC NO
              have lA_3 : w1.heap.size < w3.heap.size := (Array.getElem?_eq_some_iff.1 HA.out).1
              have lC_3 : w1.heap.size + 1 < w3.heap.size := (Array.getElem?_eq_some_iff.1 HC.out).1
              have zz3 := B0.size
              clear b3
              have cA0 := cell_of HA.out 0
              have cA1 := cell_of HA.out 1
              have cA2 := cell_of HA.out 2
              have cA3 := cell_of HA.out 3
              have cC0 := cell_of HC.out 0
              have cC1 := cell_of HC.out 1
              have cC2 := cell_of HC.out 2
              have cC3 := cell_of HC.out 3
              simp only [List.getElem?_toArray, List.getElem?_cons_zero, List.getElem?_cons_succ] at cA0 cA1 cA2 cA3 cC0 cC1 cC2 cC3
              have fA := free_of HA.out
              have fC := free_of HC.out
              have sne := bxNe
              have dAC : ¬ w1.heap.size = w1.heap.size + 1 := by omega
              have dCA : ¬ w1.heap.size + 1 = w1.heap.size := by omega
              go_wp2_with fail
              refine (impl_IsValidUSIM a b k l _).mono ?_
              rw [hV1]
              rintro e w4 ⟨rfl, ha4⟩
              have b4 := below_of_alloc2 ha4
              clear ha4
              have NA : Hid (w4.heap[w1.heap.size]? = some (.cells #[.int .i64 a, .int .i64 b, .int .i64 k, .int .i64 l] 30 (0, 0))) := Lib.hid (cells_of_below b4 (by (repeat (first | (with_reducible exact HA.out) | (with_reducible exact HC.out) | ((with_reducible refine newBlk _ _ _ _ ?_); (first | rfl | (simp; done))) | ((with_reducible refine bxSetNe ?_ _ _ ?_); (rotate_left); (first | omega | (simp; omega))) | (with_reducible refine drewBlk ?_) | (with_reducible refine oldBlk _ ?_)))))
              have NC : Hid (w4.heap[w1.heap.size + 1]? = some (.cells #[.int .i64 a, .int .i64 b, .int .i64 k, .int .i64 s] 32 (0, 0))) := Lib.hid (cells_of_below b4 (by (repeat (first | (with_reducible exact HA.out) | (with_reducible exact HC.out) | ((with_reducible refine newBlk _ _ _ _ ?_); (first | rfl | (simp; done))) | ((with_reducible refine bxSetNe ?_ _ _ ?_); (rotate_left); (first | omega | (simp; omega))) | (with_reducible refine drewBlk ?_) | (with_reducible refine oldBlk _ ?_)))))
              have NO : Below w.heap.size w w4 := Below.next (by (repeat (first | (with_reducible exact B0) | ((with_reducible refine Below.st ?_ _ _ _ ?_); (rotate_left); (first | omega | (simp; omega))) | (with_reducible refine Below.al ?_ _) | (with_reducible refine Below.drew ?_)))) b4
              clear cA0 cA1 cA2 cA3 cC0 cC1 cC2 cC3 fA fC sne dAC dCA HA HC B0
              have HA := NA
              have HC := NC
              have B0 := NO
              clear NA NC NO
              have lA_4 : w1.heap.size < w4.heap.size := (Array.getElem?_eq_some_iff.1 HA.out).1
              have lC_4 : w1.heap.size + 1 < w4.heap.size := (Array.getElem?_eq_some_iff.1 HC.out).1
              have zz4 := B0.size
              clear b4
              have cC0 := cell_of HC.out 0
              have cC1 := cell_of HC.out 1
              have cC2 := cell_of HC.out 2
              have cC3 := cell_of HC.out 3
              simp only [List.getElem?_toArray, List.getElem?_cons_zero, List.getElem?_cons_succ] at cC0 cC1 cC2 cC3
              have fC := free_of HC.out
              have sne := bxNe
              have dAC : ¬ w1.heap.size = w1.heap.size + 1 := by omega
              have dCA : ¬ w1.heap.size + 1 = w1.heap.size := by omega
              go_wp2_with fail
              refine (impl_IsValidSubscriberRecord a b k s _).mono ?_
              rw [hV2]
              rintro e w5 ⟨rfl, ha5⟩
              have b5 := below_of_alloc2 ha5
              clear ha5
              have NA : Hid (w5.heap[w1.heap.size]? = some (.cells #[.int .i64 a, .int .i64 b, .int .i64 k, .int .i64 l] 30 (0, 0))) := Lib.hid (cells_of_below b5 (by (repeat (first | (with_reducible exact HA.out) | (with_reducible exact HC.out) | ((with_reducible refine newBlk _ _ _ _ ?_); (first | rfl | (simp; done))) | ((with_reducible refine bxSetNe ?_ _ _ ?_); (rotate_left); (first | omega | (simp; omega))) | (with_reducible refine drewBlk ?_) | (with_reducible refine oldBlk _ ?_)))))
              have NC : Hid (w5.heap[w1.heap.size + 1]? = some (.cells #[.int .i64 a, .int .i64 b, .int .i64 k, .int .i64 s] 32 (0, 0))) := Lib.hid (cells_of_below b5 (by (repeat (first | (with_reducible exact HA.out) | (with_reducible exact HC.out) | ((with_reducible refine newBlk _ _ _ _ ?_); (first | rfl | (simp; done))) | ((with_reducible refine bxSetNe ?_ _ _ ?_); (rotate_left); (first | omega | (simp; omega))) | (with_reducible refine drewBlk ?_) | (with_reducible refine oldBlk _ ?_)))))
              have NO : Below w.heap.size w w5 := Below.next (by (repeat (first | (with_reducible exact B0) | ((with_reducible refine Below.st ?_ _ _ _ ?_); (rotate_left); (first | omega | (simp; omega))) | (with_reducible refine Below.al ?_ _) | (with_reducible refine Below.drew ?_)))) b5
              clear cC0 cC1 cC2 cC3 fC sne dAC dCA HA HC B0
              have HA := NA
              have HC := NC
              have B0 := NO
              clear NA NC NO
              have lA_5 : w1.heap.size < w5.heap.size := (Array.getElem?_eq_some_iff.1 HA.out).1
              have lC_5 : w1.heap.size + 1 < w5.heap.size := (Array.getElem?_eq_some_iff.1 HC.out).1
              have zz5 := B0.size
              clear b5
              have cA0 := cell_of HA.out 0
              have cA1 := cell_of HA.out 1
              have cA2 := cell_of HA.out 2
              have cA3 := cell_of HA.out 3
              have cC0 := cell_of HC.out 0
              have cC1 := cell_of HC.out 1
              have cC2 := cell_of HC.out 2
              have cC3 := cell_of HC.out 3
              simp only [List.getElem?_toArray, List.getElem?_cons_zero, List.getElem?_cons_succ] at cA0 cA1 cA2 cA3 cC0 cC1 cC2 cC3
              have fA := free_of HA.out
              have fC := free_of HC.out
              have sne := bxNe
              have dAC : ¬ w1.heap.size = w1.heap.size + 1 := by omega
              have dCA : ¬ w1.heap.size + 1 = w1.heap.size := by omega
              go_wp2_with fail
              go_ret
              exact ⟨by first | rfl | (simp; done) | (simp; omega), by repeat (first | (with_reducible exact B0) | (with_reducible refine Below.al ?_ _) | (with_reducible refine Below.drew ?_))⟩
            · obtain ⟨s1, v0, v1, v2, v3, v4, c1, l1, e1, y1, t1, s2, s3, p0, p1, p2, p3, p4, c2, l2, e2, y2, t2, lf, kf, T1, hs2, T2, hf, g1, g2, g3⟩ := auth_good (r := r) hV1 hV2 q1 q2 (by omega) (by omega)
              have HT1 := Lib.hid T1
              have HT2 := Lib.hid T2
              have HS2 := Lib.hid hs2
              have HF := Lib.hid hf
              clear T1 T2 hs2 hf
              have hsy := sync_good (s := lf) hV1 g2 (by omega)
              have HSY := Lib.hid hsy
              clear hsy
              have hkf : M.inR kf 1 2147483646 = true := M.inR_true (by omega)
              have HKF := Lib.hid hkf
              clear hkf
              go_wp2_with fail
              refine (spec_IsValidUSIM a b k l _).mono ?_
              rw [hV1]
              rintro e w2 ⟨rfl, ha2⟩
              have b2 := below_of_alloc2 ha2
              clear ha2
              have NA : Hid (w2.heap[w1.heap.size]? = some (.cells #[.int .i64 a, .int .i64 b, .int .i64 k, .int .i64 l] 30 (0, 0))) := Lib.hid (cells_of_below b2 (by (repeat (first | ((with_reducible refine newBlk _ _ _ _ ?_); (first | rfl | (simp; done))) | ((with_reducible refine bxSetNe ?_ _ _ ?_); (rotate_left); (first | omega | (simp; omega))) | (with_reducible refine drewBlk ?_) | (with_reducible refine oldBlk _ ?_)))))
              have NC : Hid (w2.heap[w1.heap.size + 1]? = some (.cells #[.int .i64 a, .int .i64 b, .int .i64 k, .int .i64 s] 32 (0, 0))) := Lib.hid (cells_of_below b2 (by (repeat (first | ((with_reducible refine newBlk _ _ _ _ ?_); (first | rfl | (simp; done))) | ((with_reducible refine bxSetNe ?_ _ _ ?_); (rotate_left); (first | omega | (simp; omega))) | (with_reducible refine drewBlk ?_) | (with_reducible refine oldBlk _ ?_)))))
              have NO : Below w.heap.size w w2 := Below.next (by (repeat (first | (with_reducible exact B0) | ((with_reducible refine Below.st ?_ _ _ _ ?_); (rotate_left); (first | omega | (simp; omega))) | (with_reducible refine Below.al ?_ _) | (with_reducible refine Below.drew ?_)))) b2
              clear B0
              have HA := NA
              have HC := NC
              have B0 := NO
              clear NA NC NO
              have lA_2 : w1.heap.size < w2.heap.size := (Array.getElem?_eq_some_iff.1 HA.out).1
              have lC_2 : w1.heap.size + 1 < w2.heap.size := (Array.getElem?_eq_some_iff.1 HC.out).1
              have zz2 := B0.size
              clear b2
              have cC0 := cell_of HC.out 0
              have cC1 := cell_of HC.out 1
              have cC2 := cell_of HC.out 2
              have cC3 := cell_of HC.out 3
              simp only [List.getElem?_toArray, List.getElem?_cons_zero, List.getElem?_cons_succ] at cC0 cC1 cC2 cC3
              have fC := free_of HC.out
              have sne := bxNe
              have dAC : ¬ w1.heap.size = w1.heap.size + 1 := by omega
              have dCA : ¬ w1.heap.size + 1 = w1.heap.size := by omega
              go_wp2_with fail
              refine (spec_IsValidSubscriberRecord a b k s _).mono ?_
              rw [hV2]
              rintro e w3 ⟨rfl, ha3⟩
              have b3 := below_of_alloc2 ha3
              clear ha3
              have NA : Hid (w3.heap[w1.heap.size]? = some (.cells #[.int .i64 a, .int .i64 b, .int .i64 k, .int .i64 l] 30 (0, 0))) := Lib.hid (cells_of_below b3 (by (repeat (first | (with_reducible exact HA.out) | (with_reducible exact HC.out) | ((with_reducible refine newBlk _ _ _ _ ?_); (first | rfl | (simp; done))) | ((with_reducible refine bxSetNe ?_ _ _ ?_); (rotate_left); (first | omega | (simp; omega))) | (with_reducible refine drewBlk ?_) | (with_reducible refine oldBlk _ ?_)))))
              have NC : Hid (w3.heap[w1.heap.size + 1]? = some (.cells #[.int .i64 a, .int .i64 b, .int .i64 k, .int .i64 s] 32 (0, 0))) := Lib.hid (cells_of_below b3 (by (repeat (first | (with_reducible exact HA.out) | (with_reducible exact HC.out) | ((with_reducible refine newBlk _ _ _ _ ?_); (first | rfl | (simp; done))) | ((with_reducible refine bxSetNe ?_ _ _ ?_); (rotate_left); (first | omega | (simp; omega))) | (with_reducible refine drewBlk ?_) | (with_reducible refine oldBlk _ ?_)))))
              have NO : Below w.heap.size w w3 := Below.next (by (repeat (first | (with_reducible exact B0) | ((with_reducible refine Below.st ?_ _ _ _ ?_); (rotate_left); (first | omega | (simp; omega))) | (with_reducible refine Below.al ?_ _) | (with_reducible refine Below.drew ?_)))) b3
              clear cC0 cC1 cC2 cC3 fC sne dAC dCA HA HC B0
              have HA := NA
              have HC := NC
              have B0 := NO
              clear NA NC NO
              have lA_3 : w1.heap.size < w3.heap.size := (Array.getElem?_eq_some_iff.1 HA.out).1
              have lC_3 : w1.heap.size + 1 < w3.heap.size := (Array.getElem?_eq_some_iff.1 HC.out).1
              have zz3 := B0.size
              clear b3
              have cA0 := cell_of HA.out 0
              have cA1 := cell_of HA.out 1
              have cA2 := cell_of HA.out 2
              have cA3 := cell_of HA.out 3
              have cC0 := cell_of HC.out 0
              have cC1 := cell_of HC.out 1
              have cC2 := cell_of HC.out 2
              have cC3 := cell_of HC.out 3
              simp only [List.getElem?_toArray, List.getElem?_cons_zero, List.getElem?_cons_succ] at cA0 cA1 cA2 cA3 cC0 cC1 cC2 cC3
              have fA := free_of HA.out
              have fC := free_of HC.out
              have sne := bxNe
              have dAC : ¬ w1.heap.size = w1.heap.size + 1 := by omega
              have dCA : ¬ w1.heap.size + 1 = w1.heap.size := by omega
              go_wp2_with fail
              refine (impl_Authenticate a b k l a b k s r _ yk.wf (WalkArith.wf_i64 (by omega)) s1 v0 v1 v2 v3 v4 c1 l1 e1 y1 t1 s2 s3 p0 p1 p2 p3 p4 c2 l2 e2 y2 t2 lf lf kf HT1.out HS2.out HT2.out HF.out).mono ?_
              rintro e w4 ⟨rfl, b4⟩
              have NA : Hid (w4.heap[w1.heap.size]? = some (.cells #[.int .i64 a, .int .i64 b, .int .i64 k, .int .i64 l] 30 (0, 0))) := Lib.hid (cells_of_below b4 (by (repeat (first | (with_reducible exact HA.out) | (with_reducible exact HC.out) | ((with_reducible refine newBlk _ _ _ _ ?_); (first | rfl | (simp; done))) | ((with_reducible refine bxSetNe ?_ _ _ ?_); (rotate_left); (first | omega | (simp; omega))) | (with_reducible refine drewBlk ?_) | (with_reducible refine oldBlk _ ?_)))))
              have NC : Hid (w4.heap[w1.heap.size + 1]? = some (.cells #[.int .i64 a, .int .i64 b, .int .i64 k, .int .i64 s] 32 (0, 0))) := Lib.hid (cells_of_below b4 (by (repeat (first | (with_reducible exact HA.out) | (with_reducible exact HC.out) | ((with_reducible refine newBlk _ _ _ _ ?_); (first | rfl | (simp; done))) | ((with_reducible refine bxSetNe ?_ _ _ ?_); (rotate_left); (first | omega | (simp; omega))) | (with_reducible refine drewBlk ?_) | (with_reducible refine oldBlk _ ?_)))))
              have NO : Below w.heap.size w w4 := Below.next (by (repeat (first | (with_reducible exact B0) | ((with_reducible refine Below.st ?_ _ _ _ ?_); (rotate_left); (first | omega | (simp; omega))) | (with_reducible refine Below.al ?_ _) | (with_reducible refine Below.drew ?_)))) b4
              clear cA0 cA1 cA2 cA3 cC0 cC1 cC2 cC3 fA fC sne dAC dCA HA HC B0
              have HA := NA
              have HC := NC
              have B0 := NO
              clear NA NC NO
              have lA_4 : w1.heap.size < w4.heap.size := (Array.getElem?_eq_some_iff.1 HA.out).1
              have lC_4 : w1.heap.size + 1 < w4.heap.size := (Array.getElem?_eq_some_iff.1 HC.out).1
              have zz4 := B0.size
              clear b4
              clear HT1 HT2 HS2 HF
              go_wp2_with fail
              refine (impl_IsValidKey _ _).mono ?_
              rw [HKF.out]
              rintro e w' ⟨rfl, rfl⟩
              clear HKF
              go_wp2_with fail
              refine (impl_InSync a b k lf a b k lf _).mono ?_
              rw [HSY.out]
              rintro e w5 ⟨rfl, b5⟩
              have NA : Hid (w5.heap[w1.heap.size]? = some (.cells #[.int .i64 a, .int .i64 b, .int .i64 k, .int .i64 l] 30 (0, 0))) := Lib.hid (cells_of_below b5 (by (repeat (first | (with_reducible exact HA.out) | (with_reducible exact HC.out) | ((with_reducible refine newBlk _ _ _ _ ?_); (first | rfl | (simp; done))) | ((with_reducible refine bxSetNe ?_ _ _ ?_); (rotate_left); (first | omega | (simp; omega))) | (with_reducible refine drewBlk ?_) | (with_reducible refine oldBlk _ ?_)))))
              have NC : Hid (w5.heap[w1.heap.size + 1]? = some (.cells #[.int .i64 a, .int .i64 b, .int .i64 k, .int .i64 s] 32 (0, 0))) := Lib.hid (cells_of_below b5 (by (repeat (first | (with_reducible exact HA.out) | (with_reducible exact HC.out) | ((with_reducible refine newBlk _ _ _ _ ?_); (first | rfl | (simp; done))) | ((with_reducible refine bxSetNe ?_ _ _ ?_); (rotate_left); (first | omega | (simp; omega))) | (with_reducible refine drewBlk ?_) | (with_reducible refine oldBlk _ ?_)))))
              have ND : Hid (w5.heap[w4.heap.size]? = some (.cells #[.int .i64 a, .int .i64 b, .int .i64 k, .int .i64 lf] 30 (0, 0))) := Lib.hid (cells_of_below b5 (by (repeat (first | (with_reducible exact HA.out) | (with_reducible exact HC.out) | ((with_reducible refine newBlk _ _ _ _ ?_); (first | rfl | (simp; done))) | ((with_reducible refine bxSetNe ?_ _ _ ?_); (rotate_left); (first | omega | (simp; omega))) | (with_reducible refine drewBlk ?_) | (with_reducible refine oldBlk _ ?_)))))
              have NE : Hid (w5.heap[w4.heap.size + 1]? = some (.cells #[.int .i64 a, .int .i64 b, .int .i64 k, .int .i64 lf] 32 (0, 0))) := Lib.hid (cells_of_below b5 (by (repeat (first | (with_reducible exact HA.out) | (with_reducible exact HC.out) | ((with_reducible refine newBlk _ _ _ _ ?_); (first | rfl | (simp; done))) | ((with_reducible refine bxSetNe ?_ _ _ ?_); (rotate_left); (first | omega | (simp; omega))) | (with_reducible refine drewBlk ?_) | (with_reducible refine oldBlk _ ?_)))))
              have NO : Below w.heap.size w w5 := Below.next (by (repeat (first | (with_reducible exact B0) | ((with_reducible refine Below.st ?_ _ _ _ ?_); (rotate_left); (first | omega | (simp; omega))) | (with_reducible refine Below.al ?_ _) | (with_reducible refine Below.drew ?_)))) b5
              clear HA HC B0
              have HA := NA
              have HC := NC
              have HD := ND
              have HE := NE
              have B0 := NO
              clear NA NC ND NE NO
              have lA_5 : w1.heap.size < w5.heap.size := (Array.getElem?_eq_some_iff.1 HA.out).1
              have lC_5 : w1.heap.size + 1 < w5.heap.size := (Array.getElem?_eq_some_iff.1 HC.out).1
              have lD_5 : w4.heap.size < w5.heap.size := (Array.getElem?_eq_some_iff.1 HD.out).1
              have lE_5 : w4.heap.size + 1 < w5.heap.size := (Array.getElem?_eq_some_iff.1 HE.out).1
              have zz5 := B0.size
              clear b5
              clear HSY
              have cA0 := cell_of HA.out 0
              have cA1 := cell_of HA.out 1
              have cA2 := cell_of HA.out 2
              have cA3 := cell_of HA.out 3
              have cC0 := cell_of HC.out 0
              have cC1 := cell_of HC.out 1
              have cC2 := cell_of HC.out 2
              have cC3 := cell_of HC.out 3
              have cD0 := cell_of HD.out 0
              have cD1 := cell_of HD.out 1
              have cD2 := cell_of HD.out 2
              have cD3 := cell_of HD.out 3
              have cE0 := cell_of HE.out 0
              have cE1 := cell_of HE.out 1
              have cE2 := cell_of HE.out 2
              have cE3 := cell_of HE.out 3
              simp only [List.getElem?_toArray, List.getElem?_cons_zero, List.getElem?_cons_succ] at cA0 cA1 cA2 cA3 cC0 cC1 cC2 cC3 cD0 cD1 cD2 cD3 cE0 cE1 cE2 cE3
              have fA := free_of HA.out
              have fC := free_of HC.out
              have fD := free_of HD.out
              have fE := free_of HE.out
              have sne := bxNe
              have dAC : ¬ w1.heap.size = w1.heap.size + 1 := by omega
              have dAD : ¬ w1.heap.size = w4.heap.size := by omega
              have dAE : ¬ w1.heap.size = w4.heap.size + 1 := by omega
              have dCA : ¬ w1.heap.size + 1 = w1.heap.size := by omega
              have dCD : ¬ w1.heap.size + 1 = w4.heap.size := by omega
              have dCE : ¬ w1.heap.size + 1 = w4.heap.size + 1 := by omega
              have dDA : ¬ w4.heap.size = w1.heap.size := by omega
              have dDC : ¬ w4.heap.size = w1.heap.size + 1 := by omega
              have dDE : ¬ w4.heap.size = w4.heap.size + 1 := by omega
              have dEA : ¬ w4.heap.size + 1 = w1.heap.size := by omega
              have dEC : ¬ w4.heap.size + 1 = w1.heap.size + 1 := by omega
              have dED : ¬ w4.heap.size + 1 = w4.heap.size := by omega
              go_wp2_with fail
              go_ret
              exact ⟨by first | rfl | (simp; done) | (simp; omega), by repeat (first | (with_reducible exact B0) | (with_reducible refine Below.al ?_ _) | (with_reducible refine Below.drew ?_))⟩
          · have hkb : (k != k') = true := by simpa using hk
            clear hid
            have haa : (a == a && b == b) = true := by simp
            go_wp2_with fail
            refine (spec_IsValidUSIM a b k l _).mono ?_
            rw [hV1]
            rintro e w2 ⟨rfl, ha2⟩
            have b2 := below_of_alloc2 ha2
            clear ha2
            have NA : Hid (w2.heap[w1.heap.size]? = some (.cells #[.int .i64 a, .int .i64 b, .int .i64 k, .int .i64 l] 30 (0, 0))) := Lib.hid (cells_of_below b2 (by (repeat (first | ((with_reducible refine newBlk _ _ _ _ ?_); (first | rfl | (simp; done))) | ((with_reducible refine bxSetNe ?_ _ _ ?_); (rotate_left); (first | omega | (simp; omega))) | (with_reducible refine drewBlk ?_) | (with_reducible refine oldBlk _ ?_)))))
            have NC : Hid (w2.heap[w1.heap.size + 1]? = some (.cells #[.int .i64 a, .int .i64 b, .int .i64 k', .int .i64 s] 32 (0, 0))) := Lib.hid (cells_of_below b2 (by (repeat (first | ((with_reducible refine newBlk _ _ _ _ ?_); (first | rfl | (simp; done))) | ((with_reducible refine bxSetNe ?_ _ _ ?_); (rotate_left); (first | omega | (simp; omega))) | (with_reducible refine drewBlk ?_) | (with_reducible refine oldBlk _ ?_)))))
            have NO : Below w.heap.size w w2 := Below.next (by (repeat (first | (with_reducible exact B0) | ((with_reducible refine Below.st ?_ _ _ _ ?_); (rotate_left); (first | omega | (simp; omega))) | (with_reducible refine Below.al ?_ _) | (with_reducible refine Below.drew ?_)))) b2
            clear B0
            have HA := NA
            have HC := NC
            have B0 := NO
            clear NA NC NO
            have lA_2 : w1.heap.size < w2.heap.size := (Array.getElem?_eq_some_iff.1 HA.out).1
            have lC_2 : w1.heap.size + 1 < w2.heap.size := (Array.getElem?_eq_some_iff.1 HC.out).1
            have zz2 := B0.size
            clear b2
            have cC0 := cell_of HC.out 0
            have cC1 := cell_of HC.out 1
            have cC2 := cell_of HC.out 2
            have cC3 := cell_of HC.out 3
            simp only [List.getElem?_toArray, List.getElem?_cons_zero, List.getElem?_cons_succ] at cC0 cC1 cC2 cC3
            have fC := free_of HC.out
            have sne := bxNe
            have dAC : ¬ w1.heap.size = w1.heap.size + 1 := by omega
            have dCA : ¬ w1.heap.size + 1 = w1.heap.size := by omega
            go_wp2_with fail
            refine (spec_IsValidSubscriberRecord a b k' s _).mono ?_
            rw [hV2]
            rintro e w3 ⟨rfl, ha3⟩
            have b3 := below_of_alloc2 ha3
            clear ha3
            have NA : Hid (w3.heap[w1.heap.size]? = some (.cells #[.int .i64 a, .int .i64 b, .int .i64 k, .int .i64 l] 30 (0, 0))) := Lib.hid (cells_of_below b3 (by (repeat (first | (with_reducible exact HA.out) | (with_reducible exact HC.out) | ((with_reducible refine newBlk _ _ _ _ ?_); (first | rfl | (simp; done))) | ((with_reducible refine bxSetNe ?_ _ _ ?_); (rotate_left); (first | omega | (simp; omega))) | (with_reducible refine drewBlk ?_) | (with_reducible refine oldBlk _ ?_)))))
            have NC : Hid (w3.heap[w1.heap.size + 1]? = some (.cells #[.int .i64 a, .int .i64 b, .int .i64 k', .int .i64 s] 32 (0, 0))) := Lib.hid (cells_of_below b3 (by (repeat (first | (with_reducible exact HA.out) | (with_reducible exact HC.out) | ((with_reducible refine newBlk _ _ _ _ ?_); (first | rfl | (simp; done))) | ((with_reducible refine bxSetNe ?_ _ _ ?_); (rotate_left); (first | omega | (simp; omega))) | (with_reducible refine drewBlk ?_) | (with_reducible refine oldBlk _ ?_)))))
            have NO : Below w.heap.size w w3 := Below.next (by (repeat (first | (with_reducible exact B0) | ((with_reducible refine Below.st ?_ _ _ _ ?_); (rotate_left); (first | omega | (simp; omega))) | (with_reducible refine Below.al ?_ _) | (with_reducible refine Below.drew ?_)))) b3
            clear cC0 cC1 cC2 cC3 fC sne dAC dCA HA HC B0
            have HA := NA
            have HC := NC
            have B0 := NO
            clear NA NC NO
            have lA_3 : w1.heap.size < w3.heap.size := (Array.getElem?_eq_some_iff.1 HA.out).1
            have lC_3 : w1.heap.size + 1 < w3.heap.size := (Array.getElem?_eq_some_iff.1 HC.out).1
            have zz3 := B0.size
            clear b3
            have cA0 := cell_of HA.out 0
            have cA1 := cell_of HA.out 1
            have cA2 := cell_of HA.out 2
            have cA3 := cell_of HA.out 3
            have cC0 := cell_of HC.out 0
            have cC1 := cell_of HC.out 1
            have cC2 := cell_of HC.out 2
            have cC3 := cell_of HC.out 3
            simp only [List.getElem?_toArray, List.getElem?_cons_zero, List.getElem?_cons_succ] at cA0 cA1 cA2 cA3 cC0 cC1 cC2 cC3
            have fA := free_of HA.out
            have fC := free_of HC.out
            have sne := bxNe
            have dAC : ¬ w1.heap.size = w1.heap.size + 1 := by omega
            have dCA : ¬ w1.heap.size + 1 = w1.heap.size := by omega
            go_wp2_with fail
            refine (impl_IsValidUSIM a b k l _).mono ?_
            rw [hV1]
            rintro e w4 ⟨rfl, ha4⟩
            have b4 := below_of_alloc2 ha4
            clear ha4
            have NA : Hid (w4.heap[w1.heap.size]? = some (.cells #[.int .i64 a, .int .i64 b, .int .i64 k, .int .i64 l] 30 (0, 0))) := Lib.hid (cells_of_below b4 (by (repeat (first | (with_reducible exact HA.out) | (with_reducible exact HC.out) | ((with_reducible refine newBlk _ _ _ _ ?_); (first | rfl | (simp; done))) | ((with_reducible refine bxSetNe ?_ _ _ ?_); (rotate_left); (first | omega | (simp; omega))) | (with_reducible refine drewBlk ?_) | (with_reducible refine oldBlk _ ?_)))))
            have NC : Hid (w4.heap[w1.heap.size + 1]? = some (.cells #[.int .i64 a, .int .i64 b, .int .i64 k', .int .i64 s] 32 (0, 0))) := Lib.hid (cells_of_below b4 (by (repeat (first | (with_reducible exact HA.out) | (with_reducible exact HC.out) | ((with_reducible refine newBlk _ _ _ _ ?_); (first | rfl | (simp; done))) | ((with_reducible refine bxSetNe ?_ _ _ ?_); (rotate_left); (first | omega | (simp; omega))) | (with_reducible refine drewBlk ?_) | (with_reducible refine oldBlk _ ?_)))))
            have NO : Below w.heap.size w w4 := Below.next (by (repeat (first | (with_reducible exact B0) | ((with_reducible refine Below.st ?_ _ _ _ ?_); (rotate_left); (first | omega | (simp; omega))) | (with_reducible refine Below.al ?_ _) | (with_reducible refine Below.drew ?_)))) b4
            clear cA0 cA1 cA2 cA3 cC0 cC1 cC2 cC3 fA fC sne dAC dCA HA HC B0
            have HA := NA
            have HC := NC
            have B0 := NO
            clear NA NC NO
            have lA_4 : w1.heap.size < w4.heap.size := (Array.getElem?_eq_some_iff.1 HA.out).1
            have lC_4 : w1.heap.size + 1 < w4.heap.size := (Array.getElem?_eq_some_iff.1 HC.out).1
            have zz4 := B0.size
            clear b4
            have cC0 := cell_of HC.out 0
            have cC1 := cell_of HC.out 1
            have cC2 := cell_of HC.out 2
            have cC3 := cell_of HC.out 3
            simp only [List.getElem?_toArray, List.getElem?_cons_zero, List.getElem?_cons_succ] at cC0 cC1 cC2 cC3
            have fC := free_of HC.out
            have sne := bxNe
            have dAC : ¬ w1.heap.size = w1.heap.size + 1 := by omega
            have dCA : ¬ w1.heap.size + 1 = w1.heap.size := by omega
            go_wp2_with fail
            refine (impl_IsValidSubscriberRecord a b k' s _).mono ?_
            rw [hV2]
            rintro e w5 ⟨rfl, ha5⟩
            have b5 := below_of_alloc2 ha5
            clear ha5
            have NA : Hid (w5.heap[w1.heap.size]? = some (.cells #[.int .i64 a, .int .i64 b, .int .i64 k, .int .i64 l] 30 (0, 0))) := Lib.hid (cells_of_below b5 (by (repeat (first | (with_reducible exact HA.out) | (with_reducible exact HC.out) | ((with_reducible refine newBlk _ _ _ _ ?_); (first | rfl | (simp; done))) | ((with_reducible refine bxSetNe ?_ _ _ ?_); (rotate_left); (first | omega | (simp; omega))) | (with_reducible refine drewBlk ?_) | (with_reducible refine oldBlk _ ?_)))))
            have NC : Hid (w5.heap[w1.heap.size + 1]? = some (.cells #[.int .i64 a, .int .i64 b, .int .i64 k', .int .i64 s] 32 (0, 0))) := Lib.hid (cells_of_below b5 (by (repeat (first | (with_reducible exact HA.out) | (with_reducible exact HC.out) | ((with_reducible refine newBlk _ _ _ _ ?_); (first | rfl | (simp; done))) | ((with_reducible refine bxSetNe ?_ _ _ ?_); (rotate_left); (first | omega | (simp; omega))) | (with_reducible refine drewBlk ?_) | (with_reducible refine oldBlk _ ?_)))))
            have NO : Below w.heap.size w w5 := Below.next (by (repeat (first | (with_reducible exact B0) | ((with_reducible refine Below.st ?_ _ _ _ ?_); (rotate_left); (first | omega | (simp; omega))) | (with_reducible refine Below.al ?_ _) | (with_reducible refine Below.drew ?_)))) b5
            clear cC0 cC1 cC2 cC3 fC sne dAC dCA HA HC B0
            have HA := NA
            have HC := NC
            have B0 := NO
            clear NA NC NO
            have lA_5 : w1.heap.size < w5.heap.size := (Array.getElem?_eq_some_iff.1 HA.out).1
            have lC_5 : w1.heap.size + 1 < w5.heap.size := (Array.getElem?_eq_some_iff.1 HC.out).1
            have zz5 := B0.size
            clear b5
            have cA0 := cell_of HA.out 0
            have cA1 := cell_of HA.out 1
            have cA2 := cell_of HA.out 2
            have cA3 := cell_of HA.out 3
            have cC0 := cell_of HC.out 0
            have cC1 := cell_of HC.out 1
            have cC2 := cell_of HC.out 2
            have cC3 := cell_of HC.out 3
            simp only [List.getElem?_toArray, List.getElem?_cons_zero, List.getElem?_cons_succ] at cA0 cA1 cA2 cA3 cC0 cC1 cC2 cC3
            have fA := free_of HA.out
            have fC := free_of HC.out
            have sne := bxNe
            have dAC : ¬ w1.heap.size = w1.heap.size + 1 := by omega
            have dCA : ¬ w1.heap.size + 1 = w1.heap.size := by omega
            go_wp2_with fail
            go_ret
            exact ⟨by first | rfl | (simp; done) | (simp; omega), by repeat (first | (with_reducible exact B0) | (with_reducible refine Below.al ?_ _) | (with_reducible refine Below.drew ?_))⟩
  · go_enter Try.func5, Try.ntmps5
    go_wp2_with fail
    refine (laws_big_yes _ _ _ _ (by omega)).mono ?_
    rintro e w' ⟨rfl, rfl⟩
    go_wp2_with fail
    go_ret
    exact ⟨rfl, Below.refl _ _⟩

/-! The row: the frame round the walk. -/
theorem own : ownKnob Try.prog.godebug = none := by kernel_rfl
theorem laidOut : laidOutB Try.prog = true := by kernel_rfl
set_option maxRecDepth 100000 in
theorem lifted (os : Os) (started : os.Started) (H : Type) (enc : TypeId × Value → H) :
    ReturnsInHanded {} Try.checked os 5 .any (Rows.fnAuthenticationSpec.pre6 enc Try.prog Try.f5 Rows.fnAuthenticationRow.domain false) (Rows.fnAuthenticationSpec.post enc Try.prog Try.f5 false true false false) := by
  refine returnsInHanded_of_change (C := Try.checked) own started (by kernel_rfl) Try.func5
    (ChangeSpec.witness6 (enc := enc) (C := Try.checked) false ⟨#[], #[.slice none 0 0], []⟩ 8 (by kernel_rfl) (by kernel_rfl) (by kernel_rfl) (by kernel_rfl)) ?_
  intro W base args ds gs before hval0 hW hcnd _
  have hval : ∀ (j : Nat) t v, Try.f5.params[j]? = some t → args[j]? = some v → Value.okWide Try.prog W .any base t v := hval0
  have hW' := hW
  obtain ⟨p, q, hA0, hV, rfl, hfz, hnd⟩ := hW
  have hA : DataW.TrodAll enc Try.prog W 0 (fun _ => true) true Try.f5.params.toList args.toList ds p := hA0
  rw [Try.params5] at hA hval
  obtain ⟨v0, vs0, d0, ds0, p0, q0, hargs, rfl, rfl, h0, rr0⟩ := trodAll_cons hA
  obtain ⟨rfl, rfl, rfl⟩ := trodAll_nil rr0
  obtain rfl : args = #[v0] := by cases args; simp_all
  obtain ⟨rfl, rfl⟩ := trodVars_none hV
  have k0 := h0
  have lt0 : ∀ x ∈ p0, x.block < W.heap.size := by obtain ⟨m, hm⟩ := k0; exact DataW.trod_lt m _ _ _ hm
  obtain ⟨a0, len0, cap0, rfl⟩ := okWide_slice Try.underlying40 (hval 0 40 v0 rfl rfl)
  obtain ⟨z0, _, r0, w0⟩ := rd_of_trod Try.underlying40 Try.underlying5 (by kernel_rfl) (fun _ => rfl) h0
  clear hA0 hval0
  refine (walk _ z0 W r0 w0).mono fun e W' ⟨he, bel⟩ => ?_
  subst he
  exact ⟨_, rfl, _, _, _, [], _, [], hW', trodAll_mk1 (shut_bool Try.underlying4 _), (trodAll_cons_mk (Below.trod laidOut (by kernel_rfl) (of_decide_eq_true (by kernel_rfl)) k0 bel lt0) trodAll_mk0), rfl, bel.frame _, fun h => by cases h⟩
theorem over : Rows.fnAuthenticationRow.holds Try.pinned (OpenSpec.ofChange Rows.fnAuthenticationSpec) :=
  OpenClaim.holds_of_wide 5 Try.f5 rfl rfl rfl rfl rfl rfl rfl ⟨rfl, rfl, rfl, rfl, rfl⟩ rfl rfl rfl rfl rfl (by kernel_rfl) Try.func5 (by kernel_rfl)
    (of_decide_eq_true (by kernel_rfl)) (by unfold Func.isWrapper; first | (rw [if_pos (by decide +kernel)]; kernel_rfl) | (rw [if_neg (by decide +kernel)]; exact ⟨rfl, rfl⟩))
    (fun os started H enc _ => lifted os started H enc)
/-- THE STATEMENT -/
theorem proved : Rows.FnAuthenticationSaid := over
#print axioms proved
end Go.Proofs.Ytfenmicakmjelaa.lawFnAuthentication
