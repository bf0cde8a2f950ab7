/-
  Contracts: cards, records and vectors drawn, second part.
-/
import Derived.Test.YtfenmicakmjelaaDraw6
namespace Go.Proofs.Ytfenmicakmjelaa
open Go.RowKit

set_option maxRecDepth 100000 in
set_option maxHeartbeats 8000000 in
theorem spec_l6Any (g : Nat) (zs : List Int) (w : World) (hc : Cur w g zs) :
    Calls Try.prog 58 #[.pointer (some ⟨g, 0, none⟩)] w (DrewUR g zs w) := by
  have hgw := hc.lt
  have HP := Lib.hid (newBlk w #[.int .i64 0, .int .i64 0, .int .i64 0, .int .i64 0] 30 (w.heap.size) (by simp))
  replace HP := Lib.hid (oldBlk (.cells #[.int .i64 0, .int .i64 0, .int .i64 0, .int .i64 0] 32) HP.out)
  have HQ := Lib.hid (newBlk (w.alloc (.cells #[.int .i64 0, .int .i64 0, .int .i64 0, .int .i64 0] 30)) #[.int .i64 0, .int .i64 0, .int .i64 0, .int .i64 0] 32 (w.heap.size + 1) (by simp))
  have hc0 : Cur ((w.alloc (.cells #[.int .i64 0, .int .i64 0, .int .i64 0, .int .i64 0] 30)).alloc (.cells #[.int .i64 0, .int .i64 0, .int .i64 0, .int .i64 0] 32)) g zs := by repeat (first | exact hc | refine Cur.al ?_ _)
  have HO : Only g w ((w.alloc (.cells #[.int .i64 0, .int .i64 0, .int .i64 0, .int .i64 0] 30)).alloc (.cells #[.int .i64 0, .int .i64 0, .int .i64 0, .int .i64 0] 32)) := by repeat (first | exact Only.refl g w | refine Only.al ?_ _)
  have lP_0 : w.heap.size < ((w.alloc (.cells #[.int .i64 0, .int .i64 0, .int .i64 0, .int .i64 0] 30)).alloc (.cells #[.int .i64 0, .int .i64 0, .int .i64 0, .int .i64 0] 32)).heap.size := (Array.getElem?_eq_some_iff.1 HP.out).1
  have lQ_0 : w.heap.size + 1 < ((w.alloc (.cells #[.int .i64 0, .int .i64 0, .int .i64 0, .int .i64 0] 30)).alloc (.cells #[.int .i64 0, .int .i64 0, .int .i64 0, .int .i64 0] 32)).heap.size := (Array.getElem?_eq_some_iff.1 HQ.out).1
  clear hc
  go_enter Try.func58, Try.ntmps58
  go_wp2_with fail
  refine (spec_l6Pair g zs _ (by (repeat (first | (with_reducible exact hc0) | (with_reducible refine Cur.al ?_ _) | ((with_reducible refine Cur.st ?_ ?_ _); (rotate_left); (first | omega | (simp; omega))) | (with_reducible refine Cur.drew1 ?_))))).mono ?_
  rintro e w1 ⟨a, b, k, l, a', b', k', s, ⟨⟨ya, yb, yk, yl⟩, ya', yb', yk', ys⟩, rfl, hc1, ho1⟩
  have NP : Hid (w1.heap[w.heap.size]? = some (.cells #[.int .i64 0, .int .i64 0, .int .i64 0, .int .i64 0] 30 (0, 0))) := Lib.hid (Only.blk ho1 (by (repeat (first | (with_reducible exact HP.out) | (with_reducible exact HQ.out) | ((with_reducible refine newBlk _ _ _ _ ?_); (first | rfl | (simp; done))) | ((with_reducible refine bxSetNe ?_ _ _ ?_); (rotate_left); (first | omega | (simp; omega))) | (with_reducible refine drewBlk ?_) | (with_reducible refine oldBlk _ ?_)))) (by omega))
  have NQ : Hid (w1.heap[w.heap.size + 1]? = some (.cells #[.int .i64 0, .int .i64 0, .int .i64 0, .int .i64 0] 32 (0, 0))) := Lib.hid (Only.blk ho1 (by (repeat (first | (with_reducible exact HP.out) | (with_reducible exact HQ.out) | ((with_reducible refine newBlk _ _ _ _ ?_); (first | rfl | (simp; done))) | ((with_reducible refine bxSetNe ?_ _ _ ?_); (rotate_left); (first | omega | (simp; omega))) | (with_reducible refine drewBlk ?_) | (with_reducible refine oldBlk _ ?_)))) (by omega))
  have NO : Only g w w1 := Only.trans (by (repeat (first | (with_reducible exact HO) | (with_reducible refine Only.al ?_ _) | ((with_reducible refine Only.st ?_ ?_ _); (rotate_left); (first | omega | (simp; omega))) | (with_reducible refine Only.drew1 ?_)))) ho1
  clear HP HQ HO hc0
  have HP := NP
  have HQ := NQ
  have HO := NO
  clear NP NQ NO
  have lP_1 : w.heap.size < w1.heap.size := (Array.getElem?_eq_some_iff.1 HP.out).1
  have lQ_1 : w.heap.size + 1 < w1.heap.size := (Array.getElem?_eq_some_iff.1 HQ.out).1
  have zz1 := HO.size
  clear ho1
  go_wp2_with fail
  refine (spec_l1Below g zs 12 _ (by omega) (by (repeat (first | (with_reducible exact hc1) | (with_reducible refine Cur.al ?_ _) | ((with_reducible refine Cur.st ?_ ?_ _); (rotate_left); (first | omega | (simp; omega))) | (with_reducible refine Cur.drew1 ?_))))).mono ?_
  rintro e w2 ⟨x, qx, rfl, hc2, ho2⟩
  have NP : Hid (w2.heap[w.heap.size]? = some (.cells #[.int .i64 0, .int .i64 0, .int .i64 0, .int .i64 0] 30 (0, 0))) := Lib.hid (Only.blk ho2 (by (repeat (first | (with_reducible exact HP.out) | (with_reducible exact HQ.out) | ((with_reducible refine newBlk _ _ _ _ ?_); (first | rfl | (simp; done))) | ((with_reducible refine bxSetNe ?_ _ _ ?_); (rotate_left); (first | omega | (simp; omega))) | (with_reducible refine drewBlk ?_) | (with_reducible refine oldBlk _ ?_)))) (by omega))
  have NQ : Hid (w2.heap[w.heap.size + 1]? = some (.cells #[.int .i64 0, .int .i64 0, .int .i64 0, .int .i64 0] 32 (0, 0))) := Lib.hid (Only.blk ho2 (by (repeat (first | (with_reducible exact HP.out) | (with_reducible exact HQ.out) | ((with_reducible refine newBlk _ _ _ _ ?_); (first | rfl | (simp; done))) | ((with_reducible refine bxSetNe ?_ _ _ ?_); (rotate_left); (first | omega | (simp; omega))) | (with_reducible refine drewBlk ?_) | (with_reducible refine oldBlk _ ?_)))) (by omega))
  have NA : Hid (w2.heap[w1.heap.size]? = some (.cells #[.int .i64 a, .int .i64 b, .int .i64 k, .int .i64 l] 30 (0, 0))) := Lib.hid (Only.blk ho2 (by (repeat (first | (with_reducible exact HP.out) | (with_reducible exact HQ.out) | ((with_reducible refine newBlk _ _ _ _ ?_); (first | rfl | (simp; done))) | ((with_reducible refine bxSetNe ?_ _ _ ?_); (rotate_left); (first | omega | (simp; omega))) | (with_reducible refine drewBlk ?_) | (with_reducible refine oldBlk _ ?_)))) (by omega))
  have NC : Hid (w2.heap[w1.heap.size + 1]? = some (.cells #[.int .i64 a', .int .i64 b', .int .i64 k', .int .i64 s] 32 (0, 0))) := Lib.hid (Only.blk ho2 (by (repeat (first | (with_reducible exact HP.out) | (with_reducible exact HQ.out) | ((with_reducible refine newBlk _ _ _ _ ?_); (first | rfl | (simp; done))) | ((with_reducible refine bxSetNe ?_ _ _ ?_); (rotate_left); (first | omega | (simp; omega))) | (with_reducible refine drewBlk ?_) | (with_reducible refine oldBlk _ ?_)))) (by omega))
  have NO : Only g w w2 := Only.trans (by (repeat (first | (with_reducible exact HO) | (with_reducible refine Only.al ?_ _) | ((with_reducible refine Only.st ?_ ?_ _); (rotate_left); (first | omega | (simp; omega))) | (with_reducible refine Only.drew1 ?_)))) ho2
  clear HP HQ HO hc1
  have HP := NP
  have HQ := NQ
  have HA := NA
  have HC := NC
  have HO := NO
  clear NP NQ NA NC NO
  have lP_2 : w.heap.size < w2.heap.size := (Array.getElem?_eq_some_iff.1 HP.out).1
  have lQ_2 : w.heap.size + 1 < w2.heap.size := (Array.getElem?_eq_some_iff.1 HQ.out).1
  have lA_2 : w1.heap.size < w2.heap.size := (Array.getElem?_eq_some_iff.1 HA.out).1
  have lC_2 : w1.heap.size + 1 < w2.heap.size := (Array.getElem?_eq_some_iff.1 HC.out).1
  have zz2 := HO.size
  clear ho2
  obtain ⟨x0, x1⟩ := qx.bd (by omega)
  clear qx
  obtain rfl | rfl | rfl | rfl | rfl | hx : x = 0 ∨ x = 1 ∨ x = 2 ∨ x = 3 ∨ x = 4 ∨ 5 ≤ x := by omega
  · go_wp2_with fail
    refine (spec_l1Int_lit g zs [0, 100, 2147483647] _ (by (repeat (first | (with_reducible exact hc2) | (with_reducible refine Cur.al ?_ _) | ((with_reducible refine Cur.st ?_ ?_ _); (rotate_left); (first | omega | (simp; omega))) | (with_reducible refine Cur.drew1 ?_)))) (by decide) (by decide)).mono ?_
    rintro e w3 ⟨y, qy, rfl, hc3, ho3⟩
    have NP : Hid (w3.heap[w.heap.size]? = some (.cells #[.int .i64 0, .int .i64 0, .int .i64 0, .int .i64 0] 30 (0, 0))) := Lib.hid (Only.blk ho3 (by (repeat (first | (with_reducible exact HP.out) | (with_reducible exact HQ.out) | (with_reducible exact HA.out) | (with_reducible exact HC.out) | ((with_reducible refine newBlk _ _ _ _ ?_); (first | rfl | (simp; done))) | ((with_reducible refine bxSetNe ?_ _ _ ?_); (rotate_left); (first | omega | (simp; omega))) | (with_reducible refine drewBlk ?_) | (with_reducible refine oldBlk _ ?_)))) (by omega))
    have NQ : Hid (w3.heap[w.heap.size + 1]? = some (.cells #[.int .i64 0, .int .i64 0, .int .i64 0, .int .i64 0] 32 (0, 0))) := Lib.hid (Only.blk ho3 (by (repeat (first | (with_reducible exact HP.out) | (with_reducible exact HQ.out) | (with_reducible exact HA.out) | (with_reducible exact HC.out) | ((with_reducible refine newBlk _ _ _ _ ?_); (first | rfl | (simp; done))) | ((with_reducible refine bxSetNe ?_ _ _ ?_); (rotate_left); (first | omega | (simp; omega))) | (with_reducible refine drewBlk ?_) | (with_reducible refine oldBlk _ ?_)))) (by omega))
    have NA : Hid (w3.heap[w1.heap.size]? = some (.cells #[.int .i64 a, .int .i64 b, .int .i64 k, .int .i64 l] 30 (0, 0))) := Lib.hid (Only.blk ho3 (by (repeat (first | (with_reducible exact HP.out) | (with_reducible exact HQ.out) | (with_reducible exact HA.out) | (with_reducible exact HC.out) | ((with_reducible refine newBlk _ _ _ _ ?_); (first | rfl | (simp; done))) | ((with_reducible refine bxSetNe ?_ _ _ ?_); (rotate_left); (first | omega | (simp; omega))) | (with_reducible refine drewBlk ?_) | (with_reducible refine oldBlk _ ?_)))) (by omega))
    have NC : Hid (w3.heap[w1.heap.size + 1]? = some (.cells #[.int .i64 a', .int .i64 b', .int .i64 k', .int .i64 s] 32 (0, 0))) := Lib.hid (Only.blk ho3 (by (repeat (first | (with_reducible exact HP.out) | (with_reducible exact HQ.out) | (with_reducible exact HA.out) | (with_reducible exact HC.out) | ((with_reducible refine newBlk _ _ _ _ ?_); (first | rfl | (simp; done))) | ((with_reducible refine bxSetNe ?_ _ _ ?_); (rotate_left); (first | omega | (simp; omega))) | (with_reducible refine drewBlk ?_) | (with_reducible refine oldBlk _ ?_)))) (by omega))
    have NO : Only g w w3 := Only.trans (by (repeat (first | (with_reducible exact HO) | (with_reducible refine Only.al ?_ _) | ((with_reducible refine Only.st ?_ ?_ _); (rotate_left); (first | omega | (simp; omega))) | (with_reducible refine Only.drew1 ?_)))) ho3
    clear HP HQ HA HC HO hc2
    have HP := NP
    have HQ := NQ
    have HA := NA
    have HC := NC
    have HO := NO
    clear NP NQ NA NC NO
    have lP_3 : w.heap.size < w3.heap.size := (Array.getElem?_eq_some_iff.1 HP.out).1
    have lQ_3 : w.heap.size + 1 < w3.heap.size := (Array.getElem?_eq_some_iff.1 HQ.out).1
    have lA_3 : w1.heap.size < w3.heap.size := (Array.getElem?_eq_some_iff.1 HA.out).1
    have lC_3 : w1.heap.size + 1 < w3.heap.size := (Array.getElem?_eq_some_iff.1 HC.out).1
    have zz3 := HO.size
    clear ho3
    have yy : Sm y := by obtain ⟨q0, q1⟩ := mem_in (lo := -1) (hi := 4294967296) (by decide) qy; exact ⟨q0, q1⟩
    clear qy
    have cP0 := cell_of HP.out 0
    have cP1 := cell_of HP.out 1
    have cP2 := cell_of HP.out 2
    have cP3 := cell_of HP.out 3
    have cQ0 := cell_of HQ.out 0
    have cQ1 := cell_of HQ.out 1
    have cQ2 := cell_of HQ.out 2
    have cQ3 := cell_of HQ.out 3
    have cA0 := cell_of HA.out 0
    have cA1 := cell_of HA.out 1
    have cA2 := cell_of HA.out 2
    have cA3 := cell_of HA.out 3
    have cC0 := cell_of HC.out 0
    have cC1 := cell_of HC.out 1
    have cC2 := cell_of HC.out 2
    have cC3 := cell_of HC.out 3
    simp only [List.getElem?_toArray, List.getElem?_cons_zero, List.getElem?_cons_succ] at cP0 cP1 cP2 cP3 cQ0 cQ1 cQ2 cQ3 cA0 cA1 cA2 cA3 cC0 cC1 cC2 cC3
    have fP := free_of HP.out
    have fQ := free_of HQ.out
    have fA := free_of HA.out
    have fC := free_of HC.out
    have sne := bxNe
    have dPQ : ¬ w.heap.size = w.heap.size + 1 := by omega
    have dPA : ¬ w.heap.size = w1.heap.size := by omega
    have dPC : ¬ w.heap.size = w1.heap.size + 1 := by omega
    have dQP : ¬ w.heap.size + 1 = w.heap.size := by omega
    have dQA : ¬ w.heap.size + 1 = w1.heap.size := by omega
    have dQC : ¬ w.heap.size + 1 = w1.heap.size + 1 := by omega
    have dAP : ¬ w1.heap.size = w.heap.size := by omega
    have dAQ : ¬ w1.heap.size = w.heap.size + 1 := by omega
    have dAC : ¬ w1.heap.size = w1.heap.size + 1 := by omega
    have dCP : ¬ w1.heap.size + 1 = w.heap.size := by omega
    have dCQ : ¬ w1.heap.size + 1 = w.heap.size + 1 := by omega
    have dCA : ¬ w1.heap.size + 1 = w1.heap.size := by omega
    go_wp2_with fail
    go_region
    all_goals
      go_wp2_with fail
      refine bodyPost_ret (v := .tuple #[.agg #[.int .i64 a, .int .i64 b, .int .i64 y, .int .i64 l], .agg #[.int .i64 a', .int .i64 b', .int .i64 k', .int .i64 s]]) (by simp [results, Try.results58, go_sem, *]) rfl ?_
      exact ⟨a, b, y, l, a', b', k', s, ⟨⟨by assumption, by assumption, by assumption, by assumption⟩, by assumption, by assumption, by assumption, by assumption⟩, rfl, by (repeat (first | (with_reducible exact hc3) | (with_reducible refine Cur.al ?_ _) | ((with_reducible refine Cur.st ?_ ?_ _); (rotate_left); (first | omega | (simp; omega))) | (with_reducible refine Cur.drew1 ?_))), by (repeat (first | (with_reducible exact HO) | (with_reducible refine Only.al ?_ _) | ((with_reducible refine Only.st ?_ ?_ _); (rotate_left); (first | omega | (simp; omega))) | (with_reducible refine Only.drew1 ?_)))⟩
  · go_wp2_with fail
    refine (spec_l1Int_lit g zs [0, 100] _ (by (repeat (first | (with_reducible exact hc2) | (with_reducible refine Cur.al ?_ _) | ((with_reducible refine Cur.st ?_ ?_ _); (rotate_left); (first | omega | (simp; omega))) | (with_reducible refine Cur.drew1 ?_)))) (by decide) (by decide)).mono ?_
    rintro e w3 ⟨y, qy, rfl, hc3, ho3⟩
    have NP : Hid (w3.heap[w.heap.size]? = some (.cells #[.int .i64 0, .int .i64 0, .int .i64 0, .int .i64 0] 30 (0, 0))) := Lib.hid (Only.blk ho3 (by (repeat (first | (with_reducible exact HP.out) | (with_reducible exact HQ.out) | (with_reducible exact HA.out) | (with_reducible exact HC.out) | ((with_reducible refine newBlk _ _ _ _ ?_); (first | rfl | (simp; done))) | ((with_reducible refine bxSetNe ?_ _ _ ?_); (rotate_left); (first | omega | (simp; omega))) | (with_reducible refine drewBlk ?_) | (with_reducible refine oldBlk _ ?_)))) (by omega))
    have NQ : Hid (w3.heap[w.heap.size + 1]? = some (.cells #[.int .i64 0, .int .i64 0, .int .i64 0, .int .i64 0] 32 (0, 0))) := Lib.hid (Only.blk ho3 (by (repeat (first | (with_reducible exact HP.out) | (with_reducible exact HQ.out) | (with_reducible exact HA.out) | (with_reducible exact HC.out) | ((with_reducible refine newBlk _ _ _ _ ?_); (first | rfl | (simp; done))) | ((with_reducible refine bxSetNe ?_ _ _ ?_); (rotate_left); (first | omega | (simp; omega))) | (with_reducible refine drewBlk ?_) | (with_reducible refine oldBlk _ ?_)))) (by omega))
    have NA : Hid (w3.heap[w1.heap.size]? = some (.cells #[.int .i64 a, .int .i64 b, .int .i64 k, .int .i64 l] 30 (0, 0))) := Lib.hid (Only.blk ho3 (by (repeat (first | (with_reducible exact HP.out) | (with_reducible exact HQ.out) | (with_reducible exact HA.out) | (with_reducible exact HC.out) | ((with_reducible refine newBlk _ _ _ _ ?_); (first | rfl | (simp; done))) | ((with_reducible refine bxSetNe ?_ _ _ ?_); (rotate_left); (first | omega | (simp; omega))) | (with_reducible refine drewBlk ?_) | (with_reducible refine oldBlk _ ?_)))) (by omega))
    have NC : Hid (w3.heap[w1.heap.size + 1]? = some (.cells #[.int .i64 a', .int .i64 b', .int .i64 k', .int .i64 s] 32 (0, 0))) := Lib.hid (Only.blk ho3 (by (repeat (first | (with_reducible exact HP.out) | (with_reducible exact HQ.out) | (with_reducible exact HA.out) | (with_reducible exact HC.out) | ((with_reducible refine newBlk _ _ _ _ ?_); (first | rfl | (simp; done))) | ((with_reducible refine bxSetNe ?_ _ _ ?_); (rotate_left); (first | omega | (simp; omega))) | (with_reducible refine drewBlk ?_) | (with_reducible refine oldBlk _ ?_)))) (by omega))
    have NO : Only g w w3 := Only.trans (by (repeat (first | (with_reducible exact HO) | (with_reducible refine Only.al ?_ _) | ((with_reducible refine Only.st ?_ ?_ _); (rotate_left); (first | omega | (simp; omega))) | (with_reducible refine Only.drew1 ?_)))) ho3
    clear HP HQ HA HC HO hc2
    have HP := NP
    have HQ := NQ
    have HA := NA
    have HC := NC
    have HO := NO
    clear NP NQ NA NC NO
    have lP_3 : w.heap.size < w3.heap.size := (Array.getElem?_eq_some_iff.1 HP.out).1
    have lQ_3 : w.heap.size + 1 < w3.heap.size := (Array.getElem?_eq_some_iff.1 HQ.out).1
    have lA_3 : w1.heap.size < w3.heap.size := (Array.getElem?_eq_some_iff.1 HA.out).1
    have lC_3 : w1.heap.size + 1 < w3.heap.size := (Array.getElem?_eq_some_iff.1 HC.out).1
    have zz3 := HO.size
    clear ho3
    have yy : Sm y := by obtain ⟨q0, q1⟩ := mem_in (lo := -1) (hi := 4294967296) (by decide) qy; exact ⟨q0, q1⟩
    clear qy
    have cP0 := cell_of HP.out 0
    have cP1 := cell_of HP.out 1
    have cP2 := cell_of HP.out 2
    have cP3 := cell_of HP.out 3
    have cQ0 := cell_of HQ.out 0
    have cQ1 := cell_of HQ.out 1
    have cQ2 := cell_of HQ.out 2
    have cQ3 := cell_of HQ.out 3
    have cA0 := cell_of HA.out 0
    have cA1 := cell_of HA.out 1
    have cA2 := cell_of HA.out 2
    have cA3 := cell_of HA.out 3
    have cC0 := cell_of HC.out 0
    have cC1 := cell_of HC.out 1
    have cC2 := cell_of HC.out 2
    have cC3 := cell_of HC.out 3
    simp only [List.getElem?_toArray, List.getElem?_cons_zero, List.getElem?_cons_succ] at cP0 cP1 cP2 cP3 cQ0 cQ1 cQ2 cQ3 cA0 cA1 cA2 cA3 cC0 cC1 cC2 cC3
    have fP := free_of HP.out
    have fQ := free_of HQ.out
    have fA := free_of HA.out
    have fC := free_of HC.out
    have sne := bxNe
    have dPQ : ¬ w.heap.size = w.heap.size + 1 := by omega
    have dPA : ¬ w.heap.size = w1.heap.size := by omega
    have dPC : ¬ w.heap.size = w1.heap.size + 1 := by omega
    have dQP : ¬ w.heap.size + 1 = w.heap.size := by omega
    have dQA : ¬ w.heap.size + 1 = w1.heap.size := by omega
    have dQC : ¬ w.heap.size + 1 = w1.heap.size + 1 := by omega
    have dAP : ¬ w1.heap.size = w.heap.size := by omega
    have dAQ : ¬ w1.heap.size = w.heap.size + 1 := by omega
    have dAC : ¬ w1.heap.size = w1.heap.size + 1 := by omega
    have dCP : ¬ w1.heap.size + 1 = w.heap.size := by omega
    have dCQ : ¬ w1.heap.size + 1 = w.heap.size + 1 := by omega
    have dCA : ¬ w1.heap.size + 1 = w1.heap.size := by omega
    go_wp2_with fail
    go_region
    all_goals
      go_wp2_with fail
      refine bodyPost_ret (v := .tuple #[.agg #[.int .i64 a, .int .i64 b, .int .i64 k, .int .i64 l], .agg #[.int .i64 a', .int .i64 b', .int .i64 y, .int .i64 s]]) (by simp [results, Try.results58, go_sem, *]) rfl ?_
      exact ⟨a, b, k, l, a', b', y, s, ⟨⟨by assumption, by assumption, by assumption, by assumption⟩, by assumption, by assumption, by assumption, by assumption⟩, rfl, by (repeat (first | (with_reducible exact hc3) | (with_reducible refine Cur.al ?_ _) | ((with_reducible refine Cur.st ?_ ?_ _); (rotate_left); (first | omega | (simp; omega))) | (with_reducible refine Cur.drew1 ?_))), by (repeat (first | (with_reducible exact HO) | (with_reducible refine Only.al ?_ _) | ((with_reducible refine Only.st ?_ ?_ _); (rotate_left); (first | omega | (simp; omega))) | (with_reducible refine Only.drew1 ?_)))⟩
  · go_wp2_with fail
    refine (spec_l1Int_lit g zs [-1, 999999, 1000000] _ (by (repeat (first | (with_reducible exact hc2) | (with_reducible refine Cur.al ?_ _) | ((with_reducible refine Cur.st ?_ ?_ _); (rotate_left); (first | omega | (simp; omega))) | (with_reducible refine Cur.drew1 ?_)))) (by decide) (by decide)).mono ?_
    rintro e w3 ⟨y, qy, rfl, hc3, ho3⟩
    have NP : Hid (w3.heap[w.heap.size]? = some (.cells #[.int .i64 0, .int .i64 0, .int .i64 0, .int .i64 0] 30 (0, 0))) := Lib.hid (Only.blk ho3 (by (repeat (first | (with_reducible exact HP.out) | (with_reducible exact HQ.out) | (with_reducible exact HA.out) | (with_reducible exact HC.out) | ((with_reducible refine newBlk _ _ _ _ ?_); (first | rfl | (simp; done))) | ((with_reducible refine bxSetNe ?_ _ _ ?_); (rotate_left); (first | omega | (simp; omega))) | (with_reducible refine drewBlk ?_) | (with_reducible refine oldBlk _ ?_)))) (by omega))
    have NQ : Hid (w3.heap[w.heap.size + 1]? = some (.cells #[.int .i64 0, .int .i64 0, .int .i64 0, .int .i64 0] 32 (0, 0))) := Lib.hid (Only.blk ho3 (by (repeat (first | (with_reducible exact HP.out) | (with_reducible exact HQ.out) | (with_reducible exact HA.out) | (with_reducible exact HC.out) | ((with_reducible refine newBlk _ _ _ _ ?_); (first | rfl | (simp; done))) | ((with_reducible refine bxSetNe ?_ _ _ ?_); (rotate_left); (first | omega | (simp; omega))) | (with_reducible refine drewBlk ?_) | (with_reducible refine oldBlk _ ?_)))) (by omega))
    have NA : Hid (w3.heap[w1.heap.size]? = some (.cells #[.int .i64 a, .int .i64 b, .int .i64 k, .int .i64 l] 30 (0, 0))) := Lib.hid (Only.blk ho3 (by (repeat (first | (with_reducible exact HP.out) | (with_reducible exact HQ.out) | (with_reducible exact HA.out) | (with_reducible exact HC.out) | ((with_reducible refine newBlk _ _ _ _ ?_); (first | rfl | (simp; done))) | ((with_reducible refine bxSetNe ?_ _ _ ?_); (rotate_left); (first | omega | (simp; omega))) | (with_reducible refine drewBlk ?_) | (with_reducible refine oldBlk _ ?_)))) (by omega))
    have NC : Hid (w3.heap[w1.heap.size + 1]? = some (.cells #[.int .i64 a', .int .i64 b', .int .i64 k', .int .i64 s] 32 (0, 0))) := Lib.hid (Only.blk ho3 (by (repeat (first | (with_reducible exact HP.out) | (with_reducible exact HQ.out) | (with_reducible exact HA.out) | (with_reducible exact HC.out) | ((with_reducible refine newBlk _ _ _ _ ?_); (first | rfl | (simp; done))) | ((with_reducible refine bxSetNe ?_ _ _ ?_); (rotate_left); (first | omega | (simp; omega))) | (with_reducible refine drewBlk ?_) | (with_reducible refine oldBlk _ ?_)))) (by omega))
    have NO : Only g w w3 := Only.trans (by (repeat (first | (with_reducible exact HO) | (with_reducible refine Only.al ?_ _) | ((with_reducible refine Only.st ?_ ?_ _); (rotate_left); (first | omega | (simp; omega))) | (with_reducible refine Only.drew1 ?_)))) ho3
    clear HP HQ HA HC HO hc2
    have HP := NP
    have HQ := NQ
    have HA := NA
    have HC := NC
    have HO := NO
    clear NP NQ NA NC NO
    have lP_3 : w.heap.size < w3.heap.size := (Array.getElem?_eq_some_iff.1 HP.out).1
    have lQ_3 : w.heap.size + 1 < w3.heap.size := (Array.getElem?_eq_some_iff.1 HQ.out).1
    have lA_3 : w1.heap.size < w3.heap.size := (Array.getElem?_eq_some_iff.1 HA.out).1
    have lC_3 : w1.heap.size + 1 < w3.heap.size := (Array.getElem?_eq_some_iff.1 HC.out).1
    have zz3 := HO.size
    clear ho3
    have yy : Sm y := by obtain ⟨q0, q1⟩ := mem_in (lo := -1) (hi := 4294967296) (by decide) qy; exact ⟨q0, q1⟩
    clear qy
    have cP0 := cell_of HP.out 0
    have cP1 := cell_of HP.out 1
    have cP2 := cell_of HP.out 2
    have cP3 := cell_of HP.out 3
    have cQ0 := cell_of HQ.out 0
    have cQ1 := cell_of HQ.out 1
    have cQ2 := cell_of HQ.out 2
    have cQ3 := cell_of HQ.out 3
    have cA0 := cell_of HA.out 0
    have cA1 := cell_of HA.out 1
    have cA2 := cell_of HA.out 2
    have cA3 := cell_of HA.out 3
    have cC0 := cell_of HC.out 0
    have cC1 := cell_of HC.out 1
    have cC2 := cell_of HC.out 2
    have cC3 := cell_of HC.out 3
    simp only [List.getElem?_toArray, List.getElem?_cons_zero, List.getElem?_cons_succ] at cP0 cP1 cP2 cP3 cQ0 cQ1 cQ2 cQ3 cA0 cA1 cA2 cA3 cC0 cC1 cC2 cC3
    have fP := free_of HP.out
    have fQ := free_of HQ.out
    have fA := free_of HA.out
    have fC := free_of HC.out
    have sne := bxNe
    have dPQ : ¬ w.heap.size = w.heap.size + 1 := by omega
    have dPA : ¬ w.heap.size = w1.heap.size := by omega
    have dPC : ¬ w.heap.size = w1.heap.size + 1 := by omega
    have dQP : ¬ w.heap.size + 1 = w.heap.size := by omega
    have dQA : ¬ w.heap.size + 1 = w1.heap.size := by omega
    have dQC : ¬ w.heap.size + 1 = w1.heap.size + 1 := by omega
    have dAP : ¬ w1.heap.size = w.heap.size := by omega
    have dAQ : ¬ w1.heap.size = w.heap.size + 1 := by omega
    have dAC : ¬ w1.heap.size = w1.heap.size + 1 := by omega
    have dCP : ¬ w1.heap.size + 1 = w.heap.size := by omega
    have dCQ : ¬ w1.heap.size + 1 = w.heap.size + 1 := by omega
    have dCA : ¬ w1.heap.size + 1 = w1.heap.size := by omega
    go_wp2_with fail
    go_region
    all_goals
      go_wp2_with fail
      refine bodyPost_ret (v := .tuple #[.agg #[.int .i64 a, .int .i64 b, .int .i64 k, .int .i64 l], .agg #[.int .i64 a', .int .i64 b', .int .i64 k', .int .i64 y]]) (by simp [results, Try.results58, go_sem, *]) rfl ?_
      exact ⟨a, b, k, l, a', b', k', y, ⟨⟨by assumption, by assumption, by assumption, by assumption⟩, by assumption, by assumption, by assumption, by assumption⟩, rfl, by (repeat (first | (with_reducible exact hc3) | (with_reducible refine Cur.al ?_ _) | ((with_reducible refine Cur.st ?_ ?_ _); (rotate_left); (first | omega | (simp; omega))) | (with_reducible refine Cur.drew1 ?_))), by (repeat (first | (with_reducible exact HO) | (with_reducible refine Only.al ?_ _) | ((with_reducible refine Only.st ?_ ?_ _); (rotate_left); (first | omega | (simp; omega))) | (with_reducible refine Only.drew1 ?_)))⟩
  · go_wp2_with fail
    refine (spec_l1Int_lit g zs [-1, 999999, 1000000] _ (by (repeat (first | (with_reducible exact hc2) | (with_reducible refine Cur.al ?_ _) | ((with_reducible refine Cur.st ?_ ?_ _); (rotate_left); (first | omega | (simp; omega))) | (with_reducible refine Cur.drew1 ?_)))) (by decide) (by decide)).mono ?_
    rintro e w3 ⟨y, qy, rfl, hc3, ho3⟩
    have NP : Hid (w3.heap[w.heap.size]? = some (.cells #[.int .i64 0, .int .i64 0, .int .i64 0, .int .i64 0] 30 (0, 0))) := Lib.hid (Only.blk ho3 (by (repeat (first | (with_reducible exact HP.out) | (with_reducible exact HQ.out) | (with_reducible exact HA.out) | (with_reducible exact HC.out) | ((with_reducible refine newBlk _ _ _ _ ?_); (first | rfl | (simp; done))) | ((with_reducible refine bxSetNe ?_ _ _ ?_); (rotate_left); (first | omega | (simp; omega))) | (with_reducible refine drewBlk ?_) | (with_reducible refine oldBlk _ ?_)))) (by omega))
    have NQ : Hid (w3.heap[w.heap.size + 1]? = some (.cells #[.int .i64 0, .int .i64 0, .int .i64 0, .int .i64 0] 32 (0, 0))) := Lib.hid (Only.blk ho3 (by (repeat (first | (with_reducible exact HP.out) | (with_reducible exact HQ.out) | (with_reducible exact HA.out) | (with_reducible exact HC.out) | ((with_reducible refine newBlk _ _ _ _ ?_); (first | rfl | (simp; done))) | ((with_reducible refine bxSetNe ?_ _ _ ?_); (rotate_left); (first | omega | (simp; omega))) | (with_reducible refine drewBlk ?_) | (with_reducible refine oldBlk _ ?_)))) (by omega))
    have NA : Hid (w3.heap[w1.heap.size]? = some (.cells #[.int .i64 a, .int .i64 b, .int .i64 k, .int .i64 l] 30 (0, 0))) := Lib.hid (Only.blk ho3 (by (repeat (first | (with_reducible exact HP.out) | (with_reducible exact HQ.out) | (with_reducible exact HA.out) | (with_reducible exact HC.out) | ((with_reducible refine newBlk _ _ _ _ ?_); (first | rfl | (simp; done))) | ((with_reducible refine bxSetNe ?_ _ _ ?_); (rotate_left); (first | omega | (simp; omega))) | (with_reducible refine drewBlk ?_) | (with_reducible refine oldBlk _ ?_)))) (by omega))
    have NC : Hid (w3.heap[w1.heap.size + 1]? = some (.cells #[.int .i64 a', .int .i64 b', .int .i64 k', .int .i64 s] 32 (0, 0))) := Lib.hid (Only.blk ho3 (by (repeat (first | (with_reducible exact HP.out) | (with_reducible exact HQ.out) | (with_reducible exact HA.out) | (with_reducible exact HC.out) | ((with_reducible refine newBlk _ _ _ _ ?_); (first | rfl | (simp; done))) | ((with_reducible refine bxSetNe ?_ _ _ ?_); (rotate_left); (first | omega | (simp; omega))) | (with_reducible refine drewBlk ?_) | (with_reducible refine oldBlk _ ?_)))) (by omega))
    have NO : Only g w w3 := Only.trans (by (repeat (first | (with_reducible exact HO) | (with_reducible refine Only.al ?_ _) | ((with_reducible refine Only.st ?_ ?_ _); (rotate_left); (first | omega | (simp; omega))) | (with_reducible refine Only.drew1 ?_)))) ho3
    clear HP HQ HA HC HO hc2
    have HP := NP
    have HQ := NQ
    have HA := NA
    have HC := NC
    have HO := NO
    clear NP NQ NA NC NO
    have lP_3 : w.heap.size < w3.heap.size := (Array.getElem?_eq_some_iff.1 HP.out).1
    have lQ_3 : w.heap.size + 1 < w3.heap.size := (Array.getElem?_eq_some_iff.1 HQ.out).1
    have lA_3 : w1.heap.size < w3.heap.size := (Array.getElem?_eq_some_iff.1 HA.out).1
    have lC_3 : w1.heap.size + 1 < w3.heap.size := (Array.getElem?_eq_some_iff.1 HC.out).1
    have zz3 := HO.size
    clear ho3
    have yy : Sm y := by obtain ⟨q0, q1⟩ := mem_in (lo := -1) (hi := 4294967296) (by decide) qy; exact ⟨q0, q1⟩
    clear qy
    have cP0 := cell_of HP.out 0
    have cP1 := cell_of HP.out 1
    have cP2 := cell_of HP.out 2
    have cP3 := cell_of HP.out 3
    have cQ0 := cell_of HQ.out 0
    have cQ1 := cell_of HQ.out 1
    have cQ2 := cell_of HQ.out 2
    have cQ3 := cell_of HQ.out 3
    have cA0 := cell_of HA.out 0
    have cA1 := cell_of HA.out 1
    have cA2 := cell_of HA.out 2
    have cA3 := cell_of HA.out 3
    have cC0 := cell_of HC.out 0
    have cC1 := cell_of HC.out 1
    have cC2 := cell_of HC.out 2
    have cC3 := cell_of HC.out 3
    simp only [List.getElem?_toArray, List.getElem?_cons_zero, List.getElem?_cons_succ] at cP0 cP1 cP2 cP3 cQ0 cQ1 cQ2 cQ3 cA0 cA1 cA2 cA3 cC0 cC1 cC2 cC3
    have fP := free_of HP.out
    have fQ := free_of HQ.out
    have fA := free_of HA.out
    have fC := free_of HC.out
    have sne := bxNe
    have dPQ : ¬ w.heap.size = w.heap.size + 1 := by omega
    have dPA : ¬ w.heap.size = w1.heap.size := by omega
    have dPC : ¬ w.heap.size = w1.heap.size + 1 := by omega
    have dQP : ¬ w.heap.size + 1 = w.heap.size := by omega
    have dQA : ¬ w.heap.size + 1 = w1.heap.size := by omega
    have dQC : ¬ w.heap.size + 1 = w1.heap.size + 1 := by omega
    have dAP : ¬ w1.heap.size = w.heap.size := by omega
    have dAQ : ¬ w1.heap.size = w.heap.size + 1 := by omega
    have dAC : ¬ w1.heap.size = w1.heap.size + 1 := by omega
    have dCP : ¬ w1.heap.size + 1 = w.heap.size := by omega
    have dCQ : ¬ w1.heap.size + 1 = w.heap.size + 1 := by omega
    have dCA : ¬ w1.heap.size + 1 = w1.heap.size := by omega
    go_wp2_with fail
    go_region
    all_goals
      go_wp2_with fail
      refine bodyPost_ret (v := .tuple #[.agg #[.int .i64 a, .int .i64 b, .int .i64 k, .int .i64 y], .agg #[.int .i64 a', .int .i64 b', .int .i64 k', .int .i64 s]]) (by simp [results, Try.results58, go_sem, *]) rfl ?_
      exact ⟨a, b, k, y, a', b', k', s, ⟨⟨by assumption, by assumption, by assumption, by assumption⟩, by assumption, by assumption, by assumption, by assumption⟩, rfl, by (repeat (first | (with_reducible exact hc3) | (with_reducible refine Cur.al ?_ _) | ((with_reducible refine Cur.st ?_ ?_ _); (rotate_left); (first | omega | (simp; omega))) | (with_reducible refine Cur.drew1 ?_))), by (repeat (first | (with_reducible exact HO) | (with_reducible refine Only.al ?_ _) | ((with_reducible refine Only.st ?_ ?_ _); (rotate_left); (first | omega | (simp; omega))) | (with_reducible refine Only.drew1 ?_)))⟩
  · go_wp2_with fail
    refine (spec_l4Any g zs _ (by (repeat (first | (with_reducible exact hc2) | (with_reducible refine Cur.al ?_ _) | ((with_reducible refine Cur.st ?_ ?_ _); (rotate_left); (first | omega | (simp; omega))) | (with_reducible refine Cur.drew1 ?_))))).mono ?_
    rintro e w3 ⟨p, q, ⟨⟨p0, p1⟩, ⟨q0, q1⟩⟩, rfl, hc3, ho3⟩
    have NP : Hid (w3.heap[w.heap.size]? = some (.cells #[.int .i64 0, .int .i64 0, .int .i64 0, .int .i64 0] 30 (0, 0))) := Lib.hid (Only.blk ho3 (by (repeat (first | (with_reducible exact HP.out) | (with_reducible exact HQ.out) | (with_reducible exact HA.out) | (with_reducible exact HC.out) | ((with_reducible refine newBlk _ _ _ _ ?_); (first | rfl | (simp; done))) | ((with_reducible refine bxSetNe ?_ _ _ ?_); (rotate_left); (first | omega | (simp; omega))) | (with_reducible refine drewBlk ?_) | (with_reducible refine oldBlk _ ?_)))) (by omega))
    have NQ : Hid (w3.heap[w.heap.size + 1]? = some (.cells #[.int .i64 0, .int .i64 0, .int .i64 0, .int .i64 0] 32 (0, 0))) := Lib.hid (Only.blk ho3 (by (repeat (first | (with_reducible exact HP.out) | (with_reducible exact HQ.out) | (with_reducible exact HA.out) | (with_reducible exact HC.out) | ((with_reducible refine newBlk _ _ _ _ ?_); (first | rfl | (simp; done))) | ((with_reducible refine bxSetNe ?_ _ _ ?_); (rotate_left); (first | omega | (simp; omega))) | (with_reducible refine drewBlk ?_) | (with_reducible refine oldBlk _ ?_)))) (by omega))
    have NA : Hid (w3.heap[w1.heap.size]? = some (.cells #[.int .i64 a, .int .i64 b, .int .i64 k, .int .i64 l] 30 (0, 0))) := Lib.hid (Only.blk ho3 (by (repeat (first | (with_reducible exact HP.out) | (with_reducible exact HQ.out) | (with_reducible exact HA.out) | (with_reducible exact HC.out) | ((with_reducible refine newBlk _ _ _ _ ?_); (first | rfl | (simp; done))) | ((with_reducible refine bxSetNe ?_ _ _ ?_); (rotate_left); (first | omega | (simp; omega))) | (with_reducible refine drewBlk ?_) | (with_reducible refine oldBlk _ ?_)))) (by omega))
    have NC : Hid (w3.heap[w1.heap.size + 1]? = some (.cells #[.int .i64 a', .int .i64 b', .int .i64 k', .int .i64 s] 32 (0, 0))) := Lib.hid (Only.blk ho3 (by (repeat (first | (with_reducible exact HP.out) | (with_reducible exact HQ.out) | (with_reducible exact HA.out) | (with_reducible exact HC.out) | ((with_reducible refine newBlk _ _ _ _ ?_); (first | rfl | (simp; done))) | ((with_reducible refine bxSetNe ?_ _ _ ?_); (rotate_left); (first | omega | (simp; omega))) | (with_reducible refine drewBlk ?_) | (with_reducible refine oldBlk _ ?_)))) (by omega))
    have NO : Only g w w3 := Only.trans (by (repeat (first | (with_reducible exact HO) | (with_reducible refine Only.al ?_ _) | ((with_reducible refine Only.st ?_ ?_ _); (rotate_left); (first | omega | (simp; omega))) | (with_reducible refine Only.drew1 ?_)))) ho3
    clear HP HQ HA HC HO hc2
    have HP := NP
    have HQ := NQ
    have HA := NA
    have HC := NC
    have HO := NO
    clear NP NQ NA NC NO
    have lP_3 : w.heap.size < w3.heap.size := (Array.getElem?_eq_some_iff.1 HP.out).1
    have lQ_3 : w.heap.size + 1 < w3.heap.size := (Array.getElem?_eq_some_iff.1 HQ.out).1
    have lA_3 : w1.heap.size < w3.heap.size := (Array.getElem?_eq_some_iff.1 HA.out).1
    have lC_3 : w1.heap.size + 1 < w3.heap.size := (Array.getElem?_eq_some_iff.1 HC.out).1
    have zz3 := HO.size
    clear ho3
    have yp : Sm p := ⟨by omega, by omega⟩
    have yq : Sm q := ⟨by omega, by omega⟩
    have cP0 := cell_of HP.out 0
    have cP1 := cell_of HP.out 1
    have cP2 := cell_of HP.out 2
    have cP3 := cell_of HP.out 3
    have cQ0 := cell_of HQ.out 0
    have cQ1 := cell_of HQ.out 1
    have cQ2 := cell_of HQ.out 2
    have cQ3 := cell_of HQ.out 3
    have cA0 := cell_of HA.out 0
    have cA1 := cell_of HA.out 1
    have cA2 := cell_of HA.out 2
    have cA3 := cell_of HA.out 3
    have cC0 := cell_of HC.out 0
    have cC1 := cell_of HC.out 1
    have cC2 := cell_of HC.out 2
    have cC3 := cell_of HC.out 3
    simp only [List.getElem?_toArray, List.getElem?_cons_zero, List.getElem?_cons_succ] at cP0 cP1 cP2 cP3 cQ0 cQ1 cQ2 cQ3 cA0 cA1 cA2 cA3 cC0 cC1 cC2 cC3
    have fP := free_of HP.out
    have fQ := free_of HQ.out
    have fA := free_of HA.out
    have fC := free_of HC.out
    have sne := bxNe
    have dPQ : ¬ w.heap.size = w.heap.size + 1 := by omega
    have dPA : ¬ w.heap.size = w1.heap.size := by omega
    have dPC : ¬ w.heap.size = w1.heap.size + 1 := by omega
    have dQP : ¬ w.heap.size + 1 = w.heap.size := by omega
    have dQA : ¬ w.heap.size + 1 = w1.heap.size := by omega
    have dQC : ¬ w.heap.size + 1 = w1.heap.size + 1 := by omega
    have dAP : ¬ w1.heap.size = w.heap.size := by omega
    have dAQ : ¬ w1.heap.size = w.heap.size + 1 := by omega
    have dAC : ¬ w1.heap.size = w1.heap.size + 1 := by omega
    have dCP : ¬ w1.heap.size + 1 = w.heap.size := by omega
    have dCQ : ¬ w1.heap.size + 1 = w.heap.size + 1 := by omega
    have dCA : ¬ w1.heap.size + 1 = w1.heap.size := by omega
    go_wp2_with fail
    go_region
    all_goals
      go_wp2_with fail
      refine bodyPost_ret (v := .tuple #[.agg #[.int .i64 p, .int .i64 q, .int .i64 k, .int .i64 l], .agg #[.int .i64 a', .int .i64 b', .int .i64 k', .int .i64 s]]) (by simp [results, Try.results58, go_sem, *]) rfl ?_
      exact ⟨p, q, k, l, a', b', k', s, ⟨⟨by assumption, by assumption, by assumption, by assumption⟩, by assumption, by assumption, by assumption, by assumption⟩, rfl, by (repeat (first | (with_reducible exact hc3) | (with_reducible refine Cur.al ?_ _) | ((with_reducible refine Cur.st ?_ ?_ _); (rotate_left); (first | omega | (simp; omega))) | (with_reducible refine Cur.drew1 ?_))), by (repeat (first | (with_reducible exact HO) | (with_reducible refine Only.al ?_ _) | ((with_reducible refine Only.st ?_ ?_ _); (rotate_left); (first | omega | (simp; omega))) | (with_reducible refine Only.drew1 ?_)))⟩
  · have hx0 : (x == 0) = false := by simpa using (show ¬ x = 0 by omega)
    have hx1 : (x == 1) = false := by simpa using (show ¬ x = 1 by omega)
    have hx2 : (x == 2) = false := by simpa using (show ¬ x = 2 by omega)
    have hx3 : (x == 3) = false := by simpa using (show ¬ x = 3 by omega)
    have hx4 : (x == 4) = false := by simpa using (show ¬ x = 4 by omega)
    clear hx
    have cP0 := cell_of HP.out 0
    have cP1 := cell_of HP.out 1
    have cP2 := cell_of HP.out 2
    have cP3 := cell_of HP.out 3
    have cQ0 := cell_of HQ.out 0
    have cQ1 := cell_of HQ.out 1
    have cQ2 := cell_of HQ.out 2
    have cQ3 := cell_of HQ.out 3
    have cA0 := cell_of HA.out 0
    have cA1 := cell_of HA.out 1
    have cA2 := cell_of HA.out 2
    have cA3 := cell_of HA.out 3
    have cC0 := cell_of HC.out 0
    have cC1 := cell_of HC.out 1
    have cC2 := cell_of HC.out 2
    have cC3 := cell_of HC.out 3
    simp only [List.getElem?_toArray, List.getElem?_cons_zero, List.getElem?_cons_succ] at cP0 cP1 cP2 cP3 cQ0 cQ1 cQ2 cQ3 cA0 cA1 cA2 cA3 cC0 cC1 cC2 cC3
    have fP := free_of HP.out
    have fQ := free_of HQ.out
    have fA := free_of HA.out
    have fC := free_of HC.out
    have sne := bxNe
    have dPQ : ¬ w.heap.size = w.heap.size + 1 := by omega
    have dPA : ¬ w.heap.size = w1.heap.size := by omega
    have dPC : ¬ w.heap.size = w1.heap.size + 1 := by omega
    have dQP : ¬ w.heap.size + 1 = w.heap.size := by omega
    have dQA : ¬ w.heap.size + 1 = w1.heap.size := by omega
    have dQC : ¬ w.heap.size + 1 = w1.heap.size + 1 := by omega
    have dAP : ¬ w1.heap.size = w.heap.size := by omega
    have dAQ : ¬ w1.heap.size = w.heap.size + 1 := by omega
    have dAC : ¬ w1.heap.size = w1.heap.size + 1 := by omega
    have dCP : ¬ w1.heap.size + 1 = w.heap.size := by omega
    have dCQ : ¬ w1.heap.size + 1 = w.heap.size + 1 := by omega
    have dCA : ¬ w1.heap.size + 1 = w1.heap.size := by omega
    go_wp2_with fail
    go_region
    all_goals
      go_wp2_with fail
      refine bodyPost_ret (v := .tuple #[.agg #[.int .i64 a, .int .i64 b, .int .i64 k, .int .i64 l], .agg #[.int .i64 a', .int .i64 b', .int .i64 k', .int .i64 s]]) (by simp [results, Try.results58, go_sem, *]) rfl ?_
      exact ⟨a, b, k, l, a', b', k', s, ⟨⟨by assumption, by assumption, by assumption, by assumption⟩, by assumption, by assumption, by assumption, by assumption⟩, rfl, by (repeat (first | (with_reducible exact hc2) | (with_reducible refine Cur.al ?_ _) | ((with_reducible refine Cur.st ?_ ?_ _); (rotate_left); (first | omega | (simp; omega))) | (with_reducible refine Cur.drew1 ?_))), by (repeat (first | (with_reducible exact HO) | (with_reducible refine Only.al ?_ _) | ((with_reducible refine Only.st ?_ ?_ _); (rotate_left); (first | omega | (simp; omega))) | (with_reducible refine Only.drew1 ?_)))⟩

/-- A vector drawn. -/
def DrewV (g : Nat) (zs : List Int) (w : World) (e : Ending) (w' : World) : Prop :=
  ∃ r t m x y : Int, (Sm r ∧ Sm t ∧ Sm m ∧ Sm x ∧ Sm y) ∧ e = .returned (.agg #[.int .i64 r, .int .i64 t, .int .i64 m, .int .i64 x, .int .i64 y]) ∧ Cur w' g zs ∧ Only g w w'
theorem nv_sm {k r s : Int} (h0 : 0 ≤ r) (h1 : r ≤ 1000) : (0 ≤ M.nv0 r s ∧ M.nv0 r s ≤ 1000) ∧ (0 ≤ M.nv1 k r s ∧ M.nv1 k r s ≤ 1000000) ∧ Sm (M.nv2 k r s) ∧ Sm (M.nv3 k r s) ∧ Sm (M.nv4 k r s) := by
  have a2 := M.kh_bd k [2, r, s]
  have a3 := M.kh_bd k [3, r]
  have a4 := M.kh_bd k [4, r, s]
  have p4 := M.pos1_bd _ a4.1 a4.2
  unfold M.nv0 M.nv1 M.nv2 M.nv3 M.nv4 Sm
  split
  · exact ⟨⟨h0, h1⟩, ⟨by omega, by omega⟩, ⟨by omega, by omega⟩, ⟨by omega, by omega⟩, ⟨by omega, by omega⟩⟩
  · exact ⟨⟨by omega, by omega⟩, ⟨by omega, by omega⟩, ⟨by omega, by omega⟩, ⟨by omega, by omega⟩, ⟨by omega, by omega⟩⟩
theorem na_sm {a b k l r : Int} (h0 : 0 ≤ r) (h1 : r ≤ 1000) : Sm (M.na0 a b k l r) ∧ Sm (M.na1 a b k l r) ∧ Sm (M.na2 a b k l r) ∧ Sm (M.na3 a b k l r) ∧ Sm (M.na4 a b k l r) := by
  obtain ⟨⟨a0, a1⟩, ⟨b0, b1⟩, c, d, e⟩ := nv_sm (k := k) (s := l + 1) h0 h1
  have z : Sm 0 := ⟨by omega, by omega⟩
  unfold M.na0 M.na1 M.na2 M.na3 M.na4
  split
  · exact ⟨⟨by omega, by omega⟩, ⟨by omega, by omega⟩, c, d, e⟩
  · exact ⟨z, z, z, z, z⟩

set_option maxRecDepth 100000 in
set_option maxHeartbeats 8000000 in
theorem spec_l5Vector (g : Nat) (zs : List Int) (w : World) (hc : Cur w g zs) :
    Calls Try.prog 60 #[.pointer (some ⟨g, 0, none⟩)] w (DrewV g zs w) := by
  have hgw := hc.lt
  have HP := Lib.hid (newBlk w #[.int .i64 0, .int .i64 0, .int .i64 0, .int .i64 0, .int .i64 0] 45 (w.heap.size) (by simp))
  have hc0 : Cur (w.alloc (.cells #[.int .i64 0, .int .i64 0, .int .i64 0, .int .i64 0, .int .i64 0] 45)) g zs := by repeat (first | exact hc | refine Cur.al ?_ _)
  have HO : Only g w (w.alloc (.cells #[.int .i64 0, .int .i64 0, .int .i64 0, .int .i64 0, .int .i64 0] 45)) := by repeat (first | exact Only.refl g w | refine Only.al ?_ _)
  have lP_0 : w.heap.size < (w.alloc (.cells #[.int .i64 0, .int .i64 0, .int .i64 0, .int .i64 0, .int .i64 0] 45)).heap.size := (Array.getElem?_eq_some_iff.1 HP.out).1
  clear hc
  go_enter Try.func60, Try.ntmps60
  go_wp2_with fail
  refine (spec_l5Key g zs _ (by (repeat (first | (with_reducible exact hc0) | (with_reducible refine Cur.al ?_ _) | ((with_reducible refine Cur.st ?_ ?_ _); (rotate_left); (first | omega | (simp; omega))) | (with_reducible refine Cur.drew1 ?_))))).mono ?_
  rintro e w1 ⟨k, ⟨k0, k1⟩, rfl, hc1, ho1⟩
  have NP : Hid (w1.heap[w.heap.size]? = some (.cells #[.int .i64 0, .int .i64 0, .int .i64 0, .int .i64 0, .int .i64 0] 45 (0, 0))) := Lib.hid (Only.blk ho1 (by (repeat (first | (with_reducible exact HP.out) | ((with_reducible refine newBlk _ _ _ _ ?_); (first | rfl | (simp; done))) | ((with_reducible refine bxSetNe ?_ _ _ ?_); (rotate_left); (first | omega | (simp; omega))) | (with_reducible refine drewBlk ?_) | (with_reducible refine oldBlk _ ?_)))) (by omega))
  have NO : Only g w w1 := Only.trans (by (repeat (first | (with_reducible exact HO) | (with_reducible refine Only.al ?_ _) | ((with_reducible refine Only.st ?_ ?_ _); (rotate_left); (first | omega | (simp; omega))) | (with_reducible refine Only.drew1 ?_)))) ho1
  clear HP HO hc0
  have HP := NP
  have HO := NO
  clear NP NO
  have lP_1 : w.heap.size < w1.heap.size := (Array.getElem?_eq_some_iff.1 HP.out).1
  have zz1 := HO.size
  clear ho1
  go_wp2_with fail
  refine (spec_l1Below g zs 50 _ (by omega) (by (repeat (first | (with_reducible exact hc1) | (with_reducible refine Cur.al ?_ _) | ((with_reducible refine Cur.st ?_ ?_ _); (rotate_left); (first | omega | (simp; omega))) | (with_reducible refine Cur.drew1 ?_))))).mono ?_
  rintro e w2 ⟨r, qr, rfl, hc2, ho2⟩
  have NP : Hid (w2.heap[w.heap.size]? = some (.cells #[.int .i64 0, .int .i64 0, .int .i64 0, .int .i64 0, .int .i64 0] 45 (0, 0))) := Lib.hid (Only.blk ho2 (by (repeat (first | (with_reducible exact HP.out) | ((with_reducible refine newBlk _ _ _ _ ?_); (first | rfl | (simp; done))) | ((with_reducible refine bxSetNe ?_ _ _ ?_); (rotate_left); (first | omega | (simp; omega))) | (with_reducible refine drewBlk ?_) | (with_reducible refine oldBlk _ ?_)))) (by omega))
  have NO : Only g w w2 := Only.trans (by (repeat (first | (with_reducible exact HO) | (with_reducible refine Only.al ?_ _) | ((with_reducible refine Only.st ?_ ?_ _); (rotate_left); (first | omega | (simp; omega))) | (with_reducible refine Only.drew1 ?_)))) ho2
  clear HP HO hc1
  have HP := NP
  have HO := NO
  clear NP NO
  have lP_2 : w.heap.size < w2.heap.size := (Array.getElem?_eq_some_iff.1 HP.out).1
  have zz2 := HO.size
  clear ho2
  obtain ⟨r0, r1⟩ := qr.bd (by omega)
  clear qr
  go_wp2_with fail
  refine (spec_l5Seq g zs _ (by (repeat (first | (with_reducible exact hc2) | (with_reducible refine Cur.al ?_ _) | ((with_reducible refine Cur.st ?_ ?_ _); (rotate_left); (first | omega | (simp; omega))) | (with_reducible refine Cur.drew1 ?_))))).mono ?_
  rintro e w3 ⟨q, ⟨q0, q1⟩, rfl, hc3, ho3⟩
  have NP : Hid (w3.heap[w.heap.size]? = some (.cells #[.int .i64 0, .int .i64 0, .int .i64 0, .int .i64 0, .int .i64 0] 45 (0, 0))) := Lib.hid (Only.blk ho3 (by (repeat (first | (with_reducible exact HP.out) | ((with_reducible refine newBlk _ _ _ _ ?_); (first | rfl | (simp; done))) | ((with_reducible refine bxSetNe ?_ _ _ ?_); (rotate_left); (first | omega | (simp; omega))) | (with_reducible refine drewBlk ?_) | (with_reducible refine oldBlk _ ?_)))) (by omega))
  have NO : Only g w w3 := Only.trans (by (repeat (first | (with_reducible exact HO) | (with_reducible refine Only.al ?_ _) | ((with_reducible refine Only.st ?_ ?_ _); (rotate_left); (first | omega | (simp; omega))) | (with_reducible refine Only.drew1 ?_)))) ho3
  clear HP HO hc2
  have HP := NP
  have HO := NO
  clear NP NO
  have lP_3 : w.heap.size < w3.heap.size := (Array.getElem?_eq_some_iff.1 HP.out).1
  have zz3 := HO.size
  clear ho3
  obtain ⟨⟨v0a, v0b⟩, ⟨v1a, v1b⟩, s2, s3, s4⟩ := nv_sm (k := k) (r := r) (s := q) (by omega) (by omega)
  obtain ⟨v0, e0⟩ : ∃ v, v = M.nv0 r q := ⟨_, rfl⟩
  rw [← e0] at v0a v0b
  have E0 := Lib.hid e0
  clear e0
  obtain ⟨v1, e1⟩ : ∃ v, v = M.nv1 k r q := ⟨_, rfl⟩
  rw [← e1] at v1a v1b
  have E1 := Lib.hid e1
  clear e1
  obtain ⟨v2, e2⟩ : ∃ v, v = M.nv2 k r q := ⟨_, rfl⟩
  rw [← e2] at s2
  have E2 := Lib.hid e2
  clear e2
  obtain ⟨v3, e3⟩ : ∃ v, v = M.nv3 k r q := ⟨_, rfl⟩
  rw [← e3] at s3
  have E3 := Lib.hid e3
  clear e3
  obtain ⟨v4, e4⟩ : ∃ v, v = M.nv4 k r q := ⟨_, rfl⟩
  rw [← e4] at s4
  have E4 := Lib.hid e4
  clear e4
  go_wp2_with fail
  refine (spec_NewAuthVector k r q _ (WalkArith.wf_i64 (by omega)) (WalkArith.wf_i64 (by omega)) (WalkArith.wf_i64 (by omega))).mono ?_
  rw [← E0.out, ← E1.out, ← E2.out, ← E3.out, ← E4.out]
  rintro e w4 ⟨rfl, b4⟩
  have hc4 := hc3.below b4
  have ho4 := Only.of_below (g := g) b4
  clear b4 E0 E1 E2 E3 E4
  have NP : Hid (w4.heap[w.heap.size]? = some (.cells #[.int .i64 0, .int .i64 0, .int .i64 0, .int .i64 0, .int .i64 0] 45 (0, 0))) := Lib.hid (Only.blk ho4 (by (repeat (first | (with_reducible exact HP.out) | ((with_reducible refine newBlk _ _ _ _ ?_); (first | rfl | (simp; done))) | ((with_reducible refine bxSetNe ?_ _ _ ?_); (rotate_left); (first | omega | (simp; omega))) | (with_reducible refine drewBlk ?_) | (with_reducible refine oldBlk _ ?_)))) (by omega))
  have NO : Only g w w4 := Only.trans (by (repeat (first | (with_reducible exact HO) | (with_reducible refine Only.al ?_ _) | ((with_reducible refine Only.st ?_ ?_ _); (rotate_left); (first | omega | (simp; omega))) | (with_reducible refine Only.drew1 ?_)))) ho4
  clear HP HO hc3
  have HP := NP
  have HO := NO
  clear NP NO
  have lP_4 : w.heap.size < w4.heap.size := (Array.getElem?_eq_some_iff.1 HP.out).1
  have zz4 := HO.size
  clear ho4
  go_wp2_with fail
  refine (spec_l1Below g zs 8 _ (by omega) (by (repeat (first | (with_reducible exact hc4) | (with_reducible refine Cur.al ?_ _) | ((with_reducible refine Cur.st ?_ ?_ _); (rotate_left); (first | omega | (simp; omega))) | (with_reducible refine Cur.drew1 ?_))))).mono ?_
  rintro e w5 ⟨x, qx, rfl, hc5, ho5⟩
  have NP : Hid (w5.heap[w.heap.size]? = some (.cells #[.int .i64 0, .int .i64 0, .int .i64 0, .int .i64 0, .int .i64 0] 45 (0, 0))) := Lib.hid (Only.blk ho5 (by (repeat (first | (with_reducible exact HP.out) | ((with_reducible refine newBlk _ _ _ _ ?_); (first | rfl | (simp; done))) | ((with_reducible refine bxSetNe ?_ _ _ ?_); (rotate_left); (first | omega | (simp; omega))) | (with_reducible refine drewBlk ?_) | (with_reducible refine oldBlk _ ?_)))) (by omega))
  have NA : Hid (w5.heap[w4.heap.size]? = some (.cells #[.int .i64 v0, .int .i64 v1, .int .i64 v2, .int .i64 v3, .int .i64 v4] 45 (0, 0))) := Lib.hid (Only.blk ho5 (by (repeat (first | (with_reducible exact HP.out) | ((with_reducible refine newBlk _ _ _ _ ?_); (first | rfl | (simp; done))) | ((with_reducible refine bxSetNe ?_ _ _ ?_); (rotate_left); (first | omega | (simp; omega))) | (with_reducible refine drewBlk ?_) | (with_reducible refine oldBlk _ ?_)))) (by omega))
  have NO : Only g w w5 := Only.trans (by (repeat (first | (with_reducible exact HO) | (with_reducible refine Only.al ?_ _) | ((with_reducible refine Only.st ?_ ?_ _); (rotate_left); (first | omega | (simp; omega))) | (with_reducible refine Only.drew1 ?_)))) ho5
  clear HP HO hc4
  have HP := NP
  have HA := NA
  have HO := NO
  clear NP NA NO
  have lP_5 : w.heap.size < w5.heap.size := (Array.getElem?_eq_some_iff.1 HP.out).1
  have lA_5 : w4.heap.size < w5.heap.size := (Array.getElem?_eq_some_iff.1 HA.out).1
  have zz5 := HO.size
  clear ho5
  obtain ⟨x0, x1⟩ := qx.bd (by omega)
  clear qx
  have s0 : Sm v0 := ⟨by omega, by omega⟩
  have s1 : Sm v1 := ⟨by omega, by omega⟩
  obtain rfl | rfl | rfl | hx : x = 0 ∨ x = 1 ∨ x = 2 ∨ 3 ≤ x := by omega
  · go_wp2_with fail
    refine (spec_l3Word g zs _ (by (repeat (first | (with_reducible exact hc5) | (with_reducible refine Cur.al ?_ _) | ((with_reducible refine Cur.st ?_ ?_ _); (rotate_left); (first | omega | (simp; omega))) | (with_reducible refine Cur.drew1 ?_))))).mono ?_
    rintro e w6 ⟨y, ⟨y0, y1⟩, rfl, hc6, ho6⟩
    have NP : Hid (w6.heap[w.heap.size]? = some (.cells #[.int .i64 0, .int .i64 0, .int .i64 0, .int .i64 0, .int .i64 0] 45 (0, 0))) := Lib.hid (Only.blk ho6 (by (repeat (first | (with_reducible exact HP.out) | (with_reducible exact HA.out) | ((with_reducible refine newBlk _ _ _ _ ?_); (first | rfl | (simp; done))) | ((with_reducible refine bxSetNe ?_ _ _ ?_); (rotate_left); (first | omega | (simp; omega))) | (with_reducible refine drewBlk ?_) | (with_reducible refine oldBlk _ ?_)))) (by omega))
    have NA : Hid (w6.heap[w4.heap.size]? = some (.cells #[.int .i64 v0, .int .i64 v1, .int .i64 v2, .int .i64 v3, .int .i64 v4] 45 (0, 0))) := Lib.hid (Only.blk ho6 (by (repeat (first | (with_reducible exact HP.out) | (with_reducible exact HA.out) | ((with_reducible refine newBlk _ _ _ _ ?_); (first | rfl | (simp; done))) | ((with_reducible refine bxSetNe ?_ _ _ ?_); (rotate_left); (first | omega | (simp; omega))) | (with_reducible refine drewBlk ?_) | (with_reducible refine oldBlk _ ?_)))) (by omega))
    have NO : Only g w w6 := Only.trans (by (repeat (first | (with_reducible exact HO) | (with_reducible refine Only.al ?_ _) | ((with_reducible refine Only.st ?_ ?_ _); (rotate_left); (first | omega | (simp; omega))) | (with_reducible refine Only.drew1 ?_)))) ho6
    clear HP HA HO hc5
    have HP := NP
    have HA := NA
    have HO := NO
    clear NP NA NO
    have lP_6 : w.heap.size < w6.heap.size := (Array.getElem?_eq_some_iff.1 HP.out).1
    have lA_6 : w4.heap.size < w6.heap.size := (Array.getElem?_eq_some_iff.1 HA.out).1
    have zz6 := HO.size
    clear ho6
    have sy : Sm y := ⟨by omega, by omega⟩
    have cP0 := cell_of HP.out 0
    have cP1 := cell_of HP.out 1
    have cP2 := cell_of HP.out 2
    have cP3 := cell_of HP.out 3
    have cP4 := cell_of HP.out 4
    have cA0 := cell_of HA.out 0
    have cA1 := cell_of HA.out 1
    have cA2 := cell_of HA.out 2
    have cA3 := cell_of HA.out 3
    have cA4 := cell_of HA.out 4
    simp only [List.getElem?_toArray, List.getElem?_cons_zero, List.getElem?_cons_succ] at cP0 cP1 cP2 cP3 cP4 cA0 cA1 cA2 cA3 cA4
    have fP := free_of HP.out
    have fA := free_of HA.out
    have sne := bxNe
    have dPA : ¬ w.heap.size = w4.heap.size := by omega
    have dAP : ¬ w4.heap.size = w.heap.size := by omega
    go_wp2_with fail
    refine bodyPost_ret (v := .agg #[.int .i64 v0, .int .i64 v1, .int .i64 y, .int .i64 v3, .int .i64 v4]) (by simp [results, Try.results60, go_sem, *]) rfl ?_
    exact ⟨v0, v1, y, v3, v4, ⟨by assumption, by assumption, by assumption, by assumption, by assumption⟩, rfl, by (repeat (first | (with_reducible exact hc6) | (with_reducible refine Cur.al ?_ _) | ((with_reducible refine Cur.st ?_ ?_ _); (rotate_left); (first | omega | (simp; omega))) | (with_reducible refine Cur.drew1 ?_))), by (repeat (first | (with_reducible exact HO) | (with_reducible refine Only.al ?_ _) | ((with_reducible refine Only.st ?_ ?_ _); (rotate_left); (first | omega | (simp; omega))) | (with_reducible refine Only.drew1 ?_)))⟩
  · have cA0 := cell_of HA.out 0
    have cA1 := cell_of HA.out 1
    have cA2 := cell_of HA.out 2
    have cA3 := cell_of HA.out 3
    have cA4 := cell_of HA.out 4
    simp only [List.getElem?_toArray, List.getElem?_cons_zero, List.getElem?_cons_succ] at cA0 cA1 cA2 cA3 cA4
    have fA := free_of HA.out
    have sne := bxNe
    have dPA : ¬ w.heap.size = w4.heap.size := by omega
    have dAP : ¬ w4.heap.size = w.heap.size := by omega
    go_wp2_with fail
    refine (spec_l1Int_lit g zs [v1 + 1, -1, 1000000, v1 + 1000000] _ (by (repeat (first | (with_reducible exact hc5) | (with_reducible refine Cur.al ?_ _) | ((with_reducible refine Cur.st ?_ ?_ _); (rotate_left); (first | omega | (simp; omega))) | (with_reducible refine Cur.drew1 ?_)))) (by simp) (by simp)).mono ?_
    rintro e w6 ⟨y, qy, rfl, hc6, ho6⟩
    have NP : Hid (w6.heap[w.heap.size]? = some (.cells #[.int .i64 0, .int .i64 0, .int .i64 0, .int .i64 0, .int .i64 0] 45 (0, 0))) := Lib.hid (Only.blk ho6 (by (repeat (first | (with_reducible exact HP.out) | (with_reducible exact HA.out) | ((with_reducible refine newBlk _ _ _ _ ?_); (first | rfl | (simp; done))) | ((with_reducible refine bxSetNe ?_ _ _ ?_); (rotate_left); (first | omega | (simp; omega))) | (with_reducible refine drewBlk ?_) | (with_reducible refine oldBlk _ ?_)))) (by omega))
    have NA : Hid (w6.heap[w4.heap.size]? = some (.cells #[.int .i64 v0, .int .i64 v1, .int .i64 v2, .int .i64 v3, .int .i64 v4] 45 (0, 0))) := Lib.hid (Only.blk ho6 (by (repeat (first | (with_reducible exact HP.out) | (with_reducible exact HA.out) | ((with_reducible refine newBlk _ _ _ _ ?_); (first | rfl | (simp; done))) | ((with_reducible refine bxSetNe ?_ _ _ ?_); (rotate_left); (first | omega | (simp; omega))) | (with_reducible refine drewBlk ?_) | (with_reducible refine oldBlk _ ?_)))) (by omega))
    have NO : Only g w w6 := Only.trans (by (repeat (first | (with_reducible exact HO) | (with_reducible refine Only.al ?_ _) | ((with_reducible refine Only.st ?_ ?_ _); (rotate_left); (first | omega | (simp; omega))) | (with_reducible refine Only.drew1 ?_)))) ho6
    clear cA0 cA1 cA2 cA3 cA4 fA sne dPA dAP HP HA HO hc5
    have HP := NP
    have HA := NA
    have HO := NO
    clear NP NA NO
    have lP_6 : w.heap.size < w6.heap.size := (Array.getElem?_eq_some_iff.1 HP.out).1
    have lA_6 : w4.heap.size < w6.heap.size := (Array.getElem?_eq_some_iff.1 HA.out).1
    have zz6 := HO.size
    clear ho6
    have sy : Sm y := by simp at qy; exact ⟨by omega, by omega⟩
    clear qy
    have cP0 := cell_of HP.out 0
    have cP1 := cell_of HP.out 1
    have cP2 := cell_of HP.out 2
    have cP3 := cell_of HP.out 3
    have cP4 := cell_of HP.out 4
    have cA0 := cell_of HA.out 0
    have cA1 := cell_of HA.out 1
    have cA2 := cell_of HA.out 2
    have cA3 := cell_of HA.out 3
    have cA4 := cell_of HA.out 4
    simp only [List.getElem?_toArray, List.getElem?_cons_zero, List.getElem?_cons_succ] at cP0 cP1 cP2 cP3 cP4 cA0 cA1 cA2 cA3 cA4
    have fP := free_of HP.out
    have fA := free_of HA.out
    have sne := bxNe
    have dPA : ¬ w.heap.size = w4.heap.size := by omega
    have dAP : ¬ w4.heap.size = w.heap.size := by omega
    go_wp2_with fail
    refine bodyPost_ret (v := .agg #[.int .i64 v0, .int .i64 y, .int .i64 v2, .int .i64 v3, .int .i64 v4]) (by simp [results, Try.results60, go_sem, *]) rfl ?_
    exact ⟨v0, y, v2, v3, v4, ⟨by assumption, by assumption, by assumption, by assumption, by assumption⟩, rfl, by (repeat (first | (with_reducible exact hc6) | (with_reducible refine Cur.al ?_ _) | ((with_reducible refine Cur.st ?_ ?_ _); (rotate_left); (first | omega | (simp; omega))) | (with_reducible refine Cur.drew1 ?_))), by (repeat (first | (with_reducible exact HO) | (with_reducible refine Only.al ?_ _) | ((with_reducible refine Only.st ?_ ?_ _); (rotate_left); (first | omega | (simp; omega))) | (with_reducible refine Only.drew1 ?_)))⟩
  · have sy : Sm (v0 + 1) := ⟨by omega, by omega⟩
    have cP0 := cell_of HP.out 0
    have cP1 := cell_of HP.out 1
    have cP2 := cell_of HP.out 2
    have cP3 := cell_of HP.out 3
    have cP4 := cell_of HP.out 4
    have cA0 := cell_of HA.out 0
    have cA1 := cell_of HA.out 1
    have cA2 := cell_of HA.out 2
    have cA3 := cell_of HA.out 3
    have cA4 := cell_of HA.out 4
    simp only [List.getElem?_toArray, List.getElem?_cons_zero, List.getElem?_cons_succ] at cP0 cP1 cP2 cP3 cP4 cA0 cA1 cA2 cA3 cA4
    have fP := free_of HP.out
    have fA := free_of HA.out
    have sne := bxNe
    have dPA : ¬ w.heap.size = w4.heap.size := by omega
    have dAP : ¬ w4.heap.size = w.heap.size := by omega
    go_wp2_with fail
    refine bodyPost_ret (v := .agg #[.int .i64 (v0 + 1), .int .i64 v1, .int .i64 v2, .int .i64 v3, .int .i64 v4]) (by simp [results, Try.results60, go_sem, *]) rfl ?_
    exact ⟨v0 + 1, v1, v2, v3, v4, ⟨by assumption, by assumption, by assumption, by assumption, by assumption⟩, rfl, by (repeat (first | (with_reducible exact hc5) | (with_reducible refine Cur.al ?_ _) | ((with_reducible refine Cur.st ?_ ?_ _); (rotate_left); (first | omega | (simp; omega))) | (with_reducible refine Cur.drew1 ?_))), by (repeat (first | (with_reducible exact HO) | (with_reducible refine Only.al ?_ _) | ((with_reducible refine Only.st ?_ ?_ _); (rotate_left); (first | omega | (simp; omega))) | (with_reducible refine Only.drew1 ?_)))⟩
  · have hx0 : (x == 0) = false := by simpa using (show ¬ x = 0 by omega)
    have hx1 : (x == 1) = false := by simpa using (show ¬ x = 1 by omega)
    have hx2 : (x == 2) = false := by simpa using (show ¬ x = 2 by omega)
    clear hx
    have cP0 := cell_of HP.out 0
    have cP1 := cell_of HP.out 1
    have cP2 := cell_of HP.out 2
    have cP3 := cell_of HP.out 3
    have cP4 := cell_of HP.out 4
    have cA0 := cell_of HA.out 0
    have cA1 := cell_of HA.out 1
    have cA2 := cell_of HA.out 2
    have cA3 := cell_of HA.out 3
    have cA4 := cell_of HA.out 4
    simp only [List.getElem?_toArray, List.getElem?_cons_zero, List.getElem?_cons_succ] at cP0 cP1 cP2 cP3 cP4 cA0 cA1 cA2 cA3 cA4
    have fP := free_of HP.out
    have fA := free_of HA.out
    have sne := bxNe
    have dPA : ¬ w.heap.size = w4.heap.size := by omega
    have dAP : ¬ w4.heap.size = w.heap.size := by omega
    go_wp2_with fail
    refine bodyPost_ret (v := .agg #[.int .i64 v0, .int .i64 v1, .int .i64 v2, .int .i64 v3, .int .i64 v4]) (by simp [results, Try.results60, go_sem, *]) rfl ?_
    exact ⟨v0, v1, v2, v3, v4, ⟨by assumption, by assumption, by assumption, by assumption, by assumption⟩, rfl, by (repeat (first | (with_reducible exact hc5) | (with_reducible refine Cur.al ?_ _) | ((with_reducible refine Cur.st ?_ ?_ _); (rotate_left); (first | omega | (simp; omega))) | (with_reducible refine Cur.drew1 ?_))), by (repeat (first | (with_reducible exact HO) | (with_reducible refine Only.al ?_ _) | ((with_reducible refine Only.st ?_ ?_ _); (rotate_left); (first | omega | (simp; omega))) | (with_reducible refine Only.drew1 ?_)))⟩

end Go.Proofs.Ytfenmicakmjelaa
