/-
  Contracts: identities drawn.
-/
import Derived.Test.YtfenmicakmjelaaDraw3
import Derived.Test.YtfenmicakmjelaaIds
namespace Go.Proofs.Ytfenmicakmjelaa
open Go.RowKit


theorem bxSet {w : World} {g : Nat} {cs cs' : Array Value} {t : TypeId} (h : w.heap[g]? = some (.cells cs t (0, 0))) (i : Nat) (v : Value) (hc : cs.setIfInBounds i v = cs') : (w.setCell ⟨g, i, none⟩ v).heap[g]? = some (.cells cs' t (0, 0)) := by
  simp [World.setCell, Array.getElem?_modify, h, hc]
theorem bxSetNe {w : World} {g g' : Nat} {cs : Array Value} {t : TypeId} (h : w.heap[g]? = some (.cells cs t (0, 0))) (i : Nat) (v : Value) (hn : g' ≠ g) : (w.setCell ⟨g', i, none⟩ v).heap[g]? = some (.cells cs t (0, 0)) :=
  (heap_setCell_other w ⟨g', i, none⟩ g v (fun e => hn e.symm)).trans h
theorem bxNe (W : World) (g i k j : Nat) (v : Value) (h : ¬ g = k) : (W.setCell ⟨g, i, none⟩ v).cell? ⟨k, j, none⟩ = W.cell? ⟨k, j, none⟩ :=
  World.cell?_setCell_other W ⟨g, i, none⟩ ⟨k, j, none⟩ v (fun e => h (by first | exact congrArg Addr.block e | exact (congrArg Addr.block e).symm))
theorem Only.blk {g k : Nat} {a b : World} {cs : Array Value} {t : TypeId} (h : Only g a b) (hk : a.heap[k]? = some (.cells cs t (0, 0))) (hne : k ≠ g) : b.heap[k]? = some (.cells cs t (0, 0)) :=
  (h.block k (Array.getElem?_eq_some_iff.1 hk).1 (fun e => hne (by injection e))).trans hk
theorem Only.st {g k i : Nat} {a b : World} (h : Only g a b) (hk : a.heap.size ≤ k) (v : Value) : Only g a (b.setCell ⟨k, i, none⟩ v) :=
  ⟨h.os, h.tape, h.output, by simpa using h.size, fun j hj hne => (heap_setCell_other b ⟨k, i, none⟩ j v (fun e => by have h2 : j = k := (by simpa using e); omega)).trans (h.block j hj hne)⟩
theorem Only.drew1 {g : Nat} {a b : World} (h : Only g a b) : Only g a b.drew := ⟨h.os, h.tape, h.output, h.size, h.block⟩
theorem Cur.st {w : World} {g k i : Nat} {zs : List Int} (h : Cur w g zs) (hk : g < k) (v : Value) : Cur (w.setCell ⟨k, i, none⟩ v) g zs :=
  h.keep fun j hj => heap_setCell_other w ⟨k, i, none⟩ j v (fun e => by have h2 : j = k := (by simpa using e); omega)
theorem Cur.drew1 {w : World} {g : Nat} {zs : List Int} (h : Cur w g zs) : Cur w.drew g zs := h

/-- An identity drawn, within these bounds. -/
def DrewId (p q r s : Int) (g : Nat) (zs : List Int) (w : World) (e : Ending) (w' : World) : Prop :=
  ∃ a b : Int, (InI p q a ∧ InI r s b) ∧ e = .returned (.agg #[.int .i64 a, .int .i64 b]) ∧ Cur w' g zs ∧ Only g w w'
set_option maxRecDepth 100000 in
set_option maxHeartbeats 4000000 in
theorem spec_l4Who (g : Nat) (zs : List Int) (w : World) (hc : Cur w g zs) :
    Calls Try.prog 73 #[.pointer (some ⟨g, 0, none⟩)] w (DrewId 0 2 0 4 g zs w) := by
  have hgw := hc.lt
  have HR := Lib.hid (newBlk w #[.int .i64 0, .int .i64 0] 28 (w.heap.size) (by simp))
  have hc0 : Cur (w.alloc (.cells #[.int .i64 0, .int .i64 0] 28)) g zs := by repeat (first | exact hc | refine Cur.al ?_ _)
  have HO : Only g w (w.alloc (.cells #[.int .i64 0, .int .i64 0] 28)) := by repeat (first | exact Only.refl g w | refine Only.al ?_ _)
  have lR_0 : w.heap.size < (w.alloc (.cells #[.int .i64 0, .int .i64 0] 28)).heap.size := (Array.getElem?_eq_some_iff.1 HR.out).1
  clear hc
  go_enter Try.func73, Try.ntmps73
  go_wp2_with fail
  refine (spec_l1Below g zs 3 _ (by omega) (by (repeat (first | (with_reducible exact hc0) | (with_reducible refine Cur.al ?_ _) | ((with_reducible refine Cur.st ?_ ?_ _); (rotate_left); (first | omega | (simp; omega))) | (with_reducible refine Cur.drew1 ?_))))).mono ?_
  rintro e w1 ⟨a, qa, rfl, hc1, ho1⟩
  have NR : Hid (w1.heap[w.heap.size]? = some (.cells #[.int .i64 0, .int .i64 0] 28 (0, 0))) := Lib.hid (Only.blk ho1 (by (repeat (first | (with_reducible exact HR.out) | ((with_reducible refine newBlk _ _ _ _ ?_); (first | rfl | (simp; done))) | ((with_reducible refine bxSetNe ?_ _ _ ?_); (rotate_left); (first | omega | (simp; omega))) | (with_reducible refine drewBlk ?_) | (with_reducible refine oldBlk _ ?_)))) (by omega))
  have NO : Only g w w1 := Only.trans (by (repeat (first | (with_reducible exact HO) | (with_reducible refine Only.al ?_ _) | ((with_reducible refine Only.st ?_ ?_ _); (rotate_left); (first | omega | (simp; omega))) | (with_reducible refine Only.drew1 ?_)))) ho1
  clear HR HO hc0
  have HR := NR
  have HO := NO
  clear NR NO
  have lR_1 : w.heap.size < w1.heap.size := (Array.getElem?_eq_some_iff.1 HR.out).1
  have zz1 := HO.size
  clear ho1
  obtain ⟨a0, a1⟩ := qa.bd (by omega)
  clear qa
  go_wp2_with fail
  refine (spec_l1Below g zs 5 _ (by omega) (by (repeat (first | (with_reducible exact hc1) | (with_reducible refine Cur.al ?_ _) | ((with_reducible refine Cur.st ?_ ?_ _); (rotate_left); (first | omega | (simp; omega))) | (with_reducible refine Cur.drew1 ?_))))).mono ?_
  rintro e w2 ⟨b, qb, rfl, hc2, ho2⟩
  have NR : Hid (w2.heap[w.heap.size]? = some (.cells #[.int .i64 0, .int .i64 0] 28 (0, 0))) := Lib.hid (Only.blk ho2 (by (repeat (first | (with_reducible exact HR.out) | ((with_reducible refine newBlk _ _ _ _ ?_); (first | rfl | (simp; done))) | ((with_reducible refine bxSetNe ?_ _ _ ?_); (rotate_left); (first | omega | (simp; omega))) | (with_reducible refine drewBlk ?_) | (with_reducible refine oldBlk _ ?_)))) (by omega))
  have NO : Only g w w2 := Only.trans (by (repeat (first | (with_reducible exact HO) | (with_reducible refine Only.al ?_ _) | ((with_reducible refine Only.st ?_ ?_ _); (rotate_left); (first | omega | (simp; omega))) | (with_reducible refine Only.drew1 ?_)))) ho2
  clear HR HO hc1
  have HR := NR
  have HO := NO
  clear NR NO
  have lR_2 : w.heap.size < w2.heap.size := (Array.getElem?_eq_some_iff.1 HR.out).1
  have zz2 := HO.size
  clear ho2
  obtain ⟨b0, b1⟩ := qb.bd (by omega)
  clear qb
  have cR0 := cell_of HR.out 0
  have cR1 := cell_of HR.out 1
  simp only [List.getElem?_toArray, List.getElem?_cons_zero, List.getElem?_cons_succ] at cR0 cR1
  have fR := free_of HR.out
  have sne := bxNe
  go_wp2_with fail
  refine bodyPost_ret (v := .agg #[.int .i64 a, .int .i64 b]) (by simp [results, Try.results73, go_sem, *]) rfl ?_
  exact ⟨a, b, ⟨⟨by omega, by omega⟩, ⟨by omega, by omega⟩⟩, rfl, by (repeat (first | (with_reducible exact hc2) | (with_reducible refine Cur.al ?_ _) | ((with_reducible refine Cur.st ?_ ?_ _); (rotate_left); (first | omega | (simp; omega))) | (with_reducible refine Cur.drew1 ?_))), by (repeat (first | (with_reducible exact HO) | (with_reducible refine Only.al ?_ _) | ((with_reducible refine Only.st ?_ ?_ _); (rotate_left); (first | omega | (simp; omega))) | (with_reducible refine Only.drew1 ?_)))⟩

set_option maxRecDepth 100000 in
set_option maxHeartbeats 4000000 in
theorem spec_l4Any (g : Nat) (zs : List Int) (w : World) (hc : Cur w g zs) :
    Calls Try.prog 71 #[.pointer (some ⟨g, 0, none⟩)] w (DrewId (-1) 4 (-1) 100 g zs w) := by
  have hgw := hc.lt
  have HR := Lib.hid (newBlk w #[.int .i64 0, .int .i64 0] 28 (w.heap.size) (by simp))
  have hc0 : Cur (w.alloc (.cells #[.int .i64 0, .int .i64 0] 28)) g zs := by repeat (first | exact hc | refine Cur.al ?_ _)
  have HO : Only g w (w.alloc (.cells #[.int .i64 0, .int .i64 0] 28)) := by repeat (first | exact Only.refl g w | refine Only.al ?_ _)
  have lR_0 : w.heap.size < (w.alloc (.cells #[.int .i64 0, .int .i64 0] 28)).heap.size := (Array.getElem?_eq_some_iff.1 HR.out).1
  clear hc
  go_enter Try.func71, Try.ntmps71
  go_wp2_with fail
  refine (spec_l4Who g zs _ (by (repeat (first | (with_reducible exact hc0) | (with_reducible refine Cur.al ?_ _) | ((with_reducible refine Cur.st ?_ ?_ _); (rotate_left); (first | omega | (simp; omega))) | (with_reducible refine Cur.drew1 ?_))))).mono ?_
  rintro e w1 ⟨a, b, ⟨⟨a0, a1⟩, ⟨b0, b1⟩⟩, rfl, hc1, ho1⟩
  have NR : Hid (w1.heap[w.heap.size]? = some (.cells #[.int .i64 0, .int .i64 0] 28 (0, 0))) := Lib.hid (Only.blk ho1 (by (repeat (first | (with_reducible exact HR.out) | ((with_reducible refine newBlk _ _ _ _ ?_); (first | rfl | (simp; done))) | ((with_reducible refine bxSetNe ?_ _ _ ?_); (rotate_left); (first | omega | (simp; omega))) | (with_reducible refine drewBlk ?_) | (with_reducible refine oldBlk _ ?_)))) (by omega))
  have NO : Only g w w1 := Only.trans (by (repeat (first | (with_reducible exact HO) | (with_reducible refine Only.al ?_ _) | ((with_reducible refine Only.st ?_ ?_ _); (rotate_left); (first | omega | (simp; omega))) | (with_reducible refine Only.drew1 ?_)))) ho1
  clear HR HO hc0
  have HR := NR
  have HO := NO
  clear NR NO
  have lR_1 : w.heap.size < w1.heap.size := (Array.getElem?_eq_some_iff.1 HR.out).1
  have zz1 := HO.size
  clear ho1
  go_wp2_with fail
  refine (spec_l1Below g zs 8 _ (by omega) (by (repeat (first | (with_reducible exact hc1) | (with_reducible refine Cur.al ?_ _) | ((with_reducible refine Cur.st ?_ ?_ _); (rotate_left); (first | omega | (simp; omega))) | (with_reducible refine Cur.drew1 ?_))))).mono ?_
  rintro e w2 ⟨x, qx, rfl, hc2, ho2⟩
  have NR : Hid (w2.heap[w.heap.size]? = some (.cells #[.int .i64 0, .int .i64 0] 28 (0, 0))) := Lib.hid (Only.blk ho2 (by (repeat (first | (with_reducible exact HR.out) | ((with_reducible refine newBlk _ _ _ _ ?_); (first | rfl | (simp; done))) | ((with_reducible refine bxSetNe ?_ _ _ ?_); (rotate_left); (first | omega | (simp; omega))) | (with_reducible refine drewBlk ?_) | (with_reducible refine oldBlk _ ?_)))) (by omega))
  have NW : Hid (w2.heap[w1.heap.size]? = some (.cells #[.int .i64 a, .int .i64 b] 28 (0, 0))) := Lib.hid (Only.blk ho2 (by (repeat (first | (with_reducible exact HR.out) | ((with_reducible refine newBlk _ _ _ _ ?_); (first | rfl | (simp; done))) | ((with_reducible refine bxSetNe ?_ _ _ ?_); (rotate_left); (first | omega | (simp; omega))) | (with_reducible refine drewBlk ?_) | (with_reducible refine oldBlk _ ?_)))) (by omega))
  have NO : Only g w w2 := Only.trans (by (repeat (first | (with_reducible exact HO) | (with_reducible refine Only.al ?_ _) | ((with_reducible refine Only.st ?_ ?_ _); (rotate_left); (first | omega | (simp; omega))) | (with_reducible refine Only.drew1 ?_)))) ho2
  clear HR HO hc1
  have HR := NR
  have HW := NW
  have HO := NO
  clear NR NW NO
  have lR_2 : w.heap.size < w2.heap.size := (Array.getElem?_eq_some_iff.1 HR.out).1
  have lW_2 : w1.heap.size < w2.heap.size := (Array.getElem?_eq_some_iff.1 HW.out).1
  have zz2 := HO.size
  clear ho2
  obtain ⟨x0, x1⟩ := qx.bd (by omega)
  clear qx
  obtain rfl | rfl | hx : x = 0 ∨ x = 1 ∨ 2 ≤ x := by omega
  · go_wp2_with fail
    refine (spec_l1Int_lit g zs [-1, 3, 4] _ (by (repeat (first | (with_reducible exact hc2) | (with_reducible refine Cur.al ?_ _) | ((with_reducible refine Cur.st ?_ ?_ _); (rotate_left); (first | omega | (simp; omega))) | (with_reducible refine Cur.drew1 ?_)))) (by decide) (by decide)).mono ?_
    rintro e w3 ⟨y, qy, rfl, hc3, ho3⟩
    have NR : Hid (w3.heap[w.heap.size]? = some (.cells #[.int .i64 0, .int .i64 0] 28 (0, 0))) := Lib.hid (Only.blk ho3 (by (repeat (first | (with_reducible exact HR.out) | (with_reducible exact HW.out) | ((with_reducible refine newBlk _ _ _ _ ?_); (first | rfl | (simp; done))) | ((with_reducible refine bxSetNe ?_ _ _ ?_); (rotate_left); (first | omega | (simp; omega))) | (with_reducible refine drewBlk ?_) | (with_reducible refine oldBlk _ ?_)))) (by omega))
    have NW : Hid (w3.heap[w1.heap.size]? = some (.cells #[.int .i64 a, .int .i64 b] 28 (0, 0))) := Lib.hid (Only.blk ho3 (by (repeat (first | (with_reducible exact HR.out) | (with_reducible exact HW.out) | ((with_reducible refine newBlk _ _ _ _ ?_); (first | rfl | (simp; done))) | ((with_reducible refine bxSetNe ?_ _ _ ?_); (rotate_left); (first | omega | (simp; omega))) | (with_reducible refine drewBlk ?_) | (with_reducible refine oldBlk _ ?_)))) (by omega))
    have NO : Only g w w3 := Only.trans (by (repeat (first | (with_reducible exact HO) | (with_reducible refine Only.al ?_ _) | ((with_reducible refine Only.st ?_ ?_ _); (rotate_left); (first | omega | (simp; omega))) | (with_reducible refine Only.drew1 ?_)))) ho3
    clear HR HW HO hc2
    have HR := NR
    have HW := NW
    have HO := NO
    clear NR NW NO
    have lR_3 : w.heap.size < w3.heap.size := (Array.getElem?_eq_some_iff.1 HR.out).1
    have lW_3 : w1.heap.size < w3.heap.size := (Array.getElem?_eq_some_iff.1 HW.out).1
    have zz3 := HO.size
    clear ho3
    obtain ⟨y0, y1⟩ := mem_in (lo := -1) (hi := 4) (by decide) qy
    clear qy
    have cR0 := cell_of HR.out 0
    have cR1 := cell_of HR.out 1
    have cW0 := cell_of HW.out 0
    have cW1 := cell_of HW.out 1
    simp only [List.getElem?_toArray, List.getElem?_cons_zero, List.getElem?_cons_succ] at cR0 cR1 cW0 cW1
    have fR := free_of HR.out
    have fW := free_of HW.out
    have sne := bxNe
    have dRW : ¬ w.heap.size = w1.heap.size := by omega
    have dWR : ¬ w1.heap.size = w.heap.size := by omega
    go_wp2_with fail
    refine bodyPost_ret (v := .agg #[.int .i64 y, .int .i64 b]) (by simp [results, Try.results71, go_sem, *]) rfl ?_
    exact ⟨y, b, ⟨⟨by omega, by omega⟩, ⟨by omega, by omega⟩⟩, rfl, by (repeat (first | (with_reducible exact hc3) | (with_reducible refine Cur.al ?_ _) | ((with_reducible refine Cur.st ?_ ?_ _); (rotate_left); (first | omega | (simp; omega))) | (with_reducible refine Cur.drew1 ?_))), by (repeat (first | (with_reducible exact HO) | (with_reducible refine Only.al ?_ _) | ((with_reducible refine Only.st ?_ ?_ _); (rotate_left); (first | omega | (simp; omega))) | (with_reducible refine Only.drew1 ?_)))⟩
  · go_wp2_with fail
    refine (spec_l1Int_lit g zs [-1, 99, 100] _ (by (repeat (first | (with_reducible exact hc2) | (with_reducible refine Cur.al ?_ _) | ((with_reducible refine Cur.st ?_ ?_ _); (rotate_left); (first | omega | (simp; omega))) | (with_reducible refine Cur.drew1 ?_)))) (by decide) (by decide)).mono ?_
    rintro e w3 ⟨y, qy, rfl, hc3, ho3⟩
    have NR : Hid (w3.heap[w.heap.size]? = some (.cells #[.int .i64 0, .int .i64 0] 28 (0, 0))) := Lib.hid (Only.blk ho3 (by (repeat (first | (with_reducible exact HR.out) | (with_reducible exact HW.out) | ((with_reducible refine newBlk _ _ _ _ ?_); (first | rfl | (simp; done))) | ((with_reducible refine bxSetNe ?_ _ _ ?_); (rotate_left); (first | omega | (simp; omega))) | (with_reducible refine drewBlk ?_) | (with_reducible refine oldBlk _ ?_)))) (by omega))
    have NW : Hid (w3.heap[w1.heap.size]? = some (.cells #[.int .i64 a, .int .i64 b] 28 (0, 0))) := Lib.hid (Only.blk ho3 (by (repeat (first | (with_reducible exact HR.out) | (with_reducible exact HW.out) | ((with_reducible refine newBlk _ _ _ _ ?_); (first | rfl | (simp; done))) | ((with_reducible refine bxSetNe ?_ _ _ ?_); (rotate_left); (first | omega | (simp; omega))) | (with_reducible refine drewBlk ?_) | (with_reducible refine oldBlk _ ?_)))) (by omega))
    have NO : Only g w w3 := Only.trans (by (repeat (first | (with_reducible exact HO) | (with_reducible refine Only.al ?_ _) | ((with_reducible refine Only.st ?_ ?_ _); (rotate_left); (first | omega | (simp; omega))) | (with_reducible refine Only.drew1 ?_)))) ho3
    clear HR HW HO hc2
    have HR := NR
    have HW := NW
    have HO := NO
    clear NR NW NO
    have lR_3 : w.heap.size < w3.heap.size := (Array.getElem?_eq_some_iff.1 HR.out).1
    have lW_3 : w1.heap.size < w3.heap.size := (Array.getElem?_eq_some_iff.1 HW.out).1
    have zz3 := HO.size
    clear ho3
    obtain ⟨y0, y1⟩ := mem_in (lo := -1) (hi := 100) (by decide) qy
    clear qy
    have cR0 := cell_of HR.out 0
    have cR1 := cell_of HR.out 1
    have cW0 := cell_of HW.out 0
    have cW1 := cell_of HW.out 1
    simp only [List.getElem?_toArray, List.getElem?_cons_zero, List.getElem?_cons_succ] at cR0 cR1 cW0 cW1
    have fR := free_of HR.out
    have fW := free_of HW.out
    have sne := bxNe
    have dRW : ¬ w.heap.size = w1.heap.size := by omega
    have dWR : ¬ w1.heap.size = w.heap.size := by omega
    go_wp2_with fail
    refine bodyPost_ret (v := .agg #[.int .i64 a, .int .i64 y]) (by simp [results, Try.results71, go_sem, *]) rfl ?_
    exact ⟨a, y, ⟨⟨by omega, by omega⟩, ⟨by omega, by omega⟩⟩, rfl, by (repeat (first | (with_reducible exact hc3) | (with_reducible refine Cur.al ?_ _) | ((with_reducible refine Cur.st ?_ ?_ _); (rotate_left); (first | omega | (simp; omega))) | (with_reducible refine Cur.drew1 ?_))), by (repeat (first | (with_reducible exact HO) | (with_reducible refine Only.al ?_ _) | ((with_reducible refine Only.st ?_ ?_ _); (rotate_left); (first | omega | (simp; omega))) | (with_reducible refine Only.drew1 ?_)))⟩
  · have hx0 : (x == 0) = false := by simpa using (show ¬ x = 0 by omega)
    have hx1 : (x == 1) = false := by simpa using (show ¬ x = 1 by omega)
    clear hx
    have cR0 := cell_of HR.out 0
    have cR1 := cell_of HR.out 1
    have cW0 := cell_of HW.out 0
    have cW1 := cell_of HW.out 1
    simp only [List.getElem?_toArray, List.getElem?_cons_zero, List.getElem?_cons_succ] at cR0 cR1 cW0 cW1
    have fR := free_of HR.out
    have fW := free_of HW.out
    have sne := bxNe
    have dRW : ¬ w.heap.size = w1.heap.size := by omega
    have dWR : ¬ w1.heap.size = w.heap.size := by omega
    go_wp2_with fail
    refine bodyPost_ret (v := .agg #[.int .i64 a, .int .i64 b]) (by simp [results, Try.results71, go_sem, *]) rfl ?_
    exact ⟨a, b, ⟨⟨by omega, by omega⟩, ⟨by omega, by omega⟩⟩, rfl, by (repeat (first | (with_reducible exact hc2) | (with_reducible refine Cur.al ?_ _) | ((with_reducible refine Cur.st ?_ ?_ _); (rotate_left); (first | omega | (simp; omega))) | (with_reducible refine Cur.drew1 ?_))), by (repeat (first | (with_reducible exact HO) | (with_reducible refine Only.al ?_ _) | ((with_reducible refine Only.st ?_ ?_ _); (rotate_left); (first | omega | (simp; omega))) | (with_reducible refine Only.drew1 ?_)))⟩

end Go.Proofs.Ytfenmicakmjelaa
