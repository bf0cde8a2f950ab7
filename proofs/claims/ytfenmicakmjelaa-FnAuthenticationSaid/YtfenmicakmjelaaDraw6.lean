/-
  Contracts: cards, records and vectors drawn.
-/
import Derived.Test.YtfenmicakmjelaaAu
import Derived.Test.YtfenmicakmjelaaDrawI
import Derived.Deep.RegionHeld3
import Derived.Deep.DeepCutAuto
import Derived.IntWalk
namespace Go.Proofs.Ytfenmicakmjelaa
open Go.RowKit

/-- A number within the bounds of what is drawn. -/
def Sm (n : Int) : Prop := -1 ≤ n ∧ n ≤ 4294967296
theorem Sm.wf {n : Int} (h : Sm n) : (Lit.int .i64 n).wf = true := by obtain ⟨h0, h1⟩ := h; exact WalkArith.wf_i64 (by omega)
/-- A card drawn. -/
def DrewU (g : Nat) (zs : List Int) (w : World) (e : Ending) (w' : World) : Prop :=
  ∃ a b k l : Int, ((InI 0 2 a ∧ InI 0 4 b) ∧ InI 100 105 k ∧ InI 0 39 l) ∧ e = .returned (.agg #[.int .i64 a, .int .i64 b, .int .i64 k, .int .i64 l]) ∧ Cur w' g zs ∧ Only g w w'
/-- A card and a record drawn. -/
def DrewUR (g : Nat) (zs : List Int) (w : World) (e : Ending) (w' : World) : Prop :=
  ∃ a b k l a' b' k' s : Int, ((Sm a ∧ Sm b ∧ Sm k ∧ Sm l) ∧ Sm a' ∧ Sm b' ∧ Sm k' ∧ Sm s) ∧ e = .returned (.tuple #[.agg #[.int .i64 a, .int .i64 b, .int .i64 k, .int .i64 l], .agg #[.int .i64 a', .int .i64 b', .int .i64 k', .int .i64 s]]) ∧ Cur w' g zs ∧ Only g w w'

set_option maxRecDepth 100000 in
set_option maxHeartbeats 8000000 in
theorem spec_l6Card (g : Nat) (zs : List Int) (w : World) (hc : Cur w g zs) :
    Calls Try.prog 66 #[.pointer (some ⟨g, 0, none⟩)] w (DrewU g zs w) := by
  have hgw := hc.lt
  have HR := Lib.hid (newBlk w #[.int .i64 0, .int .i64 0, .int .i64 0, .int .i64 0] 30 (w.heap.size) (by simp))
  have hc0 : Cur (w.alloc (.cells #[.int .i64 0, .int .i64 0, .int .i64 0, .int .i64 0] 30)) g zs := by repeat (first | exact hc | refine Cur.al ?_ _)
  have HO : Only g w (w.alloc (.cells #[.int .i64 0, .int .i64 0, .int .i64 0, .int .i64 0] 30)) := by repeat (first | exact Only.refl g w | refine Only.al ?_ _)
  have lR_0 : w.heap.size < (w.alloc (.cells #[.int .i64 0, .int .i64 0, .int .i64 0, .int .i64 0] 30)).heap.size := (Array.getElem?_eq_some_iff.1 HR.out).1
  clear hc
  go_enter Try.func66, Try.ntmps66
  go_wp2_with fail
  refine (spec_l4Who g zs _ (by (repeat (first | (with_reducible exact hc0) | (with_reducible refine Cur.al ?_ _) | ((with_reducible refine Cur.st ?_ ?_ _); (rotate_left); (first | omega | (simp; omega))) | (with_reducible refine Cur.drew1 ?_))))).mono ?_
  rintro e w1 ⟨a, b, ⟨⟨a0, a1⟩, ⟨b0, b1⟩⟩, rfl, hc1, ho1⟩
  have NR : Hid (w1.heap[w.heap.size]? = some (.cells #[.int .i64 0, .int .i64 0, .int .i64 0, .int .i64 0] 30 (0, 0))) := Lib.hid (Only.blk ho1 (by (repeat (first | (with_reducible exact HR.out) | ((with_reducible refine newBlk _ _ _ _ ?_); (first | rfl | (simp; done))) | ((with_reducible refine bxSetNe ?_ _ _ ?_); (rotate_left); (first | omega | (simp; omega))) | (with_reducible refine drewBlk ?_) | (with_reducible refine oldBlk _ ?_)))) (by omega))
  have NO : Only g w w1 := Only.trans (by (repeat (first | (with_reducible exact HO) | (with_reducible refine Only.al ?_ _) | ((with_reducible refine Only.st ?_ ?_ _); (rotate_left); (first | omega | (simp; omega))) | (with_reducible refine Only.drew1 ?_)))) ho1
  clear HR HO hc0
  have HR := NR
  have HO := NO
  clear NR NO
  have lR_1 : w.heap.size < w1.heap.size := (Array.getElem?_eq_some_iff.1 HR.out).1
  have zz1 := HO.size
  clear ho1
  go_wp2_with fail
  refine (spec_l5Key g zs _ (by (repeat (first | (with_reducible exact hc1) | (with_reducible refine Cur.al ?_ _) | ((with_reducible refine Cur.st ?_ ?_ _); (rotate_left); (first | omega | (simp; omega))) | (with_reducible refine Cur.drew1 ?_))))).mono ?_
  rintro e w2 ⟨k, ⟨k0, k1⟩, rfl, hc2, ho2⟩
  have NR : Hid (w2.heap[w.heap.size]? = some (.cells #[.int .i64 0, .int .i64 0, .int .i64 0, .int .i64 0] 30 (0, 0))) := Lib.hid (Only.blk ho2 (by (repeat (first | (with_reducible exact HR.out) | ((with_reducible refine newBlk _ _ _ _ ?_); (first | rfl | (simp; done))) | ((with_reducible refine bxSetNe ?_ _ _ ?_); (rotate_left); (first | omega | (simp; omega))) | (with_reducible refine drewBlk ?_) | (with_reducible refine oldBlk _ ?_)))) (by omega))
  have NO : Only g w w2 := Only.trans (by (repeat (first | (with_reducible exact HO) | (with_reducible refine Only.al ?_ _) | ((with_reducible refine Only.st ?_ ?_ _); (rotate_left); (first | omega | (simp; omega))) | (with_reducible refine Only.drew1 ?_)))) ho2
  clear HR HO hc1
  have HR := NR
  have HO := NO
  clear NR NO
  have lR_2 : w.heap.size < w2.heap.size := (Array.getElem?_eq_some_iff.1 HR.out).1
  have zz2 := HO.size
  clear ho2
  go_wp2_with fail
  refine (spec_l1Below g zs 40 _ (by omega) (by (repeat (first | (with_reducible exact hc2) | (with_reducible refine Cur.al ?_ _) | ((with_reducible refine Cur.st ?_ ?_ _); (rotate_left); (first | omega | (simp; omega))) | (with_reducible refine Cur.drew1 ?_))))).mono ?_
  rintro e w3 ⟨l, ql, rfl, hc3, ho3⟩
  have NR : Hid (w3.heap[w.heap.size]? = some (.cells #[.int .i64 0, .int .i64 0, .int .i64 0, .int .i64 0] 30 (0, 0))) := Lib.hid (Only.blk ho3 (by (repeat (first | (with_reducible exact HR.out) | ((with_reducible refine newBlk _ _ _ _ ?_); (first | rfl | (simp; done))) | ((with_reducible refine bxSetNe ?_ _ _ ?_); (rotate_left); (first | omega | (simp; omega))) | (with_reducible refine drewBlk ?_) | (with_reducible refine oldBlk _ ?_)))) (by omega))
  have NO : Only g w w3 := Only.trans (by (repeat (first | (with_reducible exact HO) | (with_reducible refine Only.al ?_ _) | ((with_reducible refine Only.st ?_ ?_ _); (rotate_left); (first | omega | (simp; omega))) | (with_reducible refine Only.drew1 ?_)))) ho3
  clear HR HO hc2
  have HR := NR
  have HO := NO
  clear NR NO
  have lR_3 : w.heap.size < w3.heap.size := (Array.getElem?_eq_some_iff.1 HR.out).1
  have zz3 := HO.size
  clear ho3
  obtain ⟨l0, l1⟩ := ql.bd (by omega)
  clear ql
  have cR0 := cell_of HR.out 0
  have cR1 := cell_of HR.out 1
  have cR2 := cell_of HR.out 2
  have cR3 := cell_of HR.out 3
  simp only [List.getElem?_toArray, List.getElem?_cons_zero, List.getElem?_cons_succ] at cR0 cR1 cR2 cR3
  have fR := free_of HR.out
  have sne := bxNe
  go_wp2_with fail
  refine bodyPost_ret (v := .agg #[.int .i64 a, .int .i64 b, .int .i64 k, .int .i64 l]) (by simp [results, Try.results66, go_sem, *]) rfl ?_
  exact ⟨a, b, k, l, ⟨⟨⟨a0, a1⟩, ⟨b0, b1⟩⟩, ⟨k0, k1⟩, ⟨by omega, by omega⟩⟩, rfl, by (repeat (first | (with_reducible exact hc3) | (with_reducible refine Cur.al ?_ _) | ((with_reducible refine Cur.st ?_ ?_ _); (rotate_left); (first | omega | (simp; omega))) | (with_reducible refine Cur.drew1 ?_))), by (repeat (first | (with_reducible exact HO) | (with_reducible refine Only.al ?_ _) | ((with_reducible refine Only.st ?_ ?_ _); (rotate_left); (first | omega | (simp; omega))) | (with_reducible refine Only.drew1 ?_)))⟩

set_option maxRecDepth 100000 in
set_option maxHeartbeats 8000000 in
theorem spec_l6Pair (g : Nat) (zs : List Int) (w : World) (hc : Cur w g zs) :
    Calls Try.prog 51 #[.pointer (some ⟨g, 0, none⟩)] w (DrewUR g zs w) := by
  have hgw := hc.lt
  have HP := Lib.hid (newBlk w #[.int .i64 0, .int .i64 0, .int .i64 0, .int .i64 0] 30 (w.heap.size) (by simp))
  replace HP := Lib.hid (oldBlk (.cells #[.int .i64 0, .int .i64 0, .int .i64 0, .int .i64 0] 32) HP.out)
  have HQ := Lib.hid (newBlk (w.alloc (.cells #[.int .i64 0, .int .i64 0, .int .i64 0, .int .i64 0] 30)) #[.int .i64 0, .int .i64 0, .int .i64 0, .int .i64 0] 32 (w.heap.size + 1) (by simp))
  have hc0 : Cur ((w.alloc (.cells #[.int .i64 0, .int .i64 0, .int .i64 0, .int .i64 0] 30)).alloc (.cells #[.int .i64 0, .int .i64 0, .int .i64 0, .int .i64 0] 32)) g zs := by repeat (first | exact hc | refine Cur.al ?_ _)
  have HO : Only g w ((w.alloc (.cells #[.int .i64 0, .int .i64 0, .int .i64 0, .int .i64 0] 30)).alloc (.cells #[.int .i64 0, .int .i64 0, .int .i64 0, .int .i64 0] 32)) := by repeat (first | exact Only.refl g w | refine Only.al ?_ _)
  have lP_0 : w.heap.size < ((w.alloc (.cells #[.int .i64 0, .int .i64 0, .int .i64 0, .int .i64 0] 30)).alloc (.cells #[.int .i64 0, .int .i64 0, .int .i64 0, .int .i64 0] 32)).heap.size := (Array.getElem?_eq_some_iff.1 HP.out).1
  have lQ_0 : w.heap.size + 1 < ((w.alloc (.cells #[.int .i64 0, .int .i64 0, .int .i64 0, .int .i64 0] 30)).alloc (.cells #[.int .i64 0, .int .i64 0, .int .i64 0, .int .i64 0] 32)).heap.size := (Array.getElem?_eq_some_iff.1 HQ.out).1
  clear hc
  go_enter Try.func51, Try.ntmps51
  go_wp2_with fail
  refine (spec_l6Card g zs _ (by (repeat (first | (with_reducible exact hc0) | (with_reducible refine Cur.al ?_ _) | ((with_reducible refine Cur.st ?_ ?_ _); (rotate_left); (first | omega | (simp; omega))) | (with_reducible refine Cur.drew1 ?_))))).mono ?_
  rintro e w1 ⟨a, b, k, l, ⟨⟨⟨a0, a1⟩, ⟨b0, b1⟩⟩, ⟨k0, k1⟩, ⟨l0, l1⟩⟩, rfl, hc1, ho1⟩
  have NP : Hid (w1.heap[w.heap.size]? = some (.cells #[.int .i64 0, .int .i64 0, .int .i64 0, .int .i64 0] 30 (0, 0))) := Lib.hid (Only.blk ho1 (by (repeat (first | (with_reducible exact HP.out) | (with_reducible exact HQ.out) | ((with_reducible refine newBlk _ _ _ _ ?_); (first | rfl | (simp; done))) | ((with_reducible refine bxSetNe ?_ _ _ ?_); (rotate_left); (first | omega | (simp; omega))) | (with_reducible refine drewBlk ?_) | (with_reducible refine oldBlk _ ?_)))) (by omega))
  have NQ : Hid (w1.heap[w.heap.size + 1]? = some (.cells #[.int .i64 0, .int .i64 0, .int .i64 0, .int .i64 0] 32 (0, 0))) := Lib.hid (Only.blk ho1 (by (repeat (first | (with_reducible exact HP.out) | (with_reducible exact HQ.out) | ((with_reducible refine newBlk _ _ _ _ ?_); (first | rfl | (simp; done))) | ((with_reducible refine bxSetNe ?_ _ _ ?_); (rotate_left); (first | omega | (simp; omega))) | (with_reducible refine drewBlk ?_) | (with_reducible refine oldBlk _ ?_)))) (by omega))
  have NO : Only g w w1 := Only.trans (by (repeat (first | (with_reducible exact HO) | (with_reducible refine Only.al ?_ _) | ((with_reducible refine Only.st ?_ ?_ _); (rotate_left); (first | omega | (simp; omega))) | (with_reducible refine Only.drew1 ?_)))) ho1
  clear HP HQ HO hc0
  have HP := NP
  have HQ := NQ
  have HO := NO
  clear NP NQ NO
  have lP_1 : w.heap.size < w1.heap.size := (Array.getElem?_eq_some_iff.1 HP.out).1
  have lQ_1 : w.heap.size + 1 < w1.heap.size := (Array.getElem?_eq_some_iff.1 HQ.out).1
  have zz1 := HO.size
  clear ho1
  have HA := Lib.hid (newBlk w1 #[.int .i64 a, .int .i64 b, .int .i64 k, .int .i64 l] 30 w1.heap.size rfl)
  have HP0 := Lib.hid (oldBlk (.cells #[.int .i64 a, .int .i64 b, .int .i64 k, .int .i64 l] 30) HP.out)
  have HQ0 := Lib.hid (oldBlk (.cells #[.int .i64 a, .int .i64 b, .int .i64 k, .int .i64 l] 30) HQ.out)
  have hc2 := hc1.al (.cells #[.int .i64 a, .int .i64 b, .int .i64 k, .int .i64 l] 30)
  have HO2 : Only g w (w1.alloc (.cells #[.int .i64 a, .int .i64 b, .int .i64 k, .int .i64 l] 30)) := HO.al _
  have hl2 := hc1.lt
  have sz2 : w1.heap.size < (w1.alloc (.cells #[.int .i64 a, .int .i64 b, .int .i64 k, .int .i64 l] 30)).heap.size := by simp
  clear HP HQ HO hc1
  obtain ⟨W0, hW0⟩ : ∃ W0, W0 = (w1.alloc (.cells #[.int .i64 a, .int .i64 b, .int .i64 k, .int .i64 l] 30)) := ⟨_, rfl⟩
  have szW : W0.heap.size = w1.heap.size + 1 := by rw [hW0]; simp
  have szW1 := Nat.le_of_eq szW
  have szW2 := Nat.le_of_eq szW.symm
  clear szW
  rw [← hW0] at HA HP0 HQ0 hc2 HO2 sz2
  have HW := Lib.hid hW0
  clear hW0
  have hneZ : W0.heap.size ≠ g := by omega
  go_upto_region 2 with fail
  rw [← HW.out]
  clear HW
  go_cut [5] (fun p wx => ∃ (g5 : Nat) (s : Int), p = .pointer (some ⟨g5, 0, none⟩) ∧ (0 ≤ s ∧ s ≤ 42) ∧ w1.heap.size < g5 ∧ wx.heap[g5]? = some (.cells #[.int .i64 a, .int .i64 b, .int .i64 k, .int .i64 s] 32 (0, 0)) ∧ wx.heap[w1.heap.size]? = some (.cells #[.int .i64 a, .int .i64 b, .int .i64 k, .int .i64 l] 30 (0, 0)) ∧ wx.heap[w.heap.size]? = some (.cells #[.int .i64 0, .int .i64 0, .int .i64 0, .int .i64 0] 30 (0, 0)) ∧ wx.heap[w.heap.size + 1]? = some (.cells #[.int .i64 0, .int .i64 0, .int .i64 0, .int .i64 0] 32 (0, 0)) ∧ Cur wx g zs ∧ Only g w wx)
  case first =>
    have cA0 := cell_of HA.out 0
    have cA1 := cell_of HA.out 1
    have cA2 := cell_of HA.out 2
    have cA3 := cell_of HA.out 3
    simp only [List.getElem?_toArray, List.getElem?_cons_zero, List.getElem?_cons_succ] at cA0 cA1 cA2 cA3
    go_region_held3 (fun w' => w'.cell? ⟨w1.heap.size, 0, none⟩ = some (.int .i64 a) ∧ w'.cell? ⟨w1.heap.size, 1, none⟩ = some (.int .i64 b) ∧ w'.cell? ⟨w1.heap.size, 2, none⟩ = some (.int .i64 k) ∧ w'.cell? ⟨w1.heap.size, 3, none⟩ = some (.int .i64 l)) (((refine ⟨?_, ?_, ?_, ?_⟩) <;> (first | (with_reducible assumption) | ((refine Eq.trans (cell_of (cs := #[.int .i64 a, .int .i64 b, .int .i64 k, .int .i64 l]) (t := 30) ?_ _) ?_); (rotate_left); rfl; (repeat (first | (with_reducible exact HA5.out) | (with_reducible exact HP5.out) | (with_reducible exact HQ5.out) | (with_reducible exact HZ5.out) | (with_reducible exact HA.out) | (with_reducible exact HP0.out) | (with_reducible exact HQ0.out) | ((with_reducible refine newBlk _ _ _ _ ?_); (first | rfl | (simp; done))) | (with_reducible apply store4g) | (with_reducible apply store5g) | ((with_reducible refine store4ne ?_ ?_); (first | omega | (simp; omega))) | ((with_reducible refine store5ne ?_ ?_); (first | omega | (simp; omega))) | ((with_reducible refine bxSetNe ?_ _ _ ?_); (rotate_left); (first | omega | (simp; omega))) | (with_reducible refine drewBlk ?_) | (with_reducible refine oldBlk _ ?_))); done)))) (first
        | (go_at_call 52; (with_reducible refine (spec_l1Below g zs 4 _ (by omega) (by (repeat (first | (with_reducible exact hc2) | (with_reducible refine Cur.al ?_ _) | ((with_reducible refine Cur.st ?_ ?_ _); (rotate_left); (first | omega | (simp; omega))) | (with_reducible refine Cur.drew1 ?_))))).mono ?_); rintro e w5 ⟨y, qy, rfl, hc5, ho5⟩; obtain ⟨y0, y1⟩ := qy.bd (by omega); clear qy; have HA5 : Hid (w5.heap[w1.heap.size]? = some (.cells #[.int .i64 a, .int .i64 b, .int .i64 k, .int .i64 l] 30 (0, 0))) := Lib.hid (Only.blk ho5 (by (repeat (first | (with_reducible exact HA.out) | (with_reducible exact HP0.out) | (with_reducible exact HQ0.out) | ((with_reducible refine newBlk _ _ _ _ ?_); (first | rfl | (simp; done))) | (with_reducible apply store4g) | (with_reducible apply store5g) | ((with_reducible refine store4ne ?_ ?_); (first | omega | (simp; omega))) | ((with_reducible refine store5ne ?_ ?_); (first | omega | (simp; omega))) | ((with_reducible refine bxSetNe ?_ _ _ ?_); (rotate_left); (first | omega | (simp; omega))) | (with_reducible refine drewBlk ?_) | (with_reducible refine oldBlk _ ?_)))) (by omega)); have HP5 : Hid (w5.heap[w.heap.size]? = some (.cells #[.int .i64 0, .int .i64 0, .int .i64 0, .int .i64 0] 30 (0, 0))) := Lib.hid (Only.blk ho5 (by (repeat (first | (with_reducible exact HA.out) | (with_reducible exact HP0.out) | (with_reducible exact HQ0.out) | ((with_reducible refine newBlk _ _ _ _ ?_); (first | rfl | (simp; done))) | (with_reducible apply store4g) | (with_reducible apply store5g) | ((with_reducible refine store4ne ?_ ?_); (first | omega | (simp; omega))) | ((with_reducible refine store5ne ?_ ?_); (first | omega | (simp; omega))) | ((with_reducible refine bxSetNe ?_ _ _ ?_); (rotate_left); (first | omega | (simp; omega))) | (with_reducible refine drewBlk ?_) | (with_reducible refine oldBlk _ ?_)))) (by omega)); have HQ5 : Hid (w5.heap[w.heap.size + 1]? = some (.cells #[.int .i64 0, .int .i64 0, .int .i64 0, .int .i64 0] 32 (0, 0))) := Lib.hid (Only.blk ho5 (by (repeat (first | (with_reducible exact HA.out) | (with_reducible exact HP0.out) | (with_reducible exact HQ0.out) | ((with_reducible refine newBlk _ _ _ _ ?_); (first | rfl | (simp; done))) | (with_reducible apply store4g) | (with_reducible apply store5g) | ((with_reducible refine store4ne ?_ ?_); (first | omega | (simp; omega))) | ((with_reducible refine store5ne ?_ ?_); (first | omega | (simp; omega))) | ((with_reducible refine bxSetNe ?_ _ _ ?_); (rotate_left); (first | omega | (simp; omega))) | (with_reducible refine drewBlk ?_) | (with_reducible refine oldBlk _ ?_)))) (by omega)); (try have HZ5 := Lib.hid (Only.blk ho5 (newBlk W0.drew _ _ W0.heap.size rfl) hneZ)); (try (have cZ0 := cell_of HZ5.out 0; have cZ1 := cell_of HZ5.out 1; have cZ2 := cell_of HZ5.out 2; have cZ3 := cell_of HZ5.out 3; have fZ := free_of HZ5.out; simp only [List.getElem?_toArray, List.getElem?_cons_zero, List.getElem?_cons_succ] at cZ0 cZ1 cZ2 cZ3)); have HO5 : Only g w w5 := Only.trans (by (repeat (first | (with_reducible exact HO2) | (with_reducible refine Only.al ?_ _) | ((with_reducible refine Only.st ?_ ?_ _); (rotate_left); (first | omega | (simp; omega))) | (with_reducible refine Only.drew1 ?_)))) ho5; have sz5 := ho5.size; (try simp only [drew_sz] at sz5); (try simp only [alloc_sz] at sz5); have hwr := IntWalk.i64_in (l + y) (by omega)))
    all_goals
      clear hwr
      go_wp2_with fail
      go_meet
      refine ⟨_, l + y, rfl, ⟨by omega, by omega⟩, ?_, ?_, ?_, ?_, ?_, ?_, ?_⟩
      · first | omega | (simp; omega)
      · (repeat (first | (with_reducible exact HA5.out) | (with_reducible exact HP5.out) | (with_reducible exact HQ5.out) | (with_reducible exact HZ5.out) | (with_reducible exact HA.out) | (with_reducible exact HP0.out) | (with_reducible exact HQ0.out) | ((with_reducible refine newBlk _ _ _ _ ?_); (first | rfl | (simp; done))) | (with_reducible apply store4g) | (with_reducible apply store5g) | ((with_reducible refine store4ne ?_ ?_); (first | omega | (simp; omega))) | ((with_reducible refine store5ne ?_ ?_); (first | omega | (simp; omega))) | ((with_reducible refine bxSetNe ?_ _ _ ?_); (rotate_left); (first | omega | (simp; omega))) | (with_reducible refine drewBlk ?_) | (with_reducible refine oldBlk _ ?_)))
      · (repeat (first | (with_reducible exact HA5.out) | (with_reducible exact HP5.out) | (with_reducible exact HQ5.out) | (with_reducible exact HZ5.out) | (with_reducible exact HA.out) | (with_reducible exact HP0.out) | (with_reducible exact HQ0.out) | ((with_reducible refine newBlk _ _ _ _ ?_); (first | rfl | (simp; done))) | (with_reducible apply store4g) | (with_reducible apply store5g) | ((with_reducible refine store4ne ?_ ?_); (first | omega | (simp; omega))) | ((with_reducible refine store5ne ?_ ?_); (first | omega | (simp; omega))) | ((with_reducible refine bxSetNe ?_ _ _ ?_); (rotate_left); (first | omega | (simp; omega))) | (with_reducible refine drewBlk ?_) | (with_reducible refine oldBlk _ ?_)))
      · (repeat (first | (with_reducible exact HA5.out) | (with_reducible exact HP5.out) | (with_reducible exact HQ5.out) | (with_reducible exact HZ5.out) | (with_reducible exact HA.out) | (with_reducible exact HP0.out) | (with_reducible exact HQ0.out) | ((with_reducible refine newBlk _ _ _ _ ?_); (first | rfl | (simp; done))) | (with_reducible apply store4g) | (with_reducible apply store5g) | ((with_reducible refine store4ne ?_ ?_); (first | omega | (simp; omega))) | ((with_reducible refine store5ne ?_ ?_); (first | omega | (simp; omega))) | ((with_reducible refine bxSetNe ?_ _ _ ?_); (rotate_left); (first | omega | (simp; omega))) | (with_reducible refine drewBlk ?_) | (with_reducible refine oldBlk _ ?_)))
      · (repeat (first | (with_reducible exact HA5.out) | (with_reducible exact HP5.out) | (with_reducible exact HQ5.out) | (with_reducible exact HZ5.out) | (with_reducible exact HA.out) | (with_reducible exact HP0.out) | (with_reducible exact HQ0.out) | ((with_reducible refine newBlk _ _ _ _ ?_); (first | rfl | (simp; done))) | (with_reducible apply store4g) | (with_reducible apply store5g) | ((with_reducible refine store4ne ?_ ?_); (first | omega | (simp; omega))) | ((with_reducible refine store5ne ?_ ?_); (first | omega | (simp; omega))) | ((with_reducible refine bxSetNe ?_ _ _ ?_); (rotate_left); (first | omega | (simp; omega))) | (with_reducible refine drewBlk ?_) | (with_reducible refine oldBlk _ ?_)))
      · (repeat (first | (with_reducible exact hc5) | (with_reducible refine Cur.al ?_ _) | ((with_reducible refine Cur.st ?_ ?_ _); (rotate_left); (first | omega | (simp; omega))) | (with_reducible refine Cur.drew1 ?_)))
      · (repeat (first | (with_reducible exact HO5) | (with_reducible refine Only.al ?_ _) | ((with_reducible refine Only.st ?_ ?_ _); (rotate_left); (first | omega | (simp; omega))) | (with_reducible refine Only.drew1 ?_)))
  case rest =>
    clear HA HP0 HQ0 hc2 HO2
    obtain ⟨g5, s, rfl, ⟨s0, s1⟩, lg5, hC, hA, hP, hQ, hcc, HO⟩ := hcut
    have HP := Lib.hid hP
    have HQ := Lib.hid hQ
    have HA := Lib.hid hA
    have HC := Lib.hid hC
    clear hC hA hP hQ
    go_wp2_with fail
    refine (spec_l1Below g zs 8 _ (by omega) (by (repeat (first | (with_reducible exact hcc) | (with_reducible refine Cur.al ?_ _) | ((with_reducible refine Cur.st ?_ ?_ _); (rotate_left); (first | omega | (simp; omega))) | (with_reducible refine Cur.drew1 ?_))))).mono ?_
    rintro e w6 ⟨x, qx, rfl, hc6, ho6⟩
    have NP : Hid (w6.heap[w.heap.size]? = some (.cells #[.int .i64 0, .int .i64 0, .int .i64 0, .int .i64 0] 30 (0, 0))) := Lib.hid (Only.blk ho6 (by (repeat (first | (with_reducible exact HP.out) | (with_reducible exact HQ.out) | (with_reducible exact HA.out) | (with_reducible exact HC.out) | ((with_reducible refine newBlk _ _ _ _ ?_); (first | rfl | (simp; done))) | ((with_reducible refine bxSetNe ?_ _ _ ?_); (rotate_left); (first | omega | (simp; omega))) | (with_reducible refine drewBlk ?_) | (with_reducible refine oldBlk _ ?_)))) (by omega))
    have NQ : Hid (w6.heap[w.heap.size + 1]? = some (.cells #[.int .i64 0, .int .i64 0, .int .i64 0, .int .i64 0] 32 (0, 0))) := Lib.hid (Only.blk ho6 (by (repeat (first | (with_reducible exact HP.out) | (with_reducible exact HQ.out) | (with_reducible exact HA.out) | (with_reducible exact HC.out) | ((with_reducible refine newBlk _ _ _ _ ?_); (first | rfl | (simp; done))) | ((with_reducible refine bxSetNe ?_ _ _ ?_); (rotate_left); (first | omega | (simp; omega))) | (with_reducible refine drewBlk ?_) | (with_reducible refine oldBlk _ ?_)))) (by omega))
    have NA : Hid (w6.heap[w1.heap.size]? = some (.cells #[.int .i64 a, .int .i64 b, .int .i64 k, .int .i64 l] 30 (0, 0))) := Lib.hid (Only.blk ho6 (by (repeat (first | (with_reducible exact HP.out) | (with_reducible exact HQ.out) | (with_reducible exact HA.out) | (with_reducible exact HC.out) | ((with_reducible refine newBlk _ _ _ _ ?_); (first | rfl | (simp; done))) | ((with_reducible refine bxSetNe ?_ _ _ ?_); (rotate_left); (first | omega | (simp; omega))) | (with_reducible refine drewBlk ?_) | (with_reducible refine oldBlk _ ?_)))) (by omega))
    have NC : Hid (w6.heap[g5]? = some (.cells #[.int .i64 a, .int .i64 b, .int .i64 k, .int .i64 s] 32 (0, 0))) := Lib.hid (Only.blk ho6 (by (repeat (first | (with_reducible exact HP.out) | (with_reducible exact HQ.out) | (with_reducible exact HA.out) | (with_reducible exact HC.out) | ((with_reducible refine newBlk _ _ _ _ ?_); (first | rfl | (simp; done))) | ((with_reducible refine bxSetNe ?_ _ _ ?_); (rotate_left); (first | omega | (simp; omega))) | (with_reducible refine drewBlk ?_) | (with_reducible refine oldBlk _ ?_)))) (by omega))
    have NO : Only g w w6 := Only.trans (by (repeat (first | (with_reducible exact HO) | (with_reducible refine Only.al ?_ _) | ((with_reducible refine Only.st ?_ ?_ _); (rotate_left); (first | omega | (simp; omega))) | (with_reducible refine Only.drew1 ?_)))) ho6
    clear HP HQ HA HC HO hcc
    have HP := NP
    have HQ := NQ
    have HA := NA
    have HC := NC
    have HO := NO
    clear NP NQ NA NC NO
    have lP_6 : w.heap.size < w6.heap.size := (Array.getElem?_eq_some_iff.1 HP.out).1
    have lQ_6 : w.heap.size + 1 < w6.heap.size := (Array.getElem?_eq_some_iff.1 HQ.out).1
    have lA_6 : w1.heap.size < w6.heap.size := (Array.getElem?_eq_some_iff.1 HA.out).1
    have lC_6 : g5 < w6.heap.size := (Array.getElem?_eq_some_iff.1 HC.out).1
    have zz6 := HO.size
    clear ho6
    obtain ⟨x0, x1⟩ := qx.bd (by omega)
    clear qx
    obtain rfl | rfl | hx : x = 0 ∨ x = 1 ∨ 2 ≤ x := by omega
    · have cA0 := cell_of HA.out 0
      have cA1 := cell_of HA.out 1
      have cA2 := cell_of HA.out 2
      have cA3 := cell_of HA.out 3
      simp only [List.getElem?_toArray, List.getElem?_cons_zero, List.getElem?_cons_succ] at cA0 cA1 cA2 cA3
      have fA := free_of HA.out
      have sne := bxNe
      have dPQ : ¬ w.heap.size = w.heap.size + 1 := by omega
      have dPA : ¬ w.heap.size = w1.heap.size := by omega
      have dPC : ¬ w.heap.size = g5 := by omega
      have dQP : ¬ w.heap.size + 1 = w.heap.size := by omega
      have dQA : ¬ w.heap.size + 1 = w1.heap.size := by omega
      have dQC : ¬ w.heap.size + 1 = g5 := by omega
      have dAP : ¬ w1.heap.size = w.heap.size := by omega
      have dAQ : ¬ w1.heap.size = w.heap.size + 1 := by omega
      have dAC : ¬ w1.heap.size = g5 := by omega
      have dCP : ¬ g5 = w.heap.size := by omega
      have dCQ : ¬ g5 = w.heap.size + 1 := by omega
      have dCA : ¬ g5 = w1.heap.size := by omega
      go_wp2_with fail
      refine (spec_l1Int_lit g zs [0, l + 1500, 999998] _ (by (repeat (first | (with_reducible exact hc6) | (with_reducible refine Cur.al ?_ _) | ((with_reducible refine Cur.st ?_ ?_ _); (rotate_left); (first | omega | (simp; omega))) | (with_reducible refine Cur.drew1 ?_)))) (by simp) (by simp)).mono ?_
      rintro e w7 ⟨y, qy, rfl, hc7, ho7⟩
      have NP : Hid (w7.heap[w.heap.size]? = some (.cells #[.int .i64 0, .int .i64 0, .int .i64 0, .int .i64 0] 30 (0, 0))) := Lib.hid (Only.blk ho7 (by (repeat (first | (with_reducible exact HP.out) | (with_reducible exact HQ.out) | (with_reducible exact HA.out) | (with_reducible exact HC.out) | ((with_reducible refine newBlk _ _ _ _ ?_); (first | rfl | (simp; done))) | ((with_reducible refine bxSetNe ?_ _ _ ?_); (rotate_left); (first | omega | (simp; omega))) | (with_reducible refine drewBlk ?_) | (with_reducible refine oldBlk _ ?_)))) (by omega))
      have NQ : Hid (w7.heap[w.heap.size + 1]? = some (.cells #[.int .i64 0, .int .i64 0, .int .i64 0, .int .i64 0] 32 (0, 0))) := Lib.hid (Only.blk ho7 (by (repeat (first | (with_reducible exact HP.out) | (with_reducible exact HQ.out) | (with_reducible exact HA.out) | (with_reducible exact HC.out) | ((with_reducible refine newBlk _ _ _ _ ?_); (first | rfl | (simp; done))) | ((with_reducible refine bxSetNe ?_ _ _ ?_); (rotate_left); (first | omega | (simp; omega))) | (with_reducible refine drewBlk ?_) | (with_reducible refine oldBlk _ ?_)))) (by omega))
      have NA : Hid (w7.heap[w1.heap.size]? = some (.cells #[.int .i64 a, .int .i64 b, .int .i64 k, .int .i64 l] 30 (0, 0))) := Lib.hid (Only.blk ho7 (by (repeat (first | (with_reducible exact HP.out) | (with_reducible exact HQ.out) | (with_reducible exact HA.out) | (with_reducible exact HC.out) | ((with_reducible refine newBlk _ _ _ _ ?_); (first | rfl | (simp; done))) | ((with_reducible refine bxSetNe ?_ _ _ ?_); (rotate_left); (first | omega | (simp; omega))) | (with_reducible refine drewBlk ?_) | (with_reducible refine oldBlk _ ?_)))) (by omega))
      have NC : Hid (w7.heap[g5]? = some (.cells #[.int .i64 a, .int .i64 b, .int .i64 k, .int .i64 s] 32 (0, 0))) := Lib.hid (Only.blk ho7 (by (repeat (first | (with_reducible exact HP.out) | (with_reducible exact HQ.out) | (with_reducible exact HA.out) | (with_reducible exact HC.out) | ((with_reducible refine newBlk _ _ _ _ ?_); (first | rfl | (simp; done))) | ((with_reducible refine bxSetNe ?_ _ _ ?_); (rotate_left); (first | omega | (simp; omega))) | (with_reducible refine drewBlk ?_) | (with_reducible refine oldBlk _ ?_)))) (by omega))
      have NO : Only g w w7 := Only.trans (by (repeat (first | (with_reducible exact HO) | (with_reducible refine Only.al ?_ _) | ((with_reducible refine Only.st ?_ ?_ _); (rotate_left); (first | omega | (simp; omega))) | (with_reducible refine Only.drew1 ?_)))) ho7
      clear cA0 cA1 cA2 cA3 fA sne dPQ dPA dPC dQP dQA dQC dAP dAQ dAC dCP dCQ dCA HP HQ HA HC HO hc6
      have HP := NP
      have HQ := NQ
      have HA := NA
      have HC := NC
      have HO := NO
      clear NP NQ NA NC NO
      have lP_7 : w.heap.size < w7.heap.size := (Array.getElem?_eq_some_iff.1 HP.out).1
      have lQ_7 : w.heap.size + 1 < w7.heap.size := (Array.getElem?_eq_some_iff.1 HQ.out).1
      have lA_7 : w1.heap.size < w7.heap.size := (Array.getElem?_eq_some_iff.1 HA.out).1
      have lC_7 : g5 < w7.heap.size := (Array.getElem?_eq_some_iff.1 HC.out).1
      have zz7 := HO.size
      clear ho7
      have qy2 : 0 ≤ y ∧ y ≤ 999998 := by simp at qy; omega
      obtain ⟨y0, y1⟩ := qy2
      clear qy
      have cP0 := cell_of HP.out 0
      have cP1 := cell_of HP.out 1
      have cP2 := cell_of HP.out 2
      have cP3 := cell_of HP.out 3
      have cQ0 := cell_of HQ.out 0
      have cQ1 := cell_of HQ.out 1
      have cQ2 := cell_of HQ.out 2
      have cQ3 := cell_of HQ.out 3
      have cA0 := cell_of HA.out 0
      have cA1 := cell_of HA.out 1
      have cA2 := cell_of HA.out 2
      have cA3 := cell_of HA.out 3
      have cC0 := cell_of HC.out 0
      have cC1 := cell_of HC.out 1
      have cC2 := cell_of HC.out 2
      have cC3 := cell_of HC.out 3
      simp only [List.getElem?_toArray, List.getElem?_cons_zero, List.getElem?_cons_succ] at cP0 cP1 cP2 cP3 cQ0 cQ1 cQ2 cQ3 cA0 cA1 cA2 cA3 cC0 cC1 cC2 cC3
      have fP := free_of HP.out
      have fQ := free_of HQ.out
      have fA := free_of HA.out
      have fC := free_of HC.out
      have sne := bxNe
      have dPQ : ¬ w.heap.size = w.heap.size + 1 := by omega
      have dPA : ¬ w.heap.size = w1.heap.size := by omega
      have dPC : ¬ w.heap.size = g5 := by omega
      have dQP : ¬ w.heap.size + 1 = w.heap.size := by omega
      have dQA : ¬ w.heap.size + 1 = w1.heap.size := by omega
      have dQC : ¬ w.heap.size + 1 = g5 := by omega
      have dAP : ¬ w1.heap.size = w.heap.size := by omega
      have dAQ : ¬ w1.heap.size = w.heap.size + 1 := by omega
      have dAC : ¬ w1.heap.size = g5 := by omega
      have dCP : ¬ g5 = w.heap.size := by omega
      have dCQ : ¬ g5 = w.heap.size + 1 := by omega
      have dCA : ¬ g5 = w1.heap.size := by omega
      go_wp2_with fail
      go_region
      all_goals
        go_wp2_with fail
        refine bodyPost_ret (v := .tuple #[.agg #[.int .i64 a, .int .i64 b, .int .i64 k, .int .i64 l], .agg #[.int .i64 a, .int .i64 b, .int .i64 k, .int .i64 y]]) (by simp [results, Try.results51, go_sem, *]) rfl ?_
        exact ⟨a, b, k, l, a, b, k, y, ⟨⟨⟨by omega, by omega⟩, ⟨by omega, by omega⟩, ⟨by omega, by omega⟩, ⟨by omega, by omega⟩⟩, ⟨by omega, by omega⟩, ⟨by omega, by omega⟩, ⟨by omega, by omega⟩, ⟨by omega, by omega⟩⟩, rfl, by (repeat (first | (with_reducible exact hc7) | (with_reducible refine Cur.al ?_ _) | ((with_reducible refine Cur.st ?_ ?_ _); (rotate_left); (first | omega | (simp; omega))) | (with_reducible refine Cur.drew1 ?_))), by (repeat (first | (with_reducible exact HO) | (with_reducible refine Only.al ?_ _) | ((with_reducible refine Only.st ?_ ?_ _); (rotate_left); (first | omega | (simp; omega))) | (with_reducible refine Only.drew1 ?_)))⟩
    · go_wp2_with fail
      refine (spec_l1Int_lit g zs [0, 5000, 999990] _ (by (repeat (first | (with_reducible exact hc6) | (with_reducible refine Cur.al ?_ _) | ((with_reducible refine Cur.st ?_ ?_ _); (rotate_left); (first | omega | (simp; omega))) | (with_reducible refine Cur.drew1 ?_)))) (by decide) (by decide)).mono ?_
      rintro e w7 ⟨y, qy, rfl, hc7, ho7⟩
      have NP : Hid (w7.heap[w.heap.size]? = some (.cells #[.int .i64 0, .int .i64 0, .int .i64 0, .int .i64 0] 30 (0, 0))) := Lib.hid (Only.blk ho7 (by (repeat (first | (with_reducible exact HP.out) | (with_reducible exact HQ.out) | (with_reducible exact HA.out) | (with_reducible exact HC.out) | ((with_reducible refine newBlk _ _ _ _ ?_); (first | rfl | (simp; done))) | ((with_reducible refine bxSetNe ?_ _ _ ?_); (rotate_left); (first | omega | (simp; omega))) | (with_reducible refine drewBlk ?_) | (with_reducible refine oldBlk _ ?_)))) (by omega))
      have NQ : Hid (w7.heap[w.heap.size + 1]? = some (.cells #[.int .i64 0, .int .i64 0, .int .i64 0, .int .i64 0] 32 (0, 0))) := Lib.hid (Only.blk ho7 (by (repeat (first | (with_reducible exact HP.out) | (with_reducible exact HQ.out) | (with_reducible exact HA.out) | (with_reducible exact HC.out) | ((with_reducible refine newBlk _ _ _ _ ?_); (first | rfl | (simp; done))) | ((with_reducible refine bxSetNe ?_ _ _ ?_); (rotate_left); (first | omega | (simp; omega))) | (with_reducible refine drewBlk ?_) | (with_reducible refine oldBlk _ ?_)))) (by omega))
      have NA : Hid (w7.heap[w1.heap.size]? = some (.cells #[.int .i64 a, .int .i64 b, .int .i64 k, .int .i64 l] 30 (0, 0))) := Lib.hid (Only.blk ho7 (by (repeat (first | (with_reducible exact HP.out) | (with_reducible exact HQ.out) | (with_reducible exact HA.out) | (with_reducible exact HC.out) | ((with_reducible refine newBlk _ _ _ _ ?_); (first | rfl | (simp; done))) | ((with_reducible refine bxSetNe ?_ _ _ ?_); (rotate_left); (first | omega | (simp; omega))) | (with_reducible refine drewBlk ?_) | (with_reducible refine oldBlk _ ?_)))) (by omega))
      have NC : Hid (w7.heap[g5]? = some (.cells #[.int .i64 a, .int .i64 b, .int .i64 k, .int .i64 s] 32 (0, 0))) := Lib.hid (Only.blk ho7 (by (repeat (first | (with_reducible exact HP.out) | (with_reducible exact HQ.out) | (with_reducible exact HA.out) | (with_reducible exact HC.out) | ((with_reducible refine newBlk _ _ _ _ ?_); (first | rfl | (simp; done))) | ((with_reducible refine bxSetNe ?_ _ _ ?_); (rotate_left); (first | omega | (simp; omega))) | (with_reducible refine drewBlk ?_) | (with_reducible refine oldBlk _ ?_)))) (by omega))
      have NO : Only g w w7 := Only.trans (by (repeat (first | (with_reducible exact HO) | (with_reducible refine Only.al ?_ _) | ((with_reducible refine Only.st ?_ ?_ _); (rotate_left); (first | omega | (simp; omega))) | (with_reducible refine Only.drew1 ?_)))) ho7
      clear HP HQ HA HC HO hc6
      have HP := NP
      have HQ := NQ
      have HA := NA
      have HC := NC
      have HO := NO
      clear NP NQ NA NC NO
      have lP_7 : w.heap.size < w7.heap.size := (Array.getElem?_eq_some_iff.1 HP.out).1
      have lQ_7 : w.heap.size + 1 < w7.heap.size := (Array.getElem?_eq_some_iff.1 HQ.out).1
      have lA_7 : w1.heap.size < w7.heap.size := (Array.getElem?_eq_some_iff.1 HA.out).1
      have lC_7 : g5 < w7.heap.size := (Array.getElem?_eq_some_iff.1 HC.out).1
      have zz7 := HO.size
      clear ho7
      obtain ⟨y0, y1⟩ := mem_in (lo := 0) (hi := 999990) (by decide) qy
      clear qy
      have cP0 := cell_of HP.out 0
      have cP1 := cell_of HP.out 1
      have cP2 := cell_of HP.out 2
      have cP3 := cell_of HP.out 3
      have cQ0 := cell_of HQ.out 0
      have cQ1 := cell_of HQ.out 1
      have cQ2 := cell_of HQ.out 2
      have cQ3 := cell_of HQ.out 3
      have cA0 := cell_of HA.out 0
      have cA1 := cell_of HA.out 1
      have cA2 := cell_of HA.out 2
      have cA3 := cell_of HA.out 3
      have cC0 := cell_of HC.out 0
      have cC1 := cell_of HC.out 1
      have cC2 := cell_of HC.out 2
      have cC3 := cell_of HC.out 3
      simp only [List.getElem?_toArray, List.getElem?_cons_zero, List.getElem?_cons_succ] at cP0 cP1 cP2 cP3 cQ0 cQ1 cQ2 cQ3 cA0 cA1 cA2 cA3 cC0 cC1 cC2 cC3
      have fP := free_of HP.out
      have fQ := free_of HQ.out
      have fA := free_of HA.out
      have fC := free_of HC.out
      have sne := bxNe
      have dPQ : ¬ w.heap.size = w.heap.size + 1 := by omega
      have dPA : ¬ w.heap.size = w1.heap.size := by omega
      have dPC : ¬ w.heap.size = g5 := by omega
      have dQP : ¬ w.heap.size + 1 = w.heap.size := by omega
      have dQA : ¬ w.heap.size + 1 = w1.heap.size := by omega
      have dQC : ¬ w.heap.size + 1 = g5 := by omega
      have dAP : ¬ w1.heap.size = w.heap.size := by omega
      have dAQ : ¬ w1.heap.size = w.heap.size + 1 := by omega
      have dAC : ¬ w1.heap.size = g5 := by omega
      have dCP : ¬ g5 = w.heap.size := by omega
      have dCQ : ¬ g5 = w.heap.size + 1 := by omega
      have dCA : ¬ g5 = w1.heap.size := by omega
      go_wp2_with fail
      go_region
      all_goals
        go_wp2_with fail
        refine bodyPost_ret (v := .tuple #[.agg #[.int .i64 a, .int .i64 b, .int .i64 k, .int .i64 y], .agg #[.int .i64 a, .int .i64 b, .int .i64 k, .int .i64 s]]) (by simp [results, Try.results51, go_sem, *]) rfl ?_
        exact ⟨a, b, k, y, a, b, k, s, ⟨⟨⟨by omega, by omega⟩, ⟨by omega, by omega⟩, ⟨by omega, by omega⟩, ⟨by omega, by omega⟩⟩, ⟨by omega, by omega⟩, ⟨by omega, by omega⟩, ⟨by omega, by omega⟩, ⟨by omega, by omega⟩⟩, rfl, by (repeat (first | (with_reducible exact hc7) | (with_reducible refine Cur.al ?_ _) | ((with_reducible refine Cur.st ?_ ?_ _); (rotate_left); (first | omega | (simp; omega))) | (with_reducible refine Cur.drew1 ?_))), by (repeat (first | (with_reducible exact HO) | (with_reducible refine Only.al ?_ _) | ((with_reducible refine Only.st ?_ ?_ _); (rotate_left); (first | omega | (simp; omega))) | (with_reducible refine Only.drew1 ?_)))⟩
    · have hx0 : (x == 0) = false := by simpa using (show ¬ x = 0 by omega)
      have hx1 : (x == 1) = false := by simpa using (show ¬ x = 1 by omega)
      clear hx
      have cP0 := cell_of HP.out 0
      have cP1 := cell_of HP.out 1
      have cP2 := cell_of HP.out 2
      have cP3 := cell_of HP.out 3
      have cQ0 := cell_of HQ.out 0
      have cQ1 := cell_of HQ.out 1
      have cQ2 := cell_of HQ.out 2
      have cQ3 := cell_of HQ.out 3
      have cA0 := cell_of HA.out 0
      have cA1 := cell_of HA.out 1
      have cA2 := cell_of HA.out 2
      have cA3 := cell_of HA.out 3
      have cC0 := cell_of HC.out 0
      have cC1 := cell_of HC.out 1
      have cC2 := cell_of HC.out 2
      have cC3 := cell_of HC.out 3
      simp only [List.getElem?_toArray, List.getElem?_cons_zero, List.getElem?_cons_succ] at cP0 cP1 cP2 cP3 cQ0 cQ1 cQ2 cQ3 cA0 cA1 cA2 cA3 cC0 cC1 cC2 cC3
      have fP := free_of HP.out
      have fQ := free_of HQ.out
      have fA := free_of HA.out
      have fC := free_of HC.out
      have sne := bxNe
      have dPQ : ¬ w.heap.size = w.heap.size + 1 := by omega
      have dPA : ¬ w.heap.size = w1.heap.size := by omega
      have dPC : ¬ w.heap.size = g5 := by omega
      have dQP : ¬ w.heap.size + 1 = w.heap.size := by omega
      have dQA : ¬ w.heap.size + 1 = w1.heap.size := by omega
      have dQC : ¬ w.heap.size + 1 = g5 := by omega
      have dAP : ¬ w1.heap.size = w.heap.size := by omega
      have dAQ : ¬ w1.heap.size = w.heap.size + 1 := by omega
      have dAC : ¬ w1.heap.size = g5 := by omega
      have dCP : ¬ g5 = w.heap.size := by omega
      have dCQ : ¬ g5 = w.heap.size + 1 := by omega
      have dCA : ¬ g5 = w1.heap.size := by omega
      go_wp2_with fail
      go_region
      all_goals
        go_wp2_with fail
        refine bodyPost_ret (v := .tuple #[.agg #[.int .i64 a, .int .i64 b, .int .i64 k, .int .i64 l], .agg #[.int .i64 a, .int .i64 b, .int .i64 k, .int .i64 s]]) (by simp [results, Try.results51, go_sem, *]) rfl ?_
        exact ⟨a, b, k, l, a, b, k, s, ⟨⟨⟨by omega, by omega⟩, ⟨by omega, by omega⟩, ⟨by omega, by omega⟩, ⟨by omega, by omega⟩⟩, ⟨by omega, by omega⟩, ⟨by omega, by omega⟩, ⟨by omega, by omega⟩, ⟨by omega, by omega⟩⟩, rfl, by (repeat (first | (with_reducible exact hc6) | (with_reducible refine Cur.al ?_ _) | ((with_reducible refine Cur.st ?_ ?_ _); (rotate_left); (first | omega | (simp; omega))) | (with_reducible refine Cur.drew1 ?_))), by (repeat (first | (with_reducible exact HO) | (with_reducible refine Only.al ?_ _) | ((with_reducible refine Only.st ?_ ?_ _); (rotate_left); (first | omega | (simp; omega))) | (with_reducible refine Only.drew1 ?_)))⟩

end Go.Proofs.Ytfenmicakmjelaa
