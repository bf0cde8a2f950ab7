/-
  Contracts: the inputs drawn for the laws on cards.
-/
import Derived.Test.YtfenmicakmjelaaDraw6b
import Derived.RegionTactic
namespace Go.Proofs.Ytfenmicakmjelaa
open Go.RowKit

/-- A card, a record, a number. -/
def DrewCard (w : World) (e : Ending) (w' : World) : Prop :=
  ∃ a b k l a' b' k' s r : Int, ((Sm a ∧ Sm b ∧ Sm k ∧ Sm l) ∧ Sm a' ∧ Sm b' ∧ Sm k' ∧ Sm s) ∧ InI 0 499 r ∧ e = .returned (.tuple #[.agg #[.int .i64 a, .int .i64 b, .int .i64 k, .int .i64 l], .agg #[.int .i64 a', .int .i64 b', .int .i64 k', .int .i64 s], .int .i64 r]) ∧ Below w.heap.size w w'
/-- A card and a vector. -/
def DrewUV (w : World) (e : Ending) (w' : World) : Prop :=
  ∃ a b k l r t m x y : Int, ((Sm a ∧ Sm b ∧ Sm k ∧ Sm l) ∧ Sm r ∧ Sm t ∧ Sm m ∧ Sm x ∧ Sm y) ∧ e = .returned (.tuple #[.agg #[.int .i64 a, .int .i64 b, .int .i64 k, .int .i64 l], .agg #[.int .i64 r, .int .i64 t, .int .i64 m, .int .i64 x, .int .i64 y]]) ∧ Below w.heap.size w w'
def NavP (a b k : Int) (w : World) (e : Ending) (w' : World) : Prop :=
  ∃ n r t m x y : Int, (Sm r ∧ Sm t ∧ Sm m ∧ Sm x ∧ Sm y) ∧ e = .returned (.tuple #[.agg #[.int .i64 a, .int .i64 b, .int .i64 k, .int .i64 n], .agg #[.int .i64 r, .int .i64 t, .int .i64 m, .int .i64 x, .int .i64 y]]) ∧ Below w.heap.size w w'
theorem nav (a b k l r : Int) (w : World) (h0 : 0 ≤ r) (h1 : r ≤ 1000) : Calls Try.prog 35 #[.agg #[.int .i64 a, .int .i64 b, .int .i64 k, .int .i64 l], .int .i64 r] w (NavP a b k w) :=
  (spec_NextAuthVector a b k l r w (WalkArith.wf_i64 (by omega))).mono fun _ _ ⟨h1', h2⟩ => ⟨_, _, _, _, _, _, na_sm h0 h1, h1', h2⟩
theorem Only.blk' {g k : Nat} {a b : World} {cs : Array Value} {t : TypeId} (h : Only g a b) (hne : k ≠ g) (hk : a.heap[k]? = some (.cells cs t (0, 0))) : b.heap[k]? = some (.cells cs t (0, 0)) := h.blk hk hne

set_option maxRecDepth 100000 in
set_option maxHeartbeats 8000000 in
theorem spec_DrawCard (va : Value) (zs : List Int) (w : World) (ha : Rd .u8 w va zs) (hw : ∀ z ∈ zs, (Lit.int .u8 z).wf = true) (hlen : zs.length ≤ 1048576) :
    Calls Try.prog 22 #[va] w (DrewCard w) := by
  have HP := Lib.hid (newBlk w #[.int .i64 0, .int .i64 0, .int .i64 0, .int .i64 0] 30 (w.heap.size) (by simp))
  replace HP := Lib.hid (oldBlk (.cells #[.int .i64 0, .int .i64 0, .int .i64 0, .int .i64 0] 32) HP.out)
  have HQ := Lib.hid (newBlk (w.alloc (.cells #[.int .i64 0, .int .i64 0, .int .i64 0, .int .i64 0] 30)) #[.int .i64 0, .int .i64 0, .int .i64 0, .int .i64 0] 32 (w.heap.size + 1) (by simp))
  have B0 : Below w.heap.size w ((w.alloc (.cells #[.int .i64 0, .int .i64 0, .int .i64 0, .int .i64 0] 30)).alloc (.cells #[.int .i64 0, .int .i64 0, .int .i64 0, .int .i64 0] 32)) := by repeat (first | exact Below.refl _ _ | refine Below.al ?_ _)
  have ha1 := ha.below B0
  go_enter Try.func22, Try.ntmps22
  go_wp2_with fail
  refine (spec_l1New _ zs _ ha1 hw hlen).mono ?_
  rintro e w0 ⟨g, rfl, hc0, hg0, b0⟩
  replace HP := Lib.hid (cells_of_below b0 HP.out)
  replace HQ := Lib.hid (cells_of_below b0 HQ.out)
  replace B0 := Below.next B0 b0
  have hg2 : w.heap.size + 2 ≤ g := by have h9 := hg0; simp at h9; omega
  have hg : w.heap.size ≤ g := by omega
  clear b0 hg0 ha ha1 hw
  have lP_0 : w.heap.size < w0.heap.size := (Array.getElem?_eq_some_iff.1 HP.out).1
  have lQ_0 : w.heap.size + 1 < w0.heap.size := (Array.getElem?_eq_some_iff.1 HQ.out).1
  go_wp2_with fail
  refine (spec_l6Pair g zs _ (by (repeat (first | (with_reducible exact hc0) | (with_reducible refine Cur.al ?_ _) | ((with_reducible refine Cur.st ?_ ?_ _); (rotate_left); (first | omega | (simp; omega))) | (with_reducible refine Cur.drew1 ?_))))).mono ?_
  rintro e w1 ⟨a, b, k, l, a', b', k', s, ⟨⟨ya, yb, yk, yl⟩, ya', yb', yk', ys⟩, rfl, hc1, ho1⟩
  have NP : Hid (w1.heap[w.heap.size]? = some (.cells #[.int .i64 0, .int .i64 0, .int .i64 0, .int .i64 0] 30 (0, 0))) := Lib.hid (Only.blk ho1 (by (repeat (first | (with_reducible exact HP.out) | (with_reducible exact HQ.out) | ((with_reducible refine newBlk _ _ _ _ ?_); (first | rfl | (simp; done))) | ((with_reducible refine bxSetNe ?_ _ _ ?_); (rotate_left); (first | omega | (simp; omega))) | (with_reducible refine drewBlk ?_) | (with_reducible refine oldBlk _ ?_)))) (by omega))
  have NQ : Hid (w1.heap[w.heap.size + 1]? = some (.cells #[.int .i64 0, .int .i64 0, .int .i64 0, .int .i64 0] 32 (0, 0))) := Lib.hid (Only.blk ho1 (by (repeat (first | (with_reducible exact HP.out) | (with_reducible exact HQ.out) | ((with_reducible refine newBlk _ _ _ _ ?_); (first | rfl | (simp; done))) | ((with_reducible refine bxSetNe ?_ _ _ ?_); (rotate_left); (first | omega | (simp; omega))) | (with_reducible refine drewBlk ?_) | (with_reducible refine oldBlk _ ?_)))) (by omega))
  have NO : Below w.heap.size w w1 := Only.below (by (repeat (first | (with_reducible exact B0) | ((with_reducible refine Below.st ?_ _ _ _ ?_); (rotate_left); (first | omega | (simp; omega))) | (with_reducible refine Below.al ?_ _) | (with_reducible refine Below.drew ?_)))) ho1 hg
  clear HP HQ B0 hc0
  have HP := NP
  have HQ := NQ
  have B0 := NO
  clear NP NQ NO
  have lP_1 : w.heap.size < w1.heap.size := (Array.getElem?_eq_some_iff.1 HP.out).1
  have lQ_1 : w.heap.size + 1 < w1.heap.size := (Array.getElem?_eq_some_iff.1 HQ.out).1
  have zz1 := B0.size
  clear ho1
  have HA := Lib.hid (oldBlk (.cells #[.int .i64 a', .int .i64 b', .int .i64 k', .int .i64 s] 32) (newBlk w1 #[.int .i64 a, .int .i64 b, .int .i64 k, .int .i64 l] 30 w1.heap.size rfl))
  have HC := Lib.hid (newBlk (w1.alloc (.cells #[.int .i64 a, .int .i64 b, .int .i64 k, .int .i64 l] 30)) #[.int .i64 a', .int .i64 b', .int .i64 k', .int .i64 s] 32 (w1.heap.size + 1) (by simp))
  have HP0 := Lib.hid (oldBlk (.cells #[.int .i64 a', .int .i64 b', .int .i64 k', .int .i64 s] 32) (oldBlk (.cells #[.int .i64 a, .int .i64 b, .int .i64 k, .int .i64 l] 30) HP.out))
  have HQ0 := Lib.hid (oldBlk (.cells #[.int .i64 a', .int .i64 b', .int .i64 k', .int .i64 s] 32) (oldBlk (.cells #[.int .i64 a, .int .i64 b, .int .i64 k, .int .i64 l] 30) HQ.out))
  have hc2 := (hc1.al (.cells #[.int .i64 a, .int .i64 b, .int .i64 k, .int .i64 l] 30)).al (.cells #[.int .i64 a', .int .i64 b', .int .i64 k', .int .i64 s] 32)
  have BB2 : Below w.heap.size w ((w1.alloc (.cells #[.int .i64 a, .int .i64 b, .int .i64 k, .int .i64 l] 30)).alloc (.cells #[.int .i64 a', .int .i64 b', .int .i64 k', .int .i64 s] 32)) := Below.al (Below.al B0 _) _
  have hl2 := hc1.lt
  have sz2 : w1.heap.size + 1 < ((w1.alloc (.cells #[.int .i64 a, .int .i64 b, .int .i64 k, .int .i64 l] 30)).alloc (.cells #[.int .i64 a', .int .i64 b', .int .i64 k', .int .i64 s] 32)).heap.size := by simp
  clear HP HQ B0 hc1
  obtain ⟨W0, hW0⟩ : ∃ W0, W0 = ((w1.alloc (.cells #[.int .i64 a, .int .i64 b, .int .i64 k, .int .i64 l] 30)).alloc (.cells #[.int .i64 a', .int .i64 b', .int .i64 k', .int .i64 s] 32)) := ⟨_, rfl⟩
  rw [← hW0] at HA HC HP0 HQ0 hc2 BB2 sz2
  go_wp2_with fail
  rw [← hW0]
  clear hW0
  have cA0 := cell_of HA.out 0
  have cA1 := cell_of HA.out 1
  have cA2 := cell_of HA.out 2
  have cA3 := cell_of HA.out 3
  have cC0 := cell_of HC.out 0
  have cC1 := cell_of HC.out 1
  have cC2 := cell_of HC.out 2
  have cC3 := cell_of HC.out 3
  simp only [List.getElem?_toArray, List.getElem?_cons_zero, List.getElem?_cons_succ] at cA0 cA1 cA2 cA3 cC0 cC1 cC2 cC3
  have dPQ : ¬ w.heap.size = w.heap.size + 1 := by omega
  have dPA : ¬ w.heap.size = w1.heap.size := by omega
  have dPC : ¬ w.heap.size = w1.heap.size + 1 := by omega
  have dQP : ¬ w.heap.size + 1 = w.heap.size := by omega
  have dQA : ¬ w.heap.size + 1 = w1.heap.size := by omega
  have dQC : ¬ w.heap.size + 1 = w1.heap.size + 1 := by omega
  have dAP : ¬ w1.heap.size = w.heap.size := by omega
  have dAQ : ¬ w1.heap.size = w.heap.size + 1 := by omega
  have dAC : ¬ w1.heap.size = w1.heap.size + 1 := by omega
  have dCP : ¬ w1.heap.size + 1 = w.heap.size := by omega
  have dCQ : ¬ w1.heap.size + 1 = w.heap.size + 1 := by omega
  have dCA : ¬ w1.heap.size + 1 = w1.heap.size := by omega
  have sne := bxNe
  go_region_held3 (fun w' => w'.cell? ⟨w1.heap.size, 0, none⟩ = some (.int .i64 a) ∧ w'.cell? ⟨w1.heap.size, 1, none⟩ = some (.int .i64 b) ∧ w'.cell? ⟨w1.heap.size, 2, none⟩ = some (.int .i64 k) ∧ w'.cell? ⟨w1.heap.size, 3, none⟩ = some (.int .i64 l) ∧ w'.cell? ⟨w1.heap.size + 1, 0, none⟩ = some (.int .i64 a') ∧ w'.cell? ⟨w1.heap.size + 1, 1, none⟩ = some (.int .i64 b') ∧ w'.cell? ⟨w1.heap.size + 1, 2, none⟩ = some (.int .i64 k') ∧ w'.cell? ⟨w1.heap.size + 1, 3, none⟩ = some (.int .i64 s)) (((refine ⟨?_, ?_, ?_, ?_, ?_, ?_, ?_, ?_⟩) <;> (first | (with_reducible assumption) | ((refine Eq.trans (cell_of (cs := #[.int .i64 a, .int .i64 b, .int .i64 k, .int .i64 l]) (t := 30) ?_ _) ?_); (rotate_left); rfl; (repeat (first | (with_reducible exact HA5.out) | (with_reducible exact HC5.out) | (with_reducible exact HP5.out) | (with_reducible exact HQ5.out) | (with_reducible exact HA.out) | (with_reducible exact HC.out) | (with_reducible exact HP0.out) | (with_reducible exact HQ0.out) | ((with_reducible refine newBlk _ _ _ _ ?_); (first | rfl | (simp; done))) | (with_reducible apply store4g) | (with_reducible apply store5g) | ((with_reducible refine store4ne ?_ ?_); (first | omega | (simp; omega))) | ((with_reducible refine store5ne ?_ ?_); (first | omega | (simp; omega))) | ((with_reducible refine bxSetNe ?_ _ _ ?_); (rotate_left); (first | omega | (simp; omega))) | (with_reducible refine drewBlk ?_) | (with_reducible refine oldBlk _ ?_))); done) | ((refine Eq.trans (cell_of (cs := #[.int .i64 a', .int .i64 b', .int .i64 k', .int .i64 s]) (t := 32) ?_ _) ?_); (rotate_left); rfl; (repeat (first | (with_reducible exact HA5.out) | (with_reducible exact HC5.out) | (with_reducible exact HP5.out) | (with_reducible exact HQ5.out) | (with_reducible exact HA.out) | (with_reducible exact HC.out) | (with_reducible exact HP0.out) | (with_reducible exact HQ0.out) | ((with_reducible refine newBlk _ _ _ _ ?_); (first | rfl | (simp; done))) | (with_reducible apply store4g) | (with_reducible apply store5g) | ((with_reducible refine store4ne ?_ ?_); (first | omega | (simp; omega))) | ((with_reducible refine store5ne ?_ ?_); (first | omega | (simp; omega))) | ((with_reducible refine bxSetNe ?_ _ _ ?_); (rotate_left); (first | omega | (simp; omega))) | (with_reducible refine drewBlk ?_) | (with_reducible refine oldBlk _ ?_))); done)))) (first
      | (go_at_call 52; (with_reducible refine (spec_l1Below g zs 500 _ (by omega) (by (repeat (first | (with_reducible exact hc2) | (with_reducible refine Cur.al ?_ _) | ((with_reducible refine Cur.st ?_ ?_ _); (rotate_left); (first | omega | (simp; omega))) | (with_reducible refine Cur.drew1 ?_))))).mono ?_); rintro e w5 ⟨r, qr, rfl, hc5, ho5⟩; obtain ⟨r0, r1⟩ := qr.bd (by omega); clear qr; have HA5 : Hid (w5.heap[w1.heap.size]? = some (.cells #[.int .i64 a, .int .i64 b, .int .i64 k, .int .i64 l] 30 (0, 0))) := Lib.hid (Only.blk ho5 (by (repeat (first | (with_reducible exact HA.out) | (with_reducible exact HC.out) | (with_reducible exact HP0.out) | (with_reducible exact HQ0.out) | ((with_reducible refine newBlk _ _ _ _ ?_); (first | rfl | (simp; done))) | (with_reducible apply store4g) | (with_reducible apply store5g) | ((with_reducible refine store4ne ?_ ?_); (first | omega | (simp; omega))) | ((with_reducible refine store5ne ?_ ?_); (first | omega | (simp; omega))) | ((with_reducible refine bxSetNe ?_ _ _ ?_); (rotate_left); (first | omega | (simp; omega))) | (with_reducible refine drewBlk ?_) | (with_reducible refine oldBlk _ ?_)))) (by omega)); have HC5 : Hid (w5.heap[w1.heap.size + 1]? = some (.cells #[.int .i64 a', .int .i64 b', .int .i64 k', .int .i64 s] 32 (0, 0))) := Lib.hid (Only.blk ho5 (by (repeat (first | (with_reducible exact HA.out) | (with_reducible exact HC.out) | (with_reducible exact HP0.out) | (with_reducible exact HQ0.out) | ((with_reducible refine newBlk _ _ _ _ ?_); (first | rfl | (simp; done))) | (with_reducible apply store4g) | (with_reducible apply store5g) | ((with_reducible refine store4ne ?_ ?_); (first | omega | (simp; omega))) | ((with_reducible refine store5ne ?_ ?_); (first | omega | (simp; omega))) | ((with_reducible refine bxSetNe ?_ _ _ ?_); (rotate_left); (first | omega | (simp; omega))) | (with_reducible refine drewBlk ?_) | (with_reducible refine oldBlk _ ?_)))) (by omega)); have HP5 : Hid (w5.heap[w.heap.size]? = some (.cells #[.int .i64 0, .int .i64 0, .int .i64 0, .int .i64 0] 30 (0, 0))) := Lib.hid (Only.blk ho5 (by (repeat (first | (with_reducible exact HA.out) | (with_reducible exact HC.out) | (with_reducible exact HP0.out) | (with_reducible exact HQ0.out) | ((with_reducible refine newBlk _ _ _ _ ?_); (first | rfl | (simp; done))) | (with_reducible apply store4g) | (with_reducible apply store5g) | ((with_reducible refine store4ne ?_ ?_); (first | omega | (simp; omega))) | ((with_reducible refine store5ne ?_ ?_); (first | omega | (simp; omega))) | ((with_reducible refine bxSetNe ?_ _ _ ?_); (rotate_left); (first | omega | (simp; omega))) | (with_reducible refine drewBlk ?_) | (with_reducible refine oldBlk _ ?_)))) (by omega)); have HQ5 : Hid (w5.heap[w.heap.size + 1]? = some (.cells #[.int .i64 0, .int .i64 0, .int .i64 0, .int .i64 0] 32 (0, 0))) := Lib.hid (Only.blk ho5 (by (repeat (first | (with_reducible exact HA.out) | (with_reducible exact HC.out) | (with_reducible exact HP0.out) | (with_reducible exact HQ0.out) | ((with_reducible refine newBlk _ _ _ _ ?_); (first | rfl | (simp; done))) | (with_reducible apply store4g) | (with_reducible apply store5g) | ((with_reducible refine store4ne ?_ ?_); (first | omega | (simp; omega))) | ((with_reducible refine store5ne ?_ ?_); (first | omega | (simp; omega))) | ((with_reducible refine bxSetNe ?_ _ _ ?_); (rotate_left); (first | omega | (simp; omega))) | (with_reducible refine drewBlk ?_) | (with_reducible refine oldBlk _ ?_)))) (by omega)); have B5 : Below w.heap.size w w5 := Only.below (by (repeat (first | (with_reducible exact BB2) | ((with_reducible refine Below.st ?_ _ _ _ ?_); (rotate_left); (first | omega | (simp; omega))) | (with_reducible refine Below.al ?_ _) | (with_reducible refine Below.drew ?_)))) ho5 hg; have cP0 := cell_of HP5.out 0; have cP1 := cell_of HP5.out 1; have cP2 := cell_of HP5.out 2; have cP3 := cell_of HP5.out 3; have fP := free_of HP5.out; have cQ0 := cell_of HQ5.out 0; have cQ1 := cell_of HQ5.out 1; have cQ2 := cell_of HQ5.out 2; have cQ3 := cell_of HQ5.out 3; have fQ := free_of HQ5.out; simp only [List.getElem?_toArray, List.getElem?_cons_zero, List.getElem?_cons_succ] at cP0 cP1 cP2 cP3 cQ0 cQ1 cQ2 cQ3))
  all_goals
    try clear cA0 cA1 cA2 cA3 cC0 cC1 cC2 cC3
    go_wp2_with fail
    refine bodyPost_ret (v := .tuple #[.agg #[.int .i64 a, .int .i64 b, .int .i64 k, .int .i64 l], .agg #[.int .i64 a', .int .i64 b', .int .i64 k', .int .i64 s], .int .i64 r]) (by simp [results, Try.results22, go_sem, *]) rfl ?_
    exact ⟨a, b, k, l, a', b', k', s, r, ⟨⟨ya, yb, yk, yl⟩, ya', yb', yk', ys⟩, ⟨by omega, by omega⟩, rfl, by (repeat (first | (with_reducible exact B5) | ((with_reducible refine Below.st ?_ _ _ _ ?_); (rotate_left); (first | omega | (simp; omega))) | (with_reducible refine Below.al ?_ _) | (with_reducible refine Below.drew ?_)))⟩

set_option maxRecDepth 100000 in
set_option maxHeartbeats 8000000 in
theorem spec_DrawRespondToChallenge (va : Value) (zs : List Int) (w : World) (ha : Rd .u8 w va zs) (hw : ∀ z ∈ zs, (Lit.int .u8 z).wf = true) (hlen : zs.length ≤ 1048576) :
    Calls Try.prog 32 #[va] w (DrewUV w) := by
  have HP := Lib.hid (newBlk w #[.int .i64 0, .int .i64 0, .int .i64 0, .int .i64 0] 30 (w.heap.size) (by simp))
  replace HP := Lib.hid (oldBlk (.cells #[.int .i64 0, .int .i64 0, .int .i64 0, .int .i64 0, .int .i64 0] 45) HP.out)
  have HQ := Lib.hid (newBlk (w.alloc (.cells #[.int .i64 0, .int .i64 0, .int .i64 0, .int .i64 0] 30)) #[.int .i64 0, .int .i64 0, .int .i64 0, .int .i64 0, .int .i64 0] 45 (w.heap.size + 1) (by simp))
  have B0 : Below w.heap.size w ((w.alloc (.cells #[.int .i64 0, .int .i64 0, .int .i64 0, .int .i64 0] 30)).alloc (.cells #[.int .i64 0, .int .i64 0, .int .i64 0, .int .i64 0, .int .i64 0] 45)) := by repeat (first | exact Below.refl _ _ | refine Below.al ?_ _)
  have ha1 := ha.below B0
  go_enter Try.func32, Try.ntmps32
  go_wp2_with fail
  refine (spec_l1New _ zs _ ha1 hw hlen).mono ?_
  rintro e w0 ⟨g, rfl, hc0, hg0, b0⟩
  replace HP := Lib.hid (cells_of_below b0 HP.out)
  replace HQ := Lib.hid (cells_of_below b0 HQ.out)
  replace B0 := Below.next B0 b0
  have hg2 : w.heap.size + 2 ≤ g := by have h9 := hg0; simp at h9; omega
  have hg : w.heap.size ≤ g := by omega
  clear b0 hg0 ha ha1 hw
  have lP_0 : w.heap.size < w0.heap.size := (Array.getElem?_eq_some_iff.1 HP.out).1
  have lQ_0 : w.heap.size + 1 < w0.heap.size := (Array.getElem?_eq_some_iff.1 HQ.out).1
  go_wp2_with fail
  refine (spec_l6Any g zs _ (by (repeat (first | (with_reducible exact hc0) | (with_reducible refine Cur.al ?_ _) | ((with_reducible refine Cur.st ?_ ?_ _); (rotate_left); (first | omega | (simp; omega))) | (with_reducible refine Cur.drew1 ?_))))).mono ?_
  rintro e w1 ⟨a, b, k, l, a', b', k', s, ⟨⟨ya, yb, yk, yl⟩, ya', yb', yk', ys⟩, rfl, hc1, ho1⟩
  have NP : Hid (w1.heap[w.heap.size]? = some (.cells #[.int .i64 0, .int .i64 0, .int .i64 0, .int .i64 0] 30 (0, 0))) := Lib.hid (Only.blk ho1 (by (repeat (first | (with_reducible exact HP.out) | (with_reducible exact HQ.out) | ((with_reducible refine newBlk _ _ _ _ ?_); (first | rfl | (simp; done))) | ((with_reducible refine bxSetNe ?_ _ _ ?_); (rotate_left); (first | omega | (simp; omega))) | (with_reducible refine drewBlk ?_) | (with_reducible refine oldBlk _ ?_)))) (by omega))
  have NQ : Hid (w1.heap[w.heap.size + 1]? = some (.cells #[.int .i64 0, .int .i64 0, .int .i64 0, .int .i64 0, .int .i64 0] 45 (0, 0))) := Lib.hid (Only.blk ho1 (by (repeat (first | (with_reducible exact HP.out) | (with_reducible exact HQ.out) | ((with_reducible refine newBlk _ _ _ _ ?_); (first | rfl | (simp; done))) | ((with_reducible refine bxSetNe ?_ _ _ ?_); (rotate_left); (first | omega | (simp; omega))) | (with_reducible refine drewBlk ?_) | (with_reducible refine oldBlk _ ?_)))) (by omega))
  have NO : Below w.heap.size w w1 := Only.below (by (repeat (first | (with_reducible exact B0) | ((with_reducible refine Below.st ?_ _ _ _ ?_); (rotate_left); (first | omega | (simp; omega))) | (with_reducible refine Below.al ?_ _) | (with_reducible refine Below.drew ?_)))) ho1 hg
  clear HP HQ B0 hc0
  have HP := NP
  have HQ := NQ
  have B0 := NO
  clear NP NQ NO
  have lP_1 : w.heap.size < w1.heap.size := (Array.getElem?_eq_some_iff.1 HP.out).1
  have lQ_1 : w.heap.size + 1 < w1.heap.size := (Array.getElem?_eq_some_iff.1 HQ.out).1
  have zz1 := B0.size
  clear ho1
  have HA := Lib.hid (oldBlk (.cells #[.int .i64 a', .int .i64 b', .int .i64 k', .int .i64 s] 32) (newBlk w1 #[.int .i64 a, .int .i64 b, .int .i64 k, .int .i64 l] 30 w1.heap.size rfl))
  have HC := Lib.hid (newBlk (w1.alloc (.cells #[.int .i64 a, .int .i64 b, .int .i64 k, .int .i64 l] 30)) #[.int .i64 a', .int .i64 b', .int .i64 k', .int .i64 s] 32 (w1.heap.size + 1) (by simp))
  have HP0 := Lib.hid (oldBlk (.cells #[.int .i64 a', .int .i64 b', .int .i64 k', .int .i64 s] 32) (oldBlk (.cells #[.int .i64 a, .int .i64 b, .int .i64 k, .int .i64 l] 30) HP.out))
  have HQ0 := Lib.hid (oldBlk (.cells #[.int .i64 a', .int .i64 b', .int .i64 k', .int .i64 s] 32) (oldBlk (.cells #[.int .i64 a, .int .i64 b, .int .i64 k, .int .i64 l] 30) HQ.out))
  have hc2 := (hc1.al (.cells #[.int .i64 a, .int .i64 b, .int .i64 k, .int .i64 l] 30)).al (.cells #[.int .i64 a', .int .i64 b', .int .i64 k', .int .i64 s] 32)
  have BB2 : Below w.heap.size w ((w1.alloc (.cells #[.int .i64 a, .int .i64 b, .int .i64 k, .int .i64 l] 30)).alloc (.cells #[.int .i64 a', .int .i64 b', .int .i64 k', .int .i64 s] 32)) := Below.al (Below.al B0 _) _
  have hl2 := hc1.lt
  have sz2 : w1.heap.size + 1 < ((w1.alloc (.cells #[.int .i64 a, .int .i64 b, .int .i64 k, .int .i64 l] 30)).alloc (.cells #[.int .i64 a', .int .i64 b', .int .i64 k', .int .i64 s] 32)).heap.size := by simp
  clear HP HQ B0 hc1
  obtain ⟨W0, hW0⟩ : ∃ W0, W0 = ((w1.alloc (.cells #[.int .i64 a, .int .i64 b, .int .i64 k, .int .i64 l] 30)).alloc (.cells #[.int .i64 a', .int .i64 b', .int .i64 k', .int .i64 s] 32)) := ⟨_, rfl⟩
  rw [← hW0] at HA HC HP0 HQ0 hc2 BB2 sz2
  have hne0 : W0.heap.size ≠ g := by omega
  have hne1 : W0.heap.size + 1 ≠ g := by omega
  have HW := Lib.hid hW0
  clear hW0
  go_upto_region 3 with fail
  rw [← HW.out]
  clear HW
  go_cut [8] (fun p wx => ∃ (g8 : Nat) (v0 v1 v2 v3 v4 : Int), p = .pointer (some ⟨g8, 0, none⟩) ∧ (Sm v0 ∧ Sm v1 ∧ Sm v2 ∧ Sm v3 ∧ Sm v4) ∧ w1.heap.size < g8 ∧ wx.heap[g8]? = some (.cells #[.int .i64 v0, .int .i64 v1, .int .i64 v2, .int .i64 v3, .int .i64 v4] 45 (0, 0)) ∧ wx.heap[w1.heap.size]? = some (.cells #[.int .i64 a, .int .i64 b, .int .i64 k, .int .i64 l] 30 (0, 0)) ∧ wx.heap[w.heap.size]? = some (.cells #[.int .i64 0, .int .i64 0, .int .i64 0, .int .i64 0] 30 (0, 0)) ∧ wx.heap[w.heap.size + 1]? = some (.cells #[.int .i64 0, .int .i64 0, .int .i64 0, .int .i64 0, .int .i64 0] 45 (0, 0)) ∧ Cur wx g zs ∧ Below w.heap.size w wx)
  case first =>
    have cC0 := cell_of HC.out 0
    have cC1 := cell_of HC.out 1
    have cC2 := cell_of HC.out 2
    have cC3 := cell_of HC.out 3
    simp only [List.getElem?_toArray, List.getElem?_cons_zero, List.getElem?_cons_succ] at cC0 cC1 cC2 cC3
    have sne := bxNe
    have cal := cell_al
    have fal := froz_al
    go_region_held3 (fun w' => w'.cell? ⟨w1.heap.size + 1, 0, none⟩ = some (.int .i64 a') ∧ w'.cell? ⟨w1.heap.size + 1, 1, none⟩ = some (.int .i64 b') ∧ w'.cell? ⟨w1.heap.size + 1, 2, none⟩ = some (.int .i64 k') ∧ w'.cell? ⟨w1.heap.size + 1, 3, none⟩ = some (.int .i64 s)) (((refine ⟨?_, ?_, ?_, ?_⟩) <;> (first | (with_reducible assumption) | ((refine Eq.trans (cell_of (cs := #[.int .i64 a', .int .i64 b', .int .i64 k', .int .i64 s]) (t := 32) ?_ _) ?_); (rotate_left); rfl; (repeat (first | (with_reducible exact HA6.out) | (with_reducible exact HC6.out) | (with_reducible exact HP6.out) | (with_reducible exact HQ6.out) | (with_reducible exact HY1.out) | (with_reducible exact HY2.out) | (with_reducible exact HY3.out) | (with_reducible exact HY4.out) | (with_reducible exact HY5.out) | (with_reducible exact HY6.out) | (with_reducible exact HA5.out) | (with_reducible exact HC5.out) | (with_reducible exact HP5.out) | (with_reducible exact HQ5.out) | (with_reducible exact HX1.out) | (with_reducible exact HX2.out) | (with_reducible exact HX3.out) | (with_reducible exact HA.out) | (with_reducible exact HC.out) | (with_reducible exact HP0.out) | (with_reducible exact HQ0.out) | ((with_reducible refine newBlk _ _ _ _ ?_); (first | rfl | (simp; done))) | (with_reducible apply store4g) | (with_reducible apply store5g) | ((with_reducible refine store4ne ?_ ?_); (first | omega | (simp; omega))) | ((with_reducible refine store5ne ?_ ?_); (first | omega | (simp; omega))) | ((with_reducible refine bxSetNe ?_ _ _ ?_); (rotate_left); (first | omega | (simp; omega))) | (with_reducible refine drewBlk ?_) | (with_reducible refine oldBlk _ ?_))); done)))) (first
        | (go_at_call 52; (with_reducible refine (spec_l1Below g zs 50 _ (by omega) (by (repeat (first | (with_reducible exact hc2) | (with_reducible refine Cur.al ?_ _) | ((with_reducible refine Cur.st ?_ ?_ _); (rotate_left); (first | omega | (simp; omega))) | (with_reducible refine Cur.drew1 ?_))))).mono ?_); rintro e w5 ⟨r, qr, rfl, hc5, ho5⟩; obtain ⟨r0, r1⟩ := qr.bd (by omega); clear qr; have HA5 : Hid (w5.heap[w1.heap.size]? = some (.cells #[.int .i64 a, .int .i64 b, .int .i64 k, .int .i64 l] 30 (0, 0))) := Lib.hid (Only.blk ho5 (by (repeat (first | (with_reducible exact HA.out) | (with_reducible exact HC.out) | (with_reducible exact HP0.out) | (with_reducible exact HQ0.out) | ((with_reducible refine newBlk _ _ _ _ ?_); (first | rfl | (simp; done))) | (with_reducible apply store4g) | (with_reducible apply store5g) | ((with_reducible refine store4ne ?_ ?_); (first | omega | (simp; omega))) | ((with_reducible refine store5ne ?_ ?_); (first | omega | (simp; omega))) | ((with_reducible refine bxSetNe ?_ _ _ ?_); (rotate_left); (first | omega | (simp; omega))) | (with_reducible refine drewBlk ?_) | (with_reducible refine oldBlk _ ?_)))) (by omega)); have HC5 : Hid (w5.heap[w1.heap.size + 1]? = some (.cells #[.int .i64 a', .int .i64 b', .int .i64 k', .int .i64 s] 32 (0, 0))) := Lib.hid (Only.blk ho5 (by (repeat (first | (with_reducible exact HA.out) | (with_reducible exact HC.out) | (with_reducible exact HP0.out) | (with_reducible exact HQ0.out) | ((with_reducible refine newBlk _ _ _ _ ?_); (first | rfl | (simp; done))) | (with_reducible apply store4g) | (with_reducible apply store5g) | ((with_reducible refine store4ne ?_ ?_); (first | omega | (simp; omega))) | ((with_reducible refine store5ne ?_ ?_); (first | omega | (simp; omega))) | ((with_reducible refine bxSetNe ?_ _ _ ?_); (rotate_left); (first | omega | (simp; omega))) | (with_reducible refine drewBlk ?_) | (with_reducible refine oldBlk _ ?_)))) (by omega)); have HP5 : Hid (w5.heap[w.heap.size]? = some (.cells #[.int .i64 0, .int .i64 0, .int .i64 0, .int .i64 0] 30 (0, 0))) := Lib.hid (Only.blk ho5 (by (repeat (first | (with_reducible exact HA.out) | (with_reducible exact HC.out) | (with_reducible exact HP0.out) | (with_reducible exact HQ0.out) | ((with_reducible refine newBlk _ _ _ _ ?_); (first | rfl | (simp; done))) | (with_reducible apply store4g) | (with_reducible apply store5g) | ((with_reducible refine store4ne ?_ ?_); (first | omega | (simp; omega))) | ((with_reducible refine store5ne ?_ ?_); (first | omega | (simp; omega))) | ((with_reducible refine bxSetNe ?_ _ _ ?_); (rotate_left); (first | omega | (simp; omega))) | (with_reducible refine drewBlk ?_) | (with_reducible refine oldBlk _ ?_)))) (by omega)); have HQ5 : Hid (w5.heap[w.heap.size + 1]? = some (.cells #[.int .i64 0, .int .i64 0, .int .i64 0, .int .i64 0, .int .i64 0] 45 (0, 0))) := Lib.hid (Only.blk ho5 (by (repeat (first | (with_reducible exact HA.out) | (with_reducible exact HC.out) | (with_reducible exact HP0.out) | (with_reducible exact HQ0.out) | ((with_reducible refine newBlk _ _ _ _ ?_); (first | rfl | (simp; done))) | (with_reducible apply store4g) | (with_reducible apply store5g) | ((with_reducible refine store4ne ?_ ?_); (first | omega | (simp; omega))) | ((with_reducible refine store5ne ?_ ?_); (first | omega | (simp; omega))) | ((with_reducible refine bxSetNe ?_ _ _ ?_); (rotate_left); (first | omega | (simp; omega))) | (with_reducible refine drewBlk ?_) | (with_reducible refine oldBlk _ ?_)))) (by omega)); (try have HX1 := Lib.hid (Only.blk ho5 (newBlk W0.drew _ _ W0.heap.size rfl) hne0)); (try have HX2 := Lib.hid (Only.blk ho5 (oldBlk _ (newBlk W0.drew _ _ W0.heap.size rfl)) hne0)); (try have HX3 := Lib.hid (Only.blk ho5 (newBlk (W0.drew.alloc _) _ _ (W0.heap.size + 1) (alloc_sz _ _).symm) hne1)); have B5 : Below w.heap.size w w5 := Only.below (by (repeat (first | (with_reducible exact BB2) | ((with_reducible refine Below.st ?_ _ _ _ ?_); (rotate_left); (first | omega | (simp; omega))) | (with_reducible refine Below.al ?_ _) | (with_reducible refine Below.drew ?_)))) ho5 hg; have sz5 := ho5.size; (try simp only [drew_sz] at sz5); (try simp only [alloc_sz] at sz5); (try simp only [drew_sz] at sz5))
        | (go_at_call 35; (with_reducible refine (nav a' b' k' s r _ r0 (by omega)).mono ?_); rintro e w6 ⟨nn, v0, v1, v2, v3, v4, sv, rfl, b6⟩; have HA6 : Hid (w6.heap[w1.heap.size]? = some (.cells #[.int .i64 a, .int .i64 b, .int .i64 k, .int .i64 l] 30 (0, 0))) := Lib.hid (cells_of_below b6 (by (repeat (first | (with_reducible exact HA5.out) | (with_reducible exact HC5.out) | (with_reducible exact HP5.out) | (with_reducible exact HQ5.out) | ((with_reducible refine newBlk _ _ _ _ ?_); (first | rfl | (simp; done))) | (with_reducible apply store4g) | (with_reducible apply store5g) | ((with_reducible refine store4ne ?_ ?_); (first | omega | (simp; omega))) | ((with_reducible refine store5ne ?_ ?_); (first | omega | (simp; omega))) | ((with_reducible refine bxSetNe ?_ _ _ ?_); (rotate_left); (first | omega | (simp; omega))) | (with_reducible refine drewBlk ?_) | (with_reducible refine oldBlk _ ?_))))); have HC6 : Hid (w6.heap[w1.heap.size + 1]? = some (.cells #[.int .i64 a', .int .i64 b', .int .i64 k', .int .i64 s] 32 (0, 0))) := Lib.hid (cells_of_below b6 (by (repeat (first | (with_reducible exact HA5.out) | (with_reducible exact HC5.out) | (with_reducible exact HP5.out) | (with_reducible exact HQ5.out) | ((with_reducible refine newBlk _ _ _ _ ?_); (first | rfl | (simp; done))) | (with_reducible apply store4g) | (with_reducible apply store5g) | ((with_reducible refine store4ne ?_ ?_); (first | omega | (simp; omega))) | ((with_reducible refine store5ne ?_ ?_); (first | omega | (simp; omega))) | ((with_reducible refine bxSetNe ?_ _ _ ?_); (rotate_left); (first | omega | (simp; omega))) | (with_reducible refine drewBlk ?_) | (with_reducible refine oldBlk _ ?_))))); have HP6 : Hid (w6.heap[w.heap.size]? = some (.cells #[.int .i64 0, .int .i64 0, .int .i64 0, .int .i64 0] 30 (0, 0))) := Lib.hid (cells_of_below b6 (by (repeat (first | (with_reducible exact HA5.out) | (with_reducible exact HC5.out) | (with_reducible exact HP5.out) | (with_reducible exact HQ5.out) | ((with_reducible refine newBlk _ _ _ _ ?_); (first | rfl | (simp; done))) | (with_reducible apply store4g) | (with_reducible apply store5g) | ((with_reducible refine store4ne ?_ ?_); (first | omega | (simp; omega))) | ((with_reducible refine store5ne ?_ ?_); (first | omega | (simp; omega))) | ((with_reducible refine bxSetNe ?_ _ _ ?_); (rotate_left); (first | omega | (simp; omega))) | (with_reducible refine drewBlk ?_) | (with_reducible refine oldBlk _ ?_))))); have HQ6 : Hid (w6.heap[w.heap.size + 1]? = some (.cells #[.int .i64 0, .int .i64 0, .int .i64 0, .int .i64 0, .int .i64 0] 45 (0, 0))) := Lib.hid (cells_of_below b6 (by (repeat (first | (with_reducible exact HA5.out) | (with_reducible exact HC5.out) | (with_reducible exact HP5.out) | (with_reducible exact HQ5.out) | ((with_reducible refine newBlk _ _ _ _ ?_); (first | rfl | (simp; done))) | (with_reducible apply store4g) | (with_reducible apply store5g) | ((with_reducible refine store4ne ?_ ?_); (first | omega | (simp; omega))) | ((with_reducible refine store5ne ?_ ?_); (first | omega | (simp; omega))) | ((with_reducible refine bxSetNe ?_ _ _ ?_); (rotate_left); (first | omega | (simp; omega))) | (with_reducible refine drewBlk ?_) | (with_reducible refine oldBlk _ ?_))))); (first | have HY1 := Lib.hid (cells_of_below b6 HX1.out) | have HY1 := Lib.hid (cells_of_below b6 (oldBlk _ HX1.out)) | have HY1 := Lib.hid (cells_of_below b6 (oldBlk _ (oldBlk _ HX1.out))) | skip); (first | have HY2 := Lib.hid (cells_of_below b6 HX2.out) | have HY2 := Lib.hid (cells_of_below b6 (oldBlk _ HX2.out)) | have HY2 := Lib.hid (cells_of_below b6 (oldBlk _ (oldBlk _ HX2.out))) | skip); (first | have HY3 := Lib.hid (cells_of_below b6 HX3.out) | have HY3 := Lib.hid (cells_of_below b6 (oldBlk _ HX3.out)) | have HY3 := Lib.hid (cells_of_below b6 (oldBlk _ (oldBlk _ HX3.out))) | skip); (try have HY4 := Lib.hid (cells_of_below b6 (newBlk w5 _ _ w5.heap.size rfl))); (try have HY5 := Lib.hid (cells_of_below b6 (oldBlk _ (newBlk w5 _ _ w5.heap.size rfl)))); (try have HY6 := Lib.hid (cells_of_below b6 (newBlk (w5.alloc _) _ _ (w5.heap.size + 1) (alloc_sz _ _).symm))); (try (have y10 := cell_of HY1.out 0; have y11 := cell_of HY1.out 1; have y12 := cell_of HY1.out 2; have y13 := cell_of HY1.out 3; have y14 := cell_of HY1.out 4; have fy1 := free_of HY1.out; have ly1 := (Array.getElem?_eq_some_iff.1 HY1.out).1; simp only [List.getElem?_toArray, List.getElem?_cons_zero, List.getElem?_cons_succ, List.getElem?_nil] at y10 y11 y12 y13 y14)); (try (have y20 := cell_of HY2.out 0; have y21 := cell_of HY2.out 1; have y22 := cell_of HY2.out 2; have y23 := cell_of HY2.out 3; have y24 := cell_of HY2.out 4; have fy2 := free_of HY2.out; have ly2 := (Array.getElem?_eq_some_iff.1 HY2.out).1; simp only [List.getElem?_toArray, List.getElem?_cons_zero, List.getElem?_cons_succ, List.getElem?_nil] at y20 y21 y22 y23 y24)); (try (have y30 := cell_of HY3.out 0; have y31 := cell_of HY3.out 1; have y32 := cell_of HY3.out 2; have y33 := cell_of HY3.out 3; have y34 := cell_of HY3.out 4; have fy3 := free_of HY3.out; have ly3 := (Array.getElem?_eq_some_iff.1 HY3.out).1; simp only [List.getElem?_toArray, List.getElem?_cons_zero, List.getElem?_cons_succ, List.getElem?_nil] at y30 y31 y32 y33 y34)); (try (have y40 := cell_of HY4.out 0; have y41 := cell_of HY4.out 1; have y42 := cell_of HY4.out 2; have y43 := cell_of HY4.out 3; have y44 := cell_of HY4.out 4; have fy4 := free_of HY4.out; have ly4 := (Array.getElem?_eq_some_iff.1 HY4.out).1; simp only [List.getElem?_toArray, List.getElem?_cons_zero, List.getElem?_cons_succ, List.getElem?_nil] at y40 y41 y42 y43 y44)); (try (have y50 := cell_of HY5.out 0; have y51 := cell_of HY5.out 1; have y52 := cell_of HY5.out 2; have y53 := cell_of HY5.out 3; have y54 := cell_of HY5.out 4; have fy5 := free_of HY5.out; have ly5 := (Array.getElem?_eq_some_iff.1 HY5.out).1; simp only [List.getElem?_toArray, List.getElem?_cons_zero, List.getElem?_cons_succ, List.getElem?_nil] at y50 y51 y52 y53 y54)); (try (have y60 := cell_of HY6.out 0; have y61 := cell_of HY6.out 1; have y62 := cell_of HY6.out 2; have y63 := cell_of HY6.out 3; have y64 := cell_of HY6.out 4; have fy6 := free_of HY6.out; have ly6 := (Array.getElem?_eq_some_iff.1 HY6.out).1; simp only [List.getElem?_toArray, List.getElem?_cons_zero, List.getElem?_cons_succ, List.getElem?_nil] at y60 y61 y62 y63 y64)); have B6 : Below w.heap.size w w6 := Below.next (by (repeat (first | (with_reducible exact B5) | ((with_reducible refine Below.st ?_ _ _ _ ?_); (rotate_left); (first | omega | (simp; omega))) | (with_reducible refine Below.al ?_ _) | (with_reducible refine Below.drew ?_)))) b6; have hc6 : Cur w6 g zs := Cur.below (by (repeat (first | (with_reducible exact hc5) | (with_reducible refine Cur.al ?_ _) | ((with_reducible refine Cur.st ?_ ?_ _); (rotate_left); (first | omega | (simp; omega))) | (with_reducible refine Cur.drew1 ?_)))) b6; have sz6 := b6.size; (try simp only [alloc_sz] at sz6)))
    all_goals
      go_wp2_with fail
      go_meet
      refine ⟨_, v0, v1, v2, v3, v4, rfl, sv, ?_, ?_, ?_, ?_, ?_, ?_, ?_⟩
      · first | omega | (simp; omega)
      · (repeat (first | (with_reducible exact HA6.out) | (with_reducible exact HC6.out) | (with_reducible exact HP6.out) | (with_reducible exact HQ6.out) | (with_reducible exact HY1.out) | (with_reducible exact HY2.out) | (with_reducible exact HY3.out) | (with_reducible exact HY4.out) | (with_reducible exact HY5.out) | (with_reducible exact HY6.out) | (with_reducible exact HA5.out) | (with_reducible exact HC5.out) | (with_reducible exact HP5.out) | (with_reducible exact HQ5.out) | (with_reducible exact HX1.out) | (with_reducible exact HX2.out) | (with_reducible exact HX3.out) | (with_reducible exact HA.out) | (with_reducible exact HC.out) | (with_reducible exact HP0.out) | (with_reducible exact HQ0.out) | ((with_reducible refine newBlk _ _ _ _ ?_); (first | rfl | (simp; done))) | (with_reducible apply store4g) | (with_reducible apply store5g) | ((with_reducible refine store4ne ?_ ?_); (first | omega | (simp; omega))) | ((with_reducible refine store5ne ?_ ?_); (first | omega | (simp; omega))) | ((with_reducible refine bxSetNe ?_ _ _ ?_); (rotate_left); (first | omega | (simp; omega))) | (with_reducible refine drewBlk ?_) | (with_reducible refine oldBlk _ ?_)))
      · (repeat (first | (with_reducible exact HA6.out) | (with_reducible exact HC6.out) | (with_reducible exact HP6.out) | (with_reducible exact HQ6.out) | (with_reducible exact HY1.out) | (with_reducible exact HY2.out) | (with_reducible exact HY3.out) | (with_reducible exact HY4.out) | (with_reducible exact HY5.out) | (with_reducible exact HY6.out) | (with_reducible exact HA5.out) | (with_reducible exact HC5.out) | (with_reducible exact HP5.out) | (with_reducible exact HQ5.out) | (with_reducible exact HX1.out) | (with_reducible exact HX2.out) | (with_reducible exact HX3.out) | (with_reducible exact HA.out) | (with_reducible exact HC.out) | (with_reducible exact HP0.out) | (with_reducible exact HQ0.out) | ((with_reducible refine newBlk _ _ _ _ ?_); (first | rfl | (simp; done))) | (with_reducible apply store4g) | (with_reducible apply store5g) | ((with_reducible refine store4ne ?_ ?_); (first | omega | (simp; omega))) | ((with_reducible refine store5ne ?_ ?_); (first | omega | (simp; omega))) | ((with_reducible refine bxSetNe ?_ _ _ ?_); (rotate_left); (first | omega | (simp; omega))) | (with_reducible refine drewBlk ?_) | (with_reducible refine oldBlk _ ?_)))
      · (repeat (first | (with_reducible exact HA6.out) | (with_reducible exact HC6.out) | (with_reducible exact HP6.out) | (with_reducible exact HQ6.out) | (with_reducible exact HY1.out) | (with_reducible exact HY2.out) | (with_reducible exact HY3.out) | (with_reducible exact HY4.out) | (with_reducible exact HY5.out) | (with_reducible exact HY6.out) | (with_reducible exact HA5.out) | (with_reducible exact HC5.out) | (with_reducible exact HP5.out) | (with_reducible exact HQ5.out) | (with_reducible exact HX1.out) | (with_reducible exact HX2.out) | (with_reducible exact HX3.out) | (with_reducible exact HA.out) | (with_reducible exact HC.out) | (with_reducible exact HP0.out) | (with_reducible exact HQ0.out) | ((with_reducible refine newBlk _ _ _ _ ?_); (first | rfl | (simp; done))) | (with_reducible apply store4g) | (with_reducible apply store5g) | ((with_reducible refine store4ne ?_ ?_); (first | omega | (simp; omega))) | ((with_reducible refine store5ne ?_ ?_); (first | omega | (simp; omega))) | ((with_reducible refine bxSetNe ?_ _ _ ?_); (rotate_left); (first | omega | (simp; omega))) | (with_reducible refine drewBlk ?_) | (with_reducible refine oldBlk _ ?_)))
      · (repeat (first | (with_reducible exact HA6.out) | (with_reducible exact HC6.out) | (with_reducible exact HP6.out) | (with_reducible exact HQ6.out) | (with_reducible exact HY1.out) | (with_reducible exact HY2.out) | (with_reducible exact HY3.out) | (with_reducible exact HY4.out) | (with_reducible exact HY5.out) | (with_reducible exact HY6.out) | (with_reducible exact HA5.out) | (with_reducible exact HC5.out) | (with_reducible exact HP5.out) | (with_reducible exact HQ5.out) | (with_reducible exact HX1.out) | (with_reducible exact HX2.out) | (with_reducible exact HX3.out) | (with_reducible exact HA.out) | (with_reducible exact HC.out) | (with_reducible exact HP0.out) | (with_reducible exact HQ0.out) | ((with_reducible refine newBlk _ _ _ _ ?_); (first | rfl | (simp; done))) | (with_reducible apply store4g) | (with_reducible apply store5g) | ((with_reducible refine store4ne ?_ ?_); (first | omega | (simp; omega))) | ((with_reducible refine store5ne ?_ ?_); (first | omega | (simp; omega))) | ((with_reducible refine bxSetNe ?_ _ _ ?_); (rotate_left); (first | omega | (simp; omega))) | (with_reducible refine drewBlk ?_) | (with_reducible refine oldBlk _ ?_)))
      · (repeat (first | (with_reducible exact hc6) | (with_reducible refine Cur.al ?_ _) | ((with_reducible refine Cur.st ?_ ?_ _); (rotate_left); (first | omega | (simp; omega))) | (with_reducible refine Cur.drew1 ?_)))
      · (repeat (first | (with_reducible exact B6) | ((with_reducible refine Below.st ?_ _ _ _ ?_); (rotate_left); (first | omega | (simp; omega))) | (with_reducible refine Below.al ?_ _) | (with_reducible refine Below.drew ?_)))
  case rest =>
    clear HA HC HP0 HQ0 hc2 BB2
    obtain ⟨g8, v0, v1, v2, v3, v4, rfl, ⟨s0, s1, s2, s3, s4⟩, lg8, hG, hA, hP, hQ, hcc, B0⟩ := hcut
    have HG := Lib.hid hG
    have HP := Lib.hid hP
    have HQ := Lib.hid hQ
    have HA := Lib.hid hA
    clear hG hA hP hQ
    go_wp2_with fail
    refine (spec_l1Once g zs 4 _ (by omega) (by (repeat (first | (with_reducible exact hcc) | (with_reducible refine Cur.al ?_ _) | ((with_reducible refine Cur.st ?_ ?_ _); (rotate_left); (first | omega | (simp; omega))) | (with_reducible refine Cur.drew1 ?_))))).mono ?_
    rintro e w7 ⟨bb, rfl, hc7, ho7⟩
    have NP : Hid (w7.heap[w.heap.size]? = some (.cells #[.int .i64 0, .int .i64 0, .int .i64 0, .int .i64 0] 30 (0, 0))) := Lib.hid (Only.blk ho7 (by (repeat (first | (with_reducible exact HP.out) | (with_reducible exact HQ.out) | (with_reducible exact HA.out) | (with_reducible exact HG.out) | ((with_reducible refine newBlk _ _ _ _ ?_); (first | rfl | (simp; done))) | ((with_reducible refine bxSetNe ?_ _ _ ?_); (rotate_left); (first | omega | (simp; omega))) | (with_reducible refine drewBlk ?_) | (with_reducible refine oldBlk _ ?_)))) (by omega))
    have NQ : Hid (w7.heap[w.heap.size + 1]? = some (.cells #[.int .i64 0, .int .i64 0, .int .i64 0, .int .i64 0, .int .i64 0] 45 (0, 0))) := Lib.hid (Only.blk ho7 (by (repeat (first | (with_reducible exact HP.out) | (with_reducible exact HQ.out) | (with_reducible exact HA.out) | (with_reducible exact HG.out) | ((with_reducible refine newBlk _ _ _ _ ?_); (first | rfl | (simp; done))) | ((with_reducible refine bxSetNe ?_ _ _ ?_); (rotate_left); (first | omega | (simp; omega))) | (with_reducible refine drewBlk ?_) | (with_reducible refine oldBlk _ ?_)))) (by omega))
    have NA : Hid (w7.heap[w1.heap.size]? = some (.cells #[.int .i64 a, .int .i64 b, .int .i64 k, .int .i64 l] 30 (0, 0))) := Lib.hid (Only.blk ho7 (by (repeat (first | (with_reducible exact HP.out) | (with_reducible exact HQ.out) | (with_reducible exact HA.out) | (with_reducible exact HG.out) | ((with_reducible refine newBlk _ _ _ _ ?_); (first | rfl | (simp; done))) | ((with_reducible refine bxSetNe ?_ _ _ ?_); (rotate_left); (first | omega | (simp; omega))) | (with_reducible refine drewBlk ?_) | (with_reducible refine oldBlk _ ?_)))) (by omega))
    have NG : Hid (w7.heap[g8]? = some (.cells #[.int .i64 v0, .int .i64 v1, .int .i64 v2, .int .i64 v3, .int .i64 v4] 45 (0, 0))) := Lib.hid (Only.blk ho7 (by (repeat (first | (with_reducible exact HP.out) | (with_reducible exact HQ.out) | (with_reducible exact HA.out) | (with_reducible exact HG.out) | ((with_reducible refine newBlk _ _ _ _ ?_); (first | rfl | (simp; done))) | ((with_reducible refine bxSetNe ?_ _ _ ?_); (rotate_left); (first | omega | (simp; omega))) | (with_reducible refine drewBlk ?_) | (with_reducible refine oldBlk _ ?_)))) (by omega))
    have NO : Below w.heap.size w w7 := Only.below (by (repeat (first | (with_reducible exact B0) | ((with_reducible refine Below.st ?_ _ _ _ ?_); (rotate_left); (first | omega | (simp; omega))) | (with_reducible refine Below.al ?_ _) | (with_reducible refine Below.drew ?_)))) ho7 hg
    clear HP HQ HA HG B0 hcc
    have HP := NP
    have HQ := NQ
    have HA := NA
    have HG := NG
    have B0 := NO
    clear NP NQ NA NG NO
    have lP_7 : w.heap.size < w7.heap.size := (Array.getElem?_eq_some_iff.1 HP.out).1
    have lQ_7 : w.heap.size + 1 < w7.heap.size := (Array.getElem?_eq_some_iff.1 HQ.out).1
    have lA_7 : w1.heap.size < w7.heap.size := (Array.getElem?_eq_some_iff.1 HA.out).1
    have lG_7 : g8 < w7.heap.size := (Array.getElem?_eq_some_iff.1 HG.out).1
    have zz7 := B0.size
    clear ho7
    cases bb
    · have cP0 := cell_of HP.out 0
      have cP1 := cell_of HP.out 1
      have cP2 := cell_of HP.out 2
      have cP3 := cell_of HP.out 3
      have cQ0 := cell_of HQ.out 0
      have cQ1 := cell_of HQ.out 1
      have cQ2 := cell_of HQ.out 2
      have cQ3 := cell_of HQ.out 3
      have cQ4 := cell_of HQ.out 4
      have cA0 := cell_of HA.out 0
      have cA1 := cell_of HA.out 1
      have cA2 := cell_of HA.out 2
      have cA3 := cell_of HA.out 3
      have cG0 := cell_of HG.out 0
      have cG1 := cell_of HG.out 1
      have cG2 := cell_of HG.out 2
      have cG3 := cell_of HG.out 3
      have cG4 := cell_of HG.out 4
      simp only [List.getElem?_toArray, List.getElem?_cons_zero, List.getElem?_cons_succ] at cP0 cP1 cP2 cP3 cQ0 cQ1 cQ2 cQ3 cQ4 cA0 cA1 cA2 cA3 cG0 cG1 cG2 cG3 cG4
      have fP := free_of HP.out
      have fQ := free_of HQ.out
      have fA := free_of HA.out
      have fG := free_of HG.out
      have sne := bxNe
      have dPQ : ¬ w.heap.size = w.heap.size + 1 := by omega
      have dPA : ¬ w.heap.size = w1.heap.size := by omega
      have dPG : ¬ w.heap.size = g8 := by omega
      have dQP : ¬ w.heap.size + 1 = w.heap.size := by omega
      have dQA : ¬ w.heap.size + 1 = w1.heap.size := by omega
      have dQG : ¬ w.heap.size + 1 = g8 := by omega
      have dAP : ¬ w1.heap.size = w.heap.size := by omega
      have dAQ : ¬ w1.heap.size = w.heap.size + 1 := by omega
      have dAG : ¬ w1.heap.size = g8 := by omega
      have dGP : ¬ g8 = w.heap.size := by omega
      have dGQ : ¬ g8 = w.heap.size + 1 := by omega
      have dGA : ¬ g8 = w1.heap.size := by omega
      go_wp2_with fail
      go_region
      all_goals
        go_wp2_with fail
        refine bodyPost_ret (v := .tuple #[.agg #[.int .i64 a, .int .i64 b, .int .i64 k, .int .i64 l], .agg #[.int .i64 v0, .int .i64 v1, .int .i64 v2, .int .i64 v3, .int .i64 v4]]) (by simp [results, Try.results32, go_sem, *]) rfl ?_
        exact ⟨a, b, k, l, v0, v1, v2, v3, v4, ⟨⟨ya, yb, yk, yl⟩, by assumption, by assumption, by assumption, by assumption, by assumption⟩, rfl, by (repeat (first | (with_reducible exact B0) | ((with_reducible refine Below.st ?_ _ _ _ ?_); (rotate_left); (first | omega | (simp; omega))) | (with_reducible refine Below.al ?_ _) | (with_reducible refine Below.drew ?_)))⟩
    · go_wp2_with fail
      refine (spec_l5Vector g zs _ (by (repeat (first | (with_reducible exact hc7) | (with_reducible refine Cur.al ?_ _) | ((with_reducible refine Cur.st ?_ ?_ _); (rotate_left); (first | omega | (simp; omega))) | (with_reducible refine Cur.drew1 ?_))))).mono ?_
      rintro e w8 ⟨x0, x1, x2, x3, x4, ⟨z0, z1, z2, z3, z4⟩, rfl, hc8, ho8⟩
      have NP : Hid (w8.heap[w.heap.size]? = some (.cells #[.int .i64 0, .int .i64 0, .int .i64 0, .int .i64 0] 30 (0, 0))) := Lib.hid (Only.blk ho8 (by (repeat (first | (with_reducible exact HP.out) | (with_reducible exact HQ.out) | (with_reducible exact HA.out) | (with_reducible exact HG.out) | ((with_reducible refine newBlk _ _ _ _ ?_); (first | rfl | (simp; done))) | ((with_reducible refine bxSetNe ?_ _ _ ?_); (rotate_left); (first | omega | (simp; omega))) | (with_reducible refine drewBlk ?_) | (with_reducible refine oldBlk _ ?_)))) (by omega))
      have NQ : Hid (w8.heap[w.heap.size + 1]? = some (.cells #[.int .i64 0, .int .i64 0, .int .i64 0, .int .i64 0, .int .i64 0] 45 (0, 0))) := Lib.hid (Only.blk ho8 (by (repeat (first | (with_reducible exact HP.out) | (with_reducible exact HQ.out) | (with_reducible exact HA.out) | (with_reducible exact HG.out) | ((with_reducible refine newBlk _ _ _ _ ?_); (first | rfl | (simp; done))) | ((with_reducible refine bxSetNe ?_ _ _ ?_); (rotate_left); (first | omega | (simp; omega))) | (with_reducible refine drewBlk ?_) | (with_reducible refine oldBlk _ ?_)))) (by omega))
      have NA : Hid (w8.heap[w1.heap.size]? = some (.cells #[.int .i64 a, .int .i64 b, .int .i64 k, .int .i64 l] 30 (0, 0))) := Lib.hid (Only.blk ho8 (by (repeat (first | (with_reducible exact HP.out) | (with_reducible exact HQ.out) | (with_reducible exact HA.out) | (with_reducible exact HG.out) | ((with_reducible refine newBlk _ _ _ _ ?_); (first | rfl | (simp; done))) | ((with_reducible refine bxSetNe ?_ _ _ ?_); (rotate_left); (first | omega | (simp; omega))) | (with_reducible refine drewBlk ?_) | (with_reducible refine oldBlk _ ?_)))) (by omega))
      have NG : Hid (w8.heap[g8]? = some (.cells #[.int .i64 v0, .int .i64 v1, .int .i64 v2, .int .i64 v3, .int .i64 v4] 45 (0, 0))) := Lib.hid (Only.blk ho8 (by (repeat (first | (with_reducible exact HP.out) | (with_reducible exact HQ.out) | (with_reducible exact HA.out) | (with_reducible exact HG.out) | ((with_reducible refine newBlk _ _ _ _ ?_); (first | rfl | (simp; done))) | ((with_reducible refine bxSetNe ?_ _ _ ?_); (rotate_left); (first | omega | (simp; omega))) | (with_reducible refine drewBlk ?_) | (with_reducible refine oldBlk _ ?_)))) (by omega))
      have NO : Below w.heap.size w w8 := Only.below (by (repeat (first | (with_reducible exact B0) | ((with_reducible refine Below.st ?_ _ _ _ ?_); (rotate_left); (first | omega | (simp; omega))) | (with_reducible refine Below.al ?_ _) | (with_reducible refine Below.drew ?_)))) ho8 hg
      clear HP HQ HA HG B0 hc7
      have HP := NP
      have HQ := NQ
      have HA := NA
      have HG := NG
      have B0 := NO
      clear NP NQ NA NG NO
      have lP_8 : w.heap.size < w8.heap.size := (Array.getElem?_eq_some_iff.1 HP.out).1
      have lQ_8 : w.heap.size + 1 < w8.heap.size := (Array.getElem?_eq_some_iff.1 HQ.out).1
      have lA_8 : w1.heap.size < w8.heap.size := (Array.getElem?_eq_some_iff.1 HA.out).1
      have lG_8 : g8 < w8.heap.size := (Array.getElem?_eq_some_iff.1 HG.out).1
      have zz8 := B0.size
      clear ho8
      have cP0 := cell_of HP.out 0
      have cP1 := cell_of HP.out 1
      have cP2 := cell_of HP.out 2
      have cP3 := cell_of HP.out 3
      have cQ0 := cell_of HQ.out 0
      have cQ1 := cell_of HQ.out 1
      have cQ2 := cell_of HQ.out 2
      have cQ3 := cell_of HQ.out 3
      have cQ4 := cell_of HQ.out 4
      have cA0 := cell_of HA.out 0
      have cA1 := cell_of HA.out 1
      have cA2 := cell_of HA.out 2
      have cA3 := cell_of HA.out 3
      have cG0 := cell_of HG.out 0
      have cG1 := cell_of HG.out 1
      have cG2 := cell_of HG.out 2
      have cG3 := cell_of HG.out 3
      have cG4 := cell_of HG.out 4
      simp only [List.getElem?_toArray, List.getElem?_cons_zero, List.getElem?_cons_succ] at cP0 cP1 cP2 cP3 cQ0 cQ1 cQ2 cQ3 cQ4 cA0 cA1 cA2 cA3 cG0 cG1 cG2 cG3 cG4
      have fP := free_of HP.out
      have fQ := free_of HQ.out
      have fA := free_of HA.out
      have fG := free_of HG.out
      have sne := bxNe
      have dPQ : ¬ w.heap.size = w.heap.size + 1 := by omega
      have dPA : ¬ w.heap.size = w1.heap.size := by omega
      have dPG : ¬ w.heap.size = g8 := by omega
      have dQP : ¬ w.heap.size + 1 = w.heap.size := by omega
      have dQA : ¬ w.heap.size + 1 = w1.heap.size := by omega
      have dQG : ¬ w.heap.size + 1 = g8 := by omega
      have dAP : ¬ w1.heap.size = w.heap.size := by omega
      have dAQ : ¬ w1.heap.size = w.heap.size + 1 := by omega
      have dAG : ¬ w1.heap.size = g8 := by omega
      have dGP : ¬ g8 = w.heap.size := by omega
      have dGQ : ¬ g8 = w.heap.size + 1 := by omega
      have dGA : ¬ g8 = w1.heap.size := by omega
      go_wp2_with fail
      go_region
      all_goals
        go_wp2_with fail
        refine bodyPost_ret (v := .tuple #[.agg #[.int .i64 a, .int .i64 b, .int .i64 k, .int .i64 l], .agg #[.int .i64 x0, .int .i64 x1, .int .i64 x2, .int .i64 x3, .int .i64 x4]]) (by simp [results, Try.results32, go_sem, *]) rfl ?_
        exact ⟨a, b, k, l, x0, x1, x2, x3, x4, ⟨⟨ya, yb, yk, yl⟩, by assumption, by assumption, by assumption, by assumption, by assumption⟩, rfl, by (repeat (first | (with_reducible exact B0) | ((with_reducible refine Below.st ?_ _ _ _ ?_); (rotate_left); (first | omega | (simp; omega))) | (with_reducible refine Below.al ?_ _) | (with_reducible refine Below.drew ?_)))⟩

end Go.Proofs.Ytfenmicakmjelaa
