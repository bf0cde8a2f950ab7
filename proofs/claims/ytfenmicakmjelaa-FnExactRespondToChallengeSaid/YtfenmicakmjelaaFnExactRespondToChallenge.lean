/-
  For all cards and vectors RespondToChallenge of the program gives the card and the answer of the reference in every field. No condition.
-/
import Derived.Test.YtfenmicakmjelaaRows
import Derived.Test.YtfenmicakmjelaaChalS
import Derived.Deep.RegionHeld3
import Derived.Deep.DeepCutAuto
namespace Go.Proofs.Ytfenmicakmjelaa.lawFnExactRespondToChallenge
open Go.Proofs.Ytfenmicakmjelaa
open Go.ChangeShapes Go.WideShapes Go.ChangeAt Go.RowKit
open Go.ChangeMaps (open_string shut_string)
set_option linter.unusedVariables false

theorem cell_al (W : World) (o : Obj) (k i : Nat) (h : k < W.heap.size) : (W.alloc o).cell? ⟨k, i, none⟩ = W.cell? ⟨k, i, none⟩ := (Below.al (Below.refl W.heap.size W) o).cell (p := ⟨k, i, none⟩) h
theorem froz_al (W : World) (o : Obj) (k i : Nat) (h : k < W.heap.size) : (W.alloc o).frozen? ⟨k, i, none⟩ = W.frozen? ⟨k, i, none⟩ := (Below.al (Below.refl W.heap.size W) o).frozen (p := ⟨k, i, none⟩) h
theorem set_lo (W : World) (g i k j : Nat) (v : Value) (h : g < k) : (W.setCell ⟨g, i, none⟩ v).cell? ⟨k, j, none⟩ = W.cell? ⟨k, j, none⟩ := set_far _ _ _ _ _ _ (by omega)
theorem set_hi (W : World) (g i k j : Nat) (v : Value) (h : k < g) : (W.setCell ⟨g, i, none⟩ v).cell? ⟨k, j, none⟩ = W.cell? ⟨k, j, none⟩ := set_far _ _ _ _ _ _ (by omega)
theorem set_ne (W : World) (g i k j : Nat) (v : Value) (h : ¬ g = k) : (W.setCell ⟨g, i, none⟩ v).cell? ⟨k, j, none⟩ = W.cell? ⟨k, j, none⟩ := set_far _ _ _ _ _ _ h
theorem alloc_sz (W : World) (o : Obj) : (W.alloc o).heap.size = W.heap.size + 1 := by simp
theorem drew_sz (W : World) : W.drew.heap.size = W.heap.size := rfl
theorem set_sz (W : World) (p : Addr) (v : Value) : (W.setCell p v).heap.size = W.heap.size := by simp
/-- A struct of four numbers stored in its box. -/
theorem store4 {W : World} {g : Nat} {v0 v1 v2 v3 : Value} {t : TypeId} (h : W.heap[g]? = some (.cells #[.int .i64 0, .int .i64 0, .int .i64 0, .int .i64 0] t (0, 0))) :
    ((((W.setCell ⟨g, 0, none⟩ v0).setCell ⟨g, 1, none⟩ v1).setCell ⟨g, 2, none⟩ v2).setCell ⟨g, 3, none⟩ v3).heap[g]? = some (.cells #[v0, v1, v2, v3] t (0, 0)) :=
  setBlk (setBlk (setBlk (setBlk h 0 v0 rfl) 1 v1 rfl) 2 v2 rfl) 3 v3 rfl
theorem store4ne {W : World} {g g' : Nat} {v0 v1 v2 v3 : Value} {x : Option Obj} (hn : g' ≠ g) (h : W.heap[g]? = x) :
    ((((W.setCell ⟨g', 0, none⟩ v0).setCell ⟨g', 1, none⟩ v1).setCell ⟨g', 2, none⟩ v2).setCell ⟨g', 3, none⟩ v3).heap[g]? = x := by
  have key : ∀ (u : World) (i : Nat) (v : Value), (u.setCell ⟨g', i, none⟩ v).heap[g]? = u.heap[g]? := fun u i v => heap_setCell_other u ⟨g', i, none⟩ g v (fun e => hn e.symm)
  rw [key, key, key, key]; exact h
theorem store4below {W w : World} {g' : Nat} {v0 v1 v2 v3 : Value} (hg : w.heap.size ≤ g') (h : Below w.heap.size w W) :
    Below w.heap.size w ((((W.setCell ⟨g', 0, none⟩ v0).setCell ⟨g', 1, none⟩ v1).setCell ⟨g', 2, none⟩ v2).setCell ⟨g', 3, none⟩ v3) := Below.st (Below.st (Below.st (Below.st h _ _ _ hg) _ _ _ hg) _ _ _ hg) _ _ _ hg

set_option maxRecDepth 100000 in
set_option maxHeartbeats 16000000 in
theorem walk (a b k l r t m x y : Int) (w : World) (_ : (Lit.int .i64 a).wf = true) (_ : (Lit.int .i64 b).wf = true) (_ : (Lit.int .i64 k).wf = true) (_ : (Lit.int .i64 l).wf = true) (hr : (Lit.int .i64 r).wf = true) (ht : (Lit.int .i64 t).wf = true) (_ : (Lit.int .i64 m).wf = true) (_ : (Lit.int .i64 x).wf = true) (_ : (Lit.int .i64 y).wf = true) :
    Calls Try.prog 6 #[.agg #[.int .i64 a, .int .i64 b, .int .i64 k, .int .i64 l], .agg #[.int .i64 r, .int .i64 t, .int .i64 m, .int .i64 x, .int .i64 y]] w fun e w' => e = .returned (.bool true) ∧ Below w.heap.size w w' := by
  have cal := cell_al
  have fal := froz_al
  have slo := set_lo
  have shi := set_hi
  have sne := set_ne
  have n2 : ∀ n : Nat, n < n + 1 + 1 := fun n => by omega
  have n3 : ∀ n : Nat, n < n + 1 + 1 + 1 := fun n => by omega
  have d2 : ∀ n : Nat, ¬ n + 1 + 1 = n := fun n => by omega
  have d3 : ∀ n : Nat, ¬ n + 1 + 1 + 1 = n := fun n => by omega
  have HP := Lib.hid (oldBlk (.cells #[.int .i64 r, .int .i64 t, .int .i64 m, .int .i64 x, .int .i64 y] 59) (newBlk w #[.int .i64 a, .int .i64 b, .int .i64 k, .int .i64 l] 25 w.heap.size rfl))
  have HV := Lib.hid (newBlk (w.alloc (.cells #[.int .i64 a, .int .i64 b, .int .i64 k, .int .i64 l] 25)) #[.int .i64 r, .int .i64 t, .int .i64 m, .int .i64 x, .int .i64 y] 59 (w.heap.size + 1) (by simp))
  have B0 := Below.al (Below.al (Below.refl w.heap.size w) (.cells #[.int .i64 a, .int .i64 b, .int .i64 k, .int .i64 l] 25)) (.cells #[.int .i64 r, .int .i64 t, .int .i64 m, .int .i64 x, .int .i64 y] 59)
  go_enter Try.func6, Try.ntmps6
  go_upto_region 1 with fail
  go_cut [5, 6] (fun p q wx => ∃ g h : Nat, p = .pointer (some ⟨g, 0, none⟩) ∧ q = .pointer (some ⟨h, 0, none⟩) ∧ (w.heap.size ≤ g ∧ w.heap.size ≤ h) ∧ wx.heap[g]? = some (.cells #[.int .i64 (a), .int .i64 (b), .int .i64 (k), .int .i64 (M.rcLast (M.rcCode a b k l r t m) k l r t)] 30 (0, 0)) ∧ wx.heap[h]? = some (.cells #[.int .i64 (M.rcCode a b k l r t m), .int .i64 (M.rcRes (M.rcCode a b k l r t m) k r), .int .i64 (M.rcKey (M.rcCode a b k l r t m) k r t), .int .i64 (M.rcTok (M.rcCode a b k l r t m) k l r)] 48 (0, 0)) ∧ wx.heap[w.heap.size]? = some (.cells #[.int .i64 a, .int .i64 b, .int .i64 k, .int .i64 l] 25 (0, 0)) ∧ wx.heap[(w.heap.size + 1)]? = some (.cells #[.int .i64 r, .int .i64 t, .int .i64 m, .int .i64 x, .int .i64 y] 59 (0, 0)) ∧ Below w.heap.size w wx)
  case first =>
    have xp0 := cell_of HP.out 0
    have xp1 := cell_of HP.out 1
    have xp2 := cell_of HP.out 2
    have xp3 := cell_of HP.out 3
    have xv0 := cell_of HV.out 0
    have xv1 := cell_of HV.out 1
    have xv2 := cell_of HV.out 2
    have xv3 := cell_of HV.out 3
    have xv4 := cell_of HV.out 4
    simp only [List.getElem?_toArray, List.getElem?_cons_zero, List.getElem?_cons_succ] at xp0 xp1 xp2 xp3 xv0 xv1 xv2 xv3 xv4
    go_region_held3 (fun w' => w'.cell? ⟨w.heap.size, 0, none⟩ = some (.int .i64 a) ∧ w'.cell? ⟨w.heap.size, 1, none⟩ = some (.int .i64 b) ∧ w'.cell? ⟨w.heap.size, 2, none⟩ = some (.int .i64 k) ∧ w'.cell? ⟨w.heap.size, 3, none⟩ = some (.int .i64 l) ∧ w'.cell? ⟨w.heap.size + 1, 0, none⟩ = some (.int .i64 r) ∧ w'.cell? ⟨w.heap.size + 1, 1, none⟩ = some (.int .i64 t) ∧ w'.cell? ⟨w.heap.size + 1, 2, none⟩ = some (.int .i64 m) ∧ w'.cell? ⟨w.heap.size + 1, 3, none⟩ = some (.int .i64 x) ∧ w'.cell? ⟨w.heap.size + 1, 4, none⟩ = some (.int .i64 y)) ((refine ⟨?_, ?_, ?_, ?_, ?_, ?_, ?_, ?_, ?_⟩) <;> (first | (with_reducible assumption) | ((refine Eq.trans (cell_of (cs := #[.int .i64 a, .int .i64 b, .int .i64 k, .int .i64 l]) (t := 25) ?_ _) ?_); (rotate_left); rfl; (repeat (first | (with_reducible exact HP.out) | (with_reducible exact HV.out) | ((with_reducible refine newBlk _ _ _ _ ?_); (simp; done)) | (with_reducible refine store4 ?_) | ((with_reducible refine store4ne ?_ ?_); (first | omega | (simp; omega))) | (with_reducible refine cells_of_below ba ?_) | (with_reducible refine cells_of_below bb ?_) | (with_reducible refine cells_of_below bc ?_) | (with_reducible refine drewBlk ?_) | (with_reducible refine oldBlk _ ?_))); done) | ((refine Eq.trans (cell_of (cs := #[.int .i64 r, .int .i64 t, .int .i64 m, .int .i64 x, .int .i64 y]) (t := 59) ?_ _) ?_); (rotate_left); rfl; (repeat (first | (with_reducible exact HP.out) | (with_reducible exact HV.out) | ((with_reducible refine newBlk _ _ _ _ ?_); (simp; done)) | (with_reducible refine store4 ?_) | ((with_reducible refine store4ne ?_ ?_); (first | omega | (simp; omega))) | (with_reducible refine cells_of_below ba ?_) | (with_reducible refine cells_of_below bb ?_) | (with_reducible refine cells_of_below bc ?_) | (with_reducible refine drewBlk ?_) | (with_reducible refine oldBlk _ ?_))); done))) (first
      | (go_at_call 9; (with_reducible refine (laws_toUSIM_below a b k l _).mono ?_); rintro e ua ⟨rfl, ba⟩; obtain ⟨rca, rfa⟩ := bcell ba; have sa := ba.size; (try simp only [drew_sz] at sa); (try simp only [alloc_sz] at sa); (try have l0a : w.heap.size < ua.heap.size := by omega); (try have l1a : w.heap.size + 1 < ua.heap.size := by omega); (try have l2a : w.heap.size + 1 + 1 < ua.heap.size := by omega); (try have l3a : w.heap.size + 1 + 1 + 1 < ua.heap.size := by omega); (try have l4a : ub.heap.size < ua.heap.size := by omega); (try have l5a : uc.heap.size < ua.heap.size := by omega); (try have l6a : ub.heap.size + 1 < ua.heap.size := by omega); (try have l7a : uc.heap.size + 1 < ua.heap.size := by omega))
      | (go_at_call 30; (with_reducible refine (laws_toAuthVector_below r t m x y _).mono ?_); rintro e ub ⟨rfl, bb⟩; obtain ⟨rcb, rfb⟩ := bcell bb; have sb := bb.size; (try simp only [drew_sz] at sb); (try simp only [alloc_sz] at sb); (try have l0b : w.heap.size < ub.heap.size := by omega); (try have l1b : w.heap.size + 1 < ub.heap.size := by omega); (try have l2b : w.heap.size + 1 + 1 < ub.heap.size := by omega); (try have l3b : w.heap.size + 1 + 1 + 1 < ub.heap.size := by omega); (try have l4b : ua.heap.size < ub.heap.size := by omega); (try have l5b : uc.heap.size < ub.heap.size := by omega); (try have l6b : ua.heap.size + 1 < ub.heap.size := by omega); (try have l7b : uc.heap.size + 1 < ub.heap.size := by omega))
      | (go_at_call 29; (with_reducible refine (spec_RespondToChallenge a b k l r t m x y _ hr ht).mono ?_); rintro e uc ⟨rfl, bc⟩; obtain ⟨rcc, rfc⟩ := bcell bc; have sc := bc.size; (try simp only [drew_sz] at sc); (try simp only [alloc_sz] at sc); (try have l0c : w.heap.size < uc.heap.size := by omega); (try have l1c : w.heap.size + 1 < uc.heap.size := by omega); (try have l2c : w.heap.size + 1 + 1 < uc.heap.size := by omega); (try have l3c : w.heap.size + 1 + 1 + 1 < uc.heap.size := by omega); (try have l4c : ua.heap.size < uc.heap.size := by omega); (try have l5c : ub.heap.size < uc.heap.size := by omega); (try have l6c : ua.heap.size + 1 < uc.heap.size := by omega); (try have l7c : ub.heap.size + 1 < uc.heap.size := by omega)))
    all_goals
      go_wp2_with fail
      go_meet
      refine ⟨_, _, rfl, rfl, ⟨?_, ?_⟩, ?_, ?_, ?_, ?_, ?_⟩
      · first | omega | (simp; omega)
      · first | omega | (simp; omega)
      · (repeat (first | (with_reducible exact HP.out) | (with_reducible exact HV.out) | ((with_reducible refine newBlk _ _ _ _ ?_); (simp; done)) | (with_reducible refine store4 ?_) | ((with_reducible refine store4ne ?_ ?_); (first | omega | (simp; omega))) | (with_reducible refine cells_of_below ba ?_) | (with_reducible refine cells_of_below bb ?_) | (with_reducible refine cells_of_below bc ?_) | (with_reducible refine drewBlk ?_) | (with_reducible refine oldBlk _ ?_)))
      · (repeat (first | (with_reducible exact HP.out) | (with_reducible exact HV.out) | ((with_reducible refine newBlk _ _ _ _ ?_); (simp; done)) | (with_reducible refine store4 ?_) | ((with_reducible refine store4ne ?_ ?_); (first | omega | (simp; omega))) | (with_reducible refine cells_of_below ba ?_) | (with_reducible refine cells_of_below bb ?_) | (with_reducible refine cells_of_below bc ?_) | (with_reducible refine drewBlk ?_) | (with_reducible refine oldBlk _ ?_)))
      · (repeat (first | (with_reducible exact HP.out) | (with_reducible exact HV.out) | ((with_reducible refine newBlk _ _ _ _ ?_); (simp; done)) | (with_reducible refine store4 ?_) | ((with_reducible refine store4ne ?_ ?_); (first | omega | (simp; omega))) | (with_reducible refine cells_of_below ba ?_) | (with_reducible refine cells_of_below bb ?_) | (with_reducible refine cells_of_below bc ?_) | (with_reducible refine drewBlk ?_) | (with_reducible refine oldBlk _ ?_)))
      · (repeat (first | (with_reducible exact HP.out) | (with_reducible exact HV.out) | ((with_reducible refine newBlk _ _ _ _ ?_); (simp; done)) | (with_reducible refine store4 ?_) | ((with_reducible refine store4ne ?_ ?_); (first | omega | (simp; omega))) | (with_reducible refine cells_of_below ba ?_) | (with_reducible refine cells_of_below bb ?_) | (with_reducible refine cells_of_below bc ?_) | (with_reducible refine drewBlk ?_) | (with_reducible refine oldBlk _ ?_)))
      · (repeat (first | (with_reducible exact B0) | ((with_reducible refine store4below ?_ ?_); (first | omega | (simp; omega))) | (with_reducible refine Below.drew ?_) | (with_reducible refine Below.al ?_ _) | (with_reducible refine Below.next ?_ ba) | (with_reducible refine Below.next ?_ bb) | (with_reducible refine Below.next ?_ bc)))
  case rest =>
    clear HP HV B0
    obtain ⟨gA, gB, rfl, rfl, ⟨lA, lB⟩, hA, hB, hP, hV, B1⟩ := hcut
    have kA := (Array.getElem?_eq_some_iff.1 hA).1
    have kB := (Array.getElem?_eq_some_iff.1 hB).1
    have kV := (Array.getElem?_eq_some_iff.1 hV).1
    have HA := Lib.hid hA
    have HB := Lib.hid hB
    have HP := Lib.hid hP
    have HV := Lib.hid hV
    clear hA hB hP hV
    go_upto_region 2 with fail
    go_cut [7, 8] (fun p q wx => ∃ g h : Nat, p = .pointer (some ⟨g, 0, none⟩) ∧ q = .pointer (some ⟨h, 0, none⟩) ∧ (w.heap.size ≤ g ∧ w.heap.size ≤ h) ∧ wx.heap[g]? = some (.cells #[.int .i64 (a), .int .i64 (b), .int .i64 (k), .int .i64 (M.rcLast (M.rcCode a b k l r t m) k l r t)] 30 (0, 0)) ∧ wx.heap[h]? = some (.cells #[.int .i64 (M.rcCode a b k l r t m), .int .i64 (M.rcRes (M.rcCode a b k l r t m) k r), .int .i64 (M.rcKey (M.rcCode a b k l r t m) k r t), .int .i64 (M.rcTok (M.rcCode a b k l r t m) k l r)] 48 (0, 0)) ∧ wx.heap[w.heap.size]? = some (.cells #[.int .i64 a, .int .i64 b, .int .i64 k, .int .i64 l] 25 (0, 0)) ∧ wx.heap[(w.heap.size + 1)]? = some (.cells #[.int .i64 r, .int .i64 t, .int .i64 m, .int .i64 x, .int .i64 y] 59 (0, 0)) ∧ Below w.heap.size w wx ∧ wx.heap[gA]? = some (.cells #[.int .i64 (a), .int .i64 (b), .int .i64 (k), .int .i64 (M.rcLast (M.rcCode a b k l r t m) k l r t)] 30 (0, 0)) ∧ wx.heap[gB]? = some (.cells #[.int .i64 (M.rcCode a b k l r t m), .int .i64 (M.rcRes (M.rcCode a b k l r t m) k r), .int .i64 (M.rcKey (M.rcCode a b k l r t m) k r t), .int .i64 (M.rcTok (M.rcCode a b k l r t m) k l r)] 48 (0, 0)))
    case first =>
      have xp0 := cell_of HP.out 0
      have xp1 := cell_of HP.out 1
      have xp2 := cell_of HP.out 2
      have xp3 := cell_of HP.out 3
      have xv0 := cell_of HV.out 0
      have xv1 := cell_of HV.out 1
      have xv2 := cell_of HV.out 2
      have xv3 := cell_of HV.out 3
      have xv4 := cell_of HV.out 4
      simp only [List.getElem?_toArray, List.getElem?_cons_zero, List.getElem?_cons_succ] at xp0 xp1 xp2 xp3 xv0 xv1 xv2 xv3 xv4
      go_region_held3 (fun w' => w'.cell? ⟨w.heap.size, 0, none⟩ = some (.int .i64 a) ∧ w'.cell? ⟨w.heap.size, 1, none⟩ = some (.int .i64 b) ∧ w'.cell? ⟨w.heap.size, 2, none⟩ = some (.int .i64 k) ∧ w'.cell? ⟨w.heap.size, 3, none⟩ = some (.int .i64 l) ∧ w'.cell? ⟨w.heap.size + 1, 0, none⟩ = some (.int .i64 r) ∧ w'.cell? ⟨w.heap.size + 1, 1, none⟩ = some (.int .i64 t) ∧ w'.cell? ⟨w.heap.size + 1, 2, none⟩ = some (.int .i64 m) ∧ w'.cell? ⟨w.heap.size + 1, 3, none⟩ = some (.int .i64 x) ∧ w'.cell? ⟨w.heap.size + 1, 4, none⟩ = some (.int .i64 y)) ((refine ⟨?_, ?_, ?_, ?_, ?_, ?_, ?_, ?_, ?_⟩) <;> (first | (with_reducible assumption) | ((refine Eq.trans (cell_of (cs := #[.int .i64 a, .int .i64 b, .int .i64 k, .int .i64 l]) (t := 25) ?_ _) ?_); (rotate_left); rfl; (repeat (first | (with_reducible exact HP.out) | (with_reducible exact HV.out) | (with_reducible exact HA.out) | (with_reducible exact HB.out) | ((with_reducible refine newBlk _ _ _ _ ?_); (simp; done)) | (with_reducible refine store4 ?_) | ((with_reducible refine store4ne ?_ ?_); (first | omega | (simp; omega))) | (with_reducible refine cells_of_below bd ?_) | (with_reducible refine cells_of_below bf ?_) | (with_reducible refine cells_of_below bh ?_) | (with_reducible refine drewBlk ?_) | (with_reducible refine oldBlk _ ?_))); done) | ((refine Eq.trans (cell_of (cs := #[.int .i64 r, .int .i64 t, .int .i64 m, .int .i64 x, .int .i64 y]) (t := 59) ?_ _) ?_); (rotate_left); rfl; (repeat (first | (with_reducible exact HP.out) | (with_reducible exact HV.out) | (with_reducible exact HA.out) | (with_reducible exact HB.out) | ((with_reducible refine newBlk _ _ _ _ ?_); (simp; done)) | (with_reducible refine store4 ?_) | ((with_reducible refine store4ne ?_ ?_); (first | omega | (simp; omega))) | (with_reducible refine cells_of_below bd ?_) | (with_reducible refine cells_of_below bf ?_) | (with_reducible refine cells_of_below bh ?_) | (with_reducible refine drewBlk ?_) | (with_reducible refine oldBlk _ ?_))); done))) (first
        | (go_at_call 9; (with_reducible refine (laws_toUSIM_below a b k l _).mono ?_); rintro e ud ⟨rfl, bd⟩; obtain ⟨rcd, rfd⟩ := bcell bd; have sd := bd.size; (try simp only [drew_sz] at sd); (try simp only [alloc_sz] at sd); (try have l0d : w.heap.size < ud.heap.size := by omega); (try have l1d : w.heap.size + 1 < ud.heap.size := by omega); (try have l2d : wc.heap.size < ud.heap.size := by omega); (try have l3d : wc.heap.size + 1 < ud.heap.size := by omega); (try have l4d : uf.heap.size < ud.heap.size := by omega); (try have l5d : uh.heap.size < ud.heap.size := by omega); (try have l6d : uf.heap.size + 1 < ud.heap.size := by omega); (try have l7d : uh.heap.size + 1 < ud.heap.size := by omega))
        | (go_at_call 30; (with_reducible refine (laws_toAuthVector_below r t m x y _).mono ?_); rintro e uf ⟨rfl, bf⟩; obtain ⟨rcf, rff⟩ := bcell bf; have sf := bf.size; (try simp only [drew_sz] at sf); (try simp only [alloc_sz] at sf); (try have l0f : w.heap.size < uf.heap.size := by omega); (try have l1f : w.heap.size + 1 < uf.heap.size := by omega); (try have l2f : wc.heap.size < uf.heap.size := by omega); (try have l3f : wc.heap.size + 1 < uf.heap.size := by omega); (try have l4f : ud.heap.size < uf.heap.size := by omega); (try have l5f : uh.heap.size < uf.heap.size := by omega); (try have l6f : ud.heap.size + 1 < uf.heap.size := by omega); (try have l7f : uh.heap.size + 1 < uf.heap.size := by omega))
        | (go_at_call 17; (with_reducible refine (impl_RespondToChallenge a b k l r t m x y _ hr ht).mono ?_); rintro e uh ⟨rfl, bh⟩; obtain ⟨rch, rfh⟩ := bcell bh; have sh := bh.size; (try simp only [drew_sz] at sh); (try simp only [alloc_sz] at sh); (try have l0h : w.heap.size < uh.heap.size := by omega); (try have l1h : w.heap.size + 1 < uh.heap.size := by omega); (try have l2h : wc.heap.size < uh.heap.size := by omega); (try have l3h : wc.heap.size + 1 < uh.heap.size := by omega); (try have l4h : ud.heap.size < uh.heap.size := by omega); (try have l5h : uf.heap.size < uh.heap.size := by omega); (try have l6h : ud.heap.size + 1 < uh.heap.size := by omega); (try have l7h : uf.heap.size + 1 < uh.heap.size := by omega)))
      all_goals
        go_wp2_with fail
        go_meet
        refine ⟨_, _, rfl, rfl, ⟨?_, ?_⟩, ?_, ?_, ?_, ?_, ?_, ?_, ?_⟩
        · first | omega | (simp; omega)
        · first | omega | (simp; omega)
        · (repeat (first | (with_reducible exact HP.out) | (with_reducible exact HV.out) | (with_reducible exact HA.out) | (with_reducible exact HB.out) | ((with_reducible refine newBlk _ _ _ _ ?_); (simp; done)) | (with_reducible refine store4 ?_) | ((with_reducible refine store4ne ?_ ?_); (first | omega | (simp; omega))) | (with_reducible refine cells_of_below bd ?_) | (with_reducible refine cells_of_below bf ?_) | (with_reducible refine cells_of_below bh ?_) | (with_reducible refine drewBlk ?_) | (with_reducible refine oldBlk _ ?_)))
        · (repeat (first | (with_reducible exact HP.out) | (with_reducible exact HV.out) | (with_reducible exact HA.out) | (with_reducible exact HB.out) | ((with_reducible refine newBlk _ _ _ _ ?_); (simp; done)) | (with_reducible refine store4 ?_) | ((with_reducible refine store4ne ?_ ?_); (first | omega | (simp; omega))) | (with_reducible refine cells_of_below bd ?_) | (with_reducible refine cells_of_below bf ?_) | (with_reducible refine cells_of_below bh ?_) | (with_reducible refine drewBlk ?_) | (with_reducible refine oldBlk _ ?_)))
        · (repeat (first | (with_reducible exact HP.out) | (with_reducible exact HV.out) | (with_reducible exact HA.out) | (with_reducible exact HB.out) | ((with_reducible refine newBlk _ _ _ _ ?_); (simp; done)) | (with_reducible refine store4 ?_) | ((with_reducible refine store4ne ?_ ?_); (first | omega | (simp; omega))) | (with_reducible refine cells_of_below bd ?_) | (with_reducible refine cells_of_below bf ?_) | (with_reducible refine cells_of_below bh ?_) | (with_reducible refine drewBlk ?_) | (with_reducible refine oldBlk _ ?_)))
        · (repeat (first | (with_reducible exact HP.out) | (with_reducible exact HV.out) | (with_reducible exact HA.out) | (with_reducible exact HB.out) | ((with_reducible refine newBlk _ _ _ _ ?_); (simp; done)) | (with_reducible refine store4 ?_) | ((with_reducible refine store4ne ?_ ?_); (first | omega | (simp; omega))) | (with_reducible refine cells_of_below bd ?_) | (with_reducible refine cells_of_below bf ?_) | (with_reducible refine cells_of_below bh ?_) | (with_reducible refine drewBlk ?_) | (with_reducible refine oldBlk _ ?_)))
        · (repeat (first | (with_reducible exact B1) | ((with_reducible refine store4below ?_ ?_); (first | omega | (simp; omega))) | (with_reducible refine Below.drew ?_) | (with_reducible refine Below.al ?_ _) | (with_reducible refine Below.next ?_ bd) | (with_reducible refine Below.next ?_ bf) | (with_reducible refine Below.next ?_ bh)))
        · (repeat (first | (with_reducible exact HP.out) | (with_reducible exact HV.out) | (with_reducible exact HA.out) | (with_reducible exact HB.out) | ((with_reducible refine newBlk _ _ _ _ ?_); (simp; done)) | (with_reducible refine store4 ?_) | ((with_reducible refine store4ne ?_ ?_); (first | omega | (simp; omega))) | (with_reducible refine cells_of_below bd ?_) | (with_reducible refine cells_of_below bf ?_) | (with_reducible refine cells_of_below bh ?_) | (with_reducible refine drewBlk ?_) | (with_reducible refine oldBlk _ ?_)))
        · (repeat (first | (with_reducible exact HP.out) | (with_reducible exact HV.out) | (with_reducible exact HA.out) | (with_reducible exact HB.out) | ((with_reducible refine newBlk _ _ _ _ ?_); (simp; done)) | (with_reducible refine store4 ?_) | ((with_reducible refine store4ne ?_ ?_); (first | omega | (simp; omega))) | (with_reducible refine cells_of_below bd ?_) | (with_reducible refine cells_of_below bf ?_) | (with_reducible refine cells_of_below bh ?_) | (with_reducible refine drewBlk ?_) | (with_reducible refine oldBlk _ ?_)))
    case rest =>
      clear HP HV HA HB B1 lA lB kA kB kV cal fal slo shi sne n2 n3 d2 d3
      obtain ⟨gC, gD, rfl, rfl, -, hC, hD, -, -, B2, hA, hB⟩ := hcut
      have HA := Lib.hid hA
      have HB := Lib.hid hB
      have HC := Lib.hid hC
      have HD := Lib.hid hD
      clear hA hB hC hD
      generalize M.rcLast (M.rcCode a b k l r t m) k l r t = y3 at *
      generalize M.rcRes (M.rcCode a b k l r t m) k r = y4 at *
      generalize M.rcKey (M.rcCode a b k l r t m) k r t = y5 at *
      generalize M.rcTok (M.rcCode a b k l r t m) k l r = y6 at *
      generalize M.rcCode a b k l r t m = y7 at *
      have ca0 := cell_of HA.out 0
      have ca1 := cell_of HA.out 1
      have ca2 := cell_of HA.out 2
      have ca3 := cell_of HA.out 3
      simp only [List.getElem?_toArray, List.getElem?_cons_zero, List.getElem?_cons_succ] at ca0 ca1 ca2 ca3
      have cc0 := cell_of HC.out 0
      have cc1 := cell_of HC.out 1
      have cc2 := cell_of HC.out 2
      have cc3 := cell_of HC.out 3
      simp only [List.getElem?_toArray, List.getElem?_cons_zero, List.getElem?_cons_succ] at cc0 cc1 cc2 cc3
      go_wp2_with fail
      refine (laws_eqUSIM_same _ _ _ _ _).mono ?_
      rintro e u3 ⟨rfl, b3⟩
      replace HB := Lib.hid (cells_of_below b3 HB.out)
      replace HD := Lib.hid (cells_of_below b3 HD.out)
      replace B2 := Below.next B2 b3
      clear b3 HA HC ca0 cc0 ca1 cc1 ca2 cc2 ca3 cc3
      have cb0 := cell_of HB.out 0
      have cb1 := cell_of HB.out 1
      have cb2 := cell_of HB.out 2
      have cb3 := cell_of HB.out 3
      simp only [List.getElem?_toArray, List.getElem?_cons_zero, List.getElem?_cons_succ] at cb0 cb1 cb2 cb3
      have cd0 := cell_of HD.out 0
      have cd1 := cell_of HD.out 1
      have cd2 := cell_of HD.out 2
      have cd3 := cell_of HD.out 3
      simp only [List.getElem?_toArray, List.getElem?_cons_zero, List.getElem?_cons_succ] at cd0 cd1 cd2 cd3
      go_wp2_with fail
      refine (laws_eqAuthResponse_same _ _ _ _ _).mono ?_
      rintro e u4 ⟨rfl, b4⟩
      replace B2 := Below.next B2 b4
      clear b4 HB HD cb0 cd0 cb1 cd1 cb2 cd2 cb3 cd3
      go_wp2_with fail
      go_ret
      exact ⟨rfl, B2⟩
  

/-! The row: the frame round the walk. -/
theorem own : ownKnob Try.prog.godebug = none := by kernel_rfl
theorem laidOut : laidOutB Try.prog = true := by kernel_rfl
set_option maxRecDepth 100000 in
theorem lifted (os : Os) (started : os.Started) (H : Type) (enc : TypeId × Value → H) :
    ReturnsInHanded {} Try.checked os 6 .any (Rows.fnExactRespondToChallengeSpec.pre6 enc Try.prog Try.f6 Rows.fnExactRespondToChallengeRow.domain false) (Rows.fnExactRespondToChallengeSpec.post enc Try.prog Try.f6 false true false false) := by
  refine returnsInHanded_of_change (C := Try.checked) own started (by kernel_rfl) Try.func6
    (ChangeSpec.witness6 (enc := enc) (C := Try.checked) false ⟨#[], #[.agg #[.int .i64 0, .int .i64 0, .int .i64 0, .int .i64 0], .agg #[.int .i64 0, .int .i64 0, .int .i64 0, .int .i64 0, .int .i64 0]], []⟩ 8 (by kernel_rfl) (by kernel_rfl) (by kernel_rfl) (by kernel_rfl)) ?_
  intro W base args ds gs before hval0 hW hcnd _
  have hval : ∀ (j : Nat) t v, Try.f6.params[j]? = some t → args[j]? = some v → Value.okWide Try.prog W .any base t v := hval0
  have hW' := hW
  obtain ⟨p, q, hA0, hV, rfl, hfz, hnd⟩ := hW
  have hA : DataW.TrodAll enc Try.prog W 0 (fun _ => true) true Try.f6.params.toList args.toList ds p := hA0
  rw [Try.params6] at hA hval
  obtain ⟨v0, vs0, d0, ds0, p0, q0, hargs, rfl, rfl, h0, rr0⟩ := trodAll_cons hA
  obtain ⟨v1, vs1, d1, ds1, p1, q1, rfl, rfl, rfl, h1, rr1⟩ := trodAll_cons rr0
  obtain ⟨rfl, rfl, rfl⟩ := trodAll_nil rr1
  obtain rfl : args = #[v0, v1] := by cases args; simp_all
  obtain ⟨rfl, rfl⟩ := trodVars_none hV
  have k0 := h0
  have lt0 : ∀ x ∈ p0, x.block < W.heap.size := by obtain ⟨m, hm⟩ := k0; exact DataW.trod_lt m _ _ _ hm
  obtain ⟨a0, b0, c0, x0, rfl, wa0, wb0, wc0, wx0⟩ := open_nums22 Try.underlying25 Try.underlying23 (by kernel_rfl) (by kernel_rfl) (by kernel_rfl) (by kernel_rfl) (by kernel_rfl) rfl rfl rfl Try.underlying3 Try.underlying3 Try.underlying3 Try.underlying3 (hval 0 25 v0 rfl rfl) h0
  have k1 := h1
  have lt1 : ∀ x ∈ p1, x.block < W.heap.size := by obtain ⟨m, hm⟩ := k1; exact DataW.trod_lt m _ _ _ hm
  obtain ⟨a1, b1, c1, x1, y1, rfl, wa1, wb1, wc1, wx1, wy1⟩ := open_nums5 Try.underlying59 (by kernel_rfl) (by kernel_rfl) Try.underlying3 Try.underlying3 Try.underlying3 Try.underlying3 Try.underlying3 (hval 1 59 v1 rfl rfl) h1
  clear hA0 hval0
  refine (walk a0 b0 c0 x0 a1 b1 c1 x1 y1 W wa0 wb0 wc0 wx0 wa1 wb1 wc1 wx1 wy1).mono fun e W' ⟨he, bel⟩ => ?_
  subst he
  exact ⟨_, rfl, _, _, _, [], _, [], hW', trodAll_mk1 (shut_bool Try.underlying4 _), (trodAll_cons_mk (Below.trod laidOut (by kernel_rfl) (of_decide_eq_true (by kernel_rfl)) k0 bel lt0) (trodAll_cons_mk (Below.trod laidOut (by kernel_rfl) (of_decide_eq_true (by kernel_rfl)) k1 bel lt1) trodAll_mk0)), rfl, bel.frame _, fun h => by cases h⟩
theorem over : Rows.fnExactRespondToChallengeRow.holds Try.pinned (OpenSpec.ofChange Rows.fnExactRespondToChallengeSpec) :=
  OpenClaim.holds_of_wide 6 Try.f6 rfl rfl rfl rfl rfl rfl rfl ⟨rfl, rfl, rfl, rfl, rfl⟩ rfl rfl rfl rfl rfl (by kernel_rfl) Try.func6 (by kernel_rfl)
    (of_decide_eq_true (by kernel_rfl)) (by unfold Func.isWrapper; first | (rw [if_pos (by decide +kernel)]; kernel_rfl) | (rw [if_neg (by decide +kernel)]; exact ⟨rfl, rfl⟩))
    (fun os started H enc _ => lifted os started H enc)
/-- THE STATEMENT -/
theorem proved : Rows.FnExactRespondToChallengeSaid := over
#print axioms proved
end Go.Proofs.Ytfenmicakmjelaa.lawFnExactRespondToChallenge
