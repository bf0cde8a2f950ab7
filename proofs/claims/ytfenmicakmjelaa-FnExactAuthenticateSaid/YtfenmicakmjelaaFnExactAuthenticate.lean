/-
  For all cards, records and numbers Authenticate of the program gives the card, the record and the key of the reference. No condition.
-/
import Derived.Test.YtfenmicakmjelaaRows
import Derived.Test.YtfenmicakmjelaaAuS
import Derived.Deep.RegionHeld3
import Derived.Deep.DeepCutAuto
namespace Go.Proofs.Ytfenmicakmjelaa.lawFnExactAuthenticate
open Go.Proofs.Ytfenmicakmjelaa
open Go.ChangeShapes Go.WideShapes Go.ChangeAt Go.RowKit
open Go.ChangeMaps (open_string shut_string)
set_option linter.unusedVariables false

theorem au_both (a b k l a' b' k' s r : Int) (hk : (Lit.int .i64 k').wf = true) (hr : (Lit.int .i64 r).wf = true) : ∃ lf sf kf : Int,
    (∀ w : World, Calls Try.prog 8 #[.agg #[.int .i64 a, .int .i64 b, .int .i64 k, .int .i64 l], .agg #[.int .i64 a', .int .i64 b', .int .i64 k', .int .i64 s], .int .i64 r] w fun e w' => e = .returned (.tuple #[.agg #[.int .i64 a, .int .i64 b, .int .i64 k, .int .i64 lf], .agg #[.int .i64 a', .int .i64 b', .int .i64 k', .int .i64 sf], .int .i64 kf]) ∧ Below w.heap.size w w') ∧
    (∀ w : World, Calls Try.prog 11 #[.agg #[.int .i64 a, .int .i64 b, .int .i64 k, .int .i64 l], .agg #[.int .i64 a', .int .i64 b', .int .i64 k', .int .i64 s], .int .i64 r] w fun e w' => e = .returned (.tuple #[.agg #[.int .i64 a, .int .i64 b, .int .i64 k, .int .i64 lf], .agg #[.int .i64 a', .int .i64 b', .int .i64 k', .int .i64 sf], .int .i64 kf]) ∧ Below w.heap.size w w') := by
  obtain ⟨s1, v0, v1, v2, v3, v4, c1, l1, e1, y1, t1, h1⟩ : ∃ s1 v0 v1 v2 v3 v4 c1 l1 e1 y1 t1, Try1 a b k l a' b' k' s r s1 v0 v1 v2 v3 v4 c1 l1 e1 y1 t1 := ⟨_, _, _, _, _, _, _, _, _, _, _, rfl, rfl, rfl, rfl, rfl, rfl, rfl, rfl, rfl, rfl, rfl⟩
  obtain ⟨s2, hs2⟩ : ∃ s2, s2 = M.rsSeq k' s1 r t1 := ⟨_, rfl⟩
  obtain ⟨s3, p0, p1, p2, p3, p4, c2, l2, e2, y2, t2, h2⟩ : ∃ s3 p0 p1 p2 p3 p4 c2 l2 e2 y2 t2, Try1 a b k l1 a' b' k' s2 (wrap64 (r + 1)) s3 p0 p1 p2 p3 p4 c2 l2 e2 y2 t2 := ⟨_, _, _, _, _, _, _, _, _, _, _, rfl, rfl, rfl, rfl, rfl, rfl, rfl, rfl, rfl, rfl, rfl⟩
  obtain ⟨lf, sf, kf, hf⟩ : ∃ lf sf kf : Int, if c1 = 2 ∨ c1 = 3 then lf = l2 ∧ sf = s3 ∧ kf = endKey c2 e2 p3 y2 else lf = l1 ∧ sf = s1 ∧ kf = endKey c1 e1 v3 y1 := by
    by_cases h : c1 = 2 ∨ c1 = 3
    · exact ⟨_, _, _, by rw [if_pos h]; exact ⟨rfl, rfl, rfl⟩⟩
    · exact ⟨_, _, _, by rw [if_neg h]; exact ⟨rfl, rfl, rfl⟩⟩
  exact ⟨lf, sf, kf, fun w => spec_Authenticate a b k l a' b' k' s r w hk hr _ _ _ _ _ _ _ _ _ _ _ _ _ _ _ _ _ _ _ _ _ _ _ _ _ _ h1 hs2 h2 hf, fun w => impl_Authenticate a b k l a' b' k' s r w hk hr _ _ _ _ _ _ _ _ _ _ _ _ _ _ _ _ _ _ _ _ _ _ _ _ _ _ h1 hs2 h2 hf⟩

set_option maxRecDepth 100000 in
set_option maxHeartbeats 16000000 in
theorem walk (a b k l a' b' k' s r : Int) (w : World) (_ : (Lit.int .i64 a).wf = true) (_ : (Lit.int .i64 b).wf = true) (_ : (Lit.int .i64 k).wf = true) (_ : (Lit.int .i64 l).wf = true) (_ : (Lit.int .i64 a').wf = true) (_ : (Lit.int .i64 b').wf = true) (hk' : (Lit.int .i64 k').wf = true) (_ : (Lit.int .i64 s).wf = true) (hr : (Lit.int .i64 r).wf = true) :
    Calls Try.prog 3 #[.agg #[.int .i64 a, .int .i64 b, .int .i64 k, .int .i64 l], .agg #[.int .i64 a', .int .i64 b', .int .i64 k', .int .i64 s], .int .i64 r] w fun e w' => e = .returned (.bool true) ∧ Below w.heap.size w w' := by
  obtain ⟨lf, sf, kf, hsp, him⟩ := au_both a b k l a' b' k' s r hk' hr
  have HSP := Lib.hid hsp
  have HIM := Lib.hid him
  clear hsp him
  have cal := cell_al
  have fal := froz_al
  have slo := set_lo
  have shi := set_hi
  have sne := set_ne
  have n2 : ∀ n : Nat, n < n + 1 + 1 := fun n => by omega
  have n3 : ∀ n : Nat, n < n + 1 + 1 + 1 := fun n => by omega
  have d2 : ∀ n : Nat, ¬ n + 1 + 1 = n := fun n => by omega
  have d3 : ∀ n : Nat, ¬ n + 1 + 1 + 1 = n := fun n => by omega
  have HP := Lib.hid (oldBlk (.cells #[.int .i64 a', .int .i64 b', .int .i64 k', .int .i64 s] 27) (newBlk w #[.int .i64 a, .int .i64 b, .int .i64 k, .int .i64 l] 25 w.heap.size rfl))
  have HV := Lib.hid (newBlk (w.alloc (.cells #[.int .i64 a, .int .i64 b, .int .i64 k, .int .i64 l] 25)) #[.int .i64 a', .int .i64 b', .int .i64 k', .int .i64 s] 27 (w.heap.size + 1) (by simp))
  have B0 := Below.al (Below.al (Below.refl w.heap.size w) (.cells #[.int .i64 a, .int .i64 b, .int .i64 k, .int .i64 l] 25)) (.cells #[.int .i64 a', .int .i64 b', .int .i64 k', .int .i64 s] 27)
  go_enter Try.func3, Try.ntmps3
  go_upto_region 1 with fail
  go_cut [7, 8, 9] (fun p q i wx => ∃ g h : Nat, p = .pointer (some ⟨g, 0, none⟩) ∧ q = .pointer (some ⟨h, 0, none⟩) ∧ i = .int .i64 kf ∧ (w.heap.size ≤ g ∧ w.heap.size ≤ h) ∧ wx.heap[g]? = some (.cells #[.int .i64 a, .int .i64 b, .int .i64 k, .int .i64 lf] 30 (0, 0)) ∧ wx.heap[h]? = some (.cells #[.int .i64 a', .int .i64 b', .int .i64 k', .int .i64 sf] 32 (0, 0)) ∧ wx.heap[w.heap.size]? = some (.cells #[.int .i64 a, .int .i64 b, .int .i64 k, .int .i64 l] 25 (0, 0)) ∧ wx.heap[(w.heap.size + 1)]? = some (.cells #[.int .i64 a', .int .i64 b', .int .i64 k', .int .i64 s] 27 (0, 0)) ∧ Below w.heap.size w wx)
  case first =>
    have xp0 := cell_of HP.out 0
    have xp1 := cell_of HP.out 1
    have xp2 := cell_of HP.out 2
    have xp3 := cell_of HP.out 3
    have xv0 := cell_of HV.out 0
    have xv1 := cell_of HV.out 1
    have xv2 := cell_of HV.out 2
    have xv3 := cell_of HV.out 3
    simp only [List.getElem?_toArray, List.getElem?_cons_zero, List.getElem?_cons_succ] at xp0 xp1 xp2 xp3 xv0 xv1 xv2 xv3
    go_region_held3 (fun w' => w'.cell? ⟨w.heap.size, 0, none⟩ = some (.int .i64 a) ∧ w'.cell? ⟨w.heap.size, 1, none⟩ = some (.int .i64 b) ∧ w'.cell? ⟨w.heap.size, 2, none⟩ = some (.int .i64 k) ∧ w'.cell? ⟨w.heap.size, 3, none⟩ = some (.int .i64 l) ∧ w'.cell? ⟨w.heap.size + 1, 0, none⟩ = some (.int .i64 a') ∧ w'.cell? ⟨w.heap.size + 1, 1, none⟩ = some (.int .i64 b') ∧ w'.cell? ⟨w.heap.size + 1, 2, none⟩ = some (.int .i64 k') ∧ w'.cell? ⟨w.heap.size + 1, 3, none⟩ = some (.int .i64 s)) ((refine ⟨?_, ?_, ?_, ?_, ?_, ?_, ?_, ?_⟩) <;> (first | (with_reducible assumption) | ((refine Eq.trans (cell_of (cs := #[.int .i64 a, .int .i64 b, .int .i64 k, .int .i64 l]) (t := 25) ?_ _) ?_); (rotate_left); rfl; (repeat (first | (with_reducible exact HP.out) | (with_reducible exact HV.out) | ((with_reducible refine newBlk _ _ _ _ ?_); (simp; done)) | (with_reducible refine store4 ?_) | ((with_reducible refine store4ne ?_ ?_); (first | omega | (simp; omega))) | (with_reducible refine cells_of_below ba ?_) | (with_reducible refine cells_of_below bb ?_) | (with_reducible refine cells_of_below bc ?_) | (with_reducible refine drewBlk ?_) | (with_reducible refine oldBlk _ ?_))); done) | ((refine Eq.trans (cell_of (cs := #[.int .i64 a', .int .i64 b', .int .i64 k', .int .i64 s]) (t := 27) ?_ _) ?_); (rotate_left); rfl; (repeat (first | (with_reducible exact HP.out) | (with_reducible exact HV.out) | ((with_reducible refine newBlk _ _ _ _ ?_); (simp; done)) | (with_reducible refine store4 ?_) | ((with_reducible refine store4ne ?_ ?_); (first | omega | (simp; omega))) | (with_reducible refine cells_of_below ba ?_) | (with_reducible refine cells_of_below bb ?_) | (with_reducible refine cells_of_below bc ?_) | (with_reducible refine drewBlk ?_) | (with_reducible refine oldBlk _ ?_))); done))) (first
      | (go_at_call 9; (with_reducible refine (laws_toUSIM_below a b k l _).mono ?_); rintro e ua ⟨rfl, ba⟩; obtain ⟨rca, rfa⟩ := bcell ba; have sa := ba.size; (try simp only [drew_sz] at sa); (try simp only [alloc_sz] at sa); (try have l0a : w.heap.size < ua.heap.size := by omega); (try have l1a : w.heap.size + 1 < ua.heap.size := by omega); (try have l2a : w.heap.size + 1 + 1 < ua.heap.size := by omega); (try have l3a : w.heap.size + 1 + 1 + 1 < ua.heap.size := by omega); (try have l4a : ub.heap.size < ua.heap.size := by omega); (try have l5a : uc.heap.size < ua.heap.size := by omega); (try have l6a : ub.heap.size + 1 < ua.heap.size := by omega); (try have l7a : uc.heap.size + 1 < ua.heap.size := by omega))
      | (go_at_call 10; (with_reducible refine (laws_toSubscriberRecord_below a' b' k' s _).mono ?_); rintro e ub ⟨rfl, bb⟩; obtain ⟨rcb, rfb⟩ := bcell bb; have sb := bb.size; (try simp only [drew_sz] at sb); (try simp only [alloc_sz] at sb); (try have l0b : w.heap.size < ub.heap.size := by omega); (try have l1b : w.heap.size + 1 < ub.heap.size := by omega); (try have l2b : w.heap.size + 1 + 1 < ub.heap.size := by omega); (try have l3b : w.heap.size + 1 + 1 + 1 < ub.heap.size := by omega); (try have l4b : ua.heap.size < ub.heap.size := by omega); (try have l5b : uc.heap.size < ub.heap.size := by omega); (try have l6b : ua.heap.size + 1 < ub.heap.size := by omega); (try have l7b : uc.heap.size + 1 < ub.heap.size := by omega))
      | (go_at_call 8; (with_reducible refine (HSP.out _).mono ?_); rintro e uc ⟨rfl, bc⟩; obtain ⟨rcc, rfc⟩ := bcell bc; have sc := bc.size; (try simp only [drew_sz] at sc); (try simp only [alloc_sz] at sc); (try have l0c : w.heap.size < uc.heap.size := by omega); (try have l1c : w.heap.size + 1 < uc.heap.size := by omega); (try have l2c : w.heap.size + 1 + 1 < uc.heap.size := by omega); (try have l3c : w.heap.size + 1 + 1 + 1 < uc.heap.size := by omega); (try have l4c : ua.heap.size < uc.heap.size := by omega); (try have l5c : ub.heap.size < uc.heap.size := by omega); (try have l6c : ua.heap.size + 1 < uc.heap.size := by omega); (try have l7c : ub.heap.size + 1 < uc.heap.size := by omega)))
    all_goals
      go_wp2_with fail
      go_meet
      refine ⟨_, _, rfl, rfl, rfl, ⟨?_, ?_⟩, ?_, ?_, ?_, ?_, ?_⟩
      · first | omega | (simp; omega)
      · first | omega | (simp; omega)
      · (repeat (first | (with_reducible exact HP.out) | (with_reducible exact HV.out) | ((with_reducible refine newBlk _ _ _ _ ?_); (simp; done)) | (with_reducible refine store4 ?_) | ((with_reducible refine store4ne ?_ ?_); (first | omega | (simp; omega))) | (with_reducible refine cells_of_below ba ?_) | (with_reducible refine cells_of_below bb ?_) | (with_reducible refine cells_of_below bc ?_) | (with_reducible refine drewBlk ?_) | (with_reducible refine oldBlk _ ?_)))
      · (repeat (first | (with_reducible exact HP.out) | (with_reducible exact HV.out) | ((with_reducible refine newBlk _ _ _ _ ?_); (simp; done)) | (with_reducible refine store4 ?_) | ((with_reducible refine store4ne ?_ ?_); (first | omega | (simp; omega))) | (with_reducible refine cells_of_below ba ?_) | (with_reducible refine cells_of_below bb ?_) | (with_reducible refine cells_of_below bc ?_) | (with_reducible refine drewBlk ?_) | (with_reducible refine oldBlk _ ?_)))
      · (repeat (first | (with_reducible exact HP.out) | (with_reducible exact HV.out) | ((with_reducible refine newBlk _ _ _ _ ?_); (simp; done)) | (with_reducible refine store4 ?_) | ((with_reducible refine store4ne ?_ ?_); (first | omega | (simp; omega))) | (with_reducible refine cells_of_below ba ?_) | (with_reducible refine cells_of_below bb ?_) | (with_reducible refine cells_of_below bc ?_) | (with_reducible refine drewBlk ?_) | (with_reducible refine oldBlk _ ?_)))
      · (repeat (first | (with_reducible exact HP.out) | (with_reducible exact HV.out) | ((with_reducible refine newBlk _ _ _ _ ?_); (simp; done)) | (with_reducible refine store4 ?_) | ((with_reducible refine store4ne ?_ ?_); (first | omega | (simp; omega))) | (with_reducible refine cells_of_below ba ?_) | (with_reducible refine cells_of_below bb ?_) | (with_reducible refine cells_of_below bc ?_) | (with_reducible refine drewBlk ?_) | (with_reducible refine oldBlk _ ?_)))
      · (repeat (first | (with_reducible exact B0) | ((with_reducible refine store4below ?_ ?_); (first | omega | (simp; omega))) | (with_reducible refine Below.drew ?_) | (with_reducible refine Below.al ?_ _) | (with_reducible refine Below.next ?_ ba) | (with_reducible refine Below.next ?_ bb) | (with_reducible refine Below.next ?_ bc)))
  case rest =>
    clear HP HV B0 HSP
    obtain ⟨gA, gB, rfl, rfl, rfl, ⟨lA, lB⟩, hA, hB, hP, hV, B1⟩ := hcut
    have kA := (Array.getElem?_eq_some_iff.1 hA).1
    have kB := (Array.getElem?_eq_some_iff.1 hB).1
    have kV := (Array.getElem?_eq_some_iff.1 hV).1
    have HA := Lib.hid hA
    have HB := Lib.hid hB
    have HP := Lib.hid hP
    have HV := Lib.hid hV
    clear hA hB hP hV
    go_upto_region 2 with fail
    go_cut [10, 11, 12] (fun p q i wx => ∃ g h : Nat, p = .pointer (some ⟨g, 0, none⟩) ∧ q = .pointer (some ⟨h, 0, none⟩) ∧ i = .int .i64 kf ∧ (w.heap.size ≤ g ∧ w.heap.size ≤ h) ∧ wx.heap[g]? = some (.cells #[.int .i64 a, .int .i64 b, .int .i64 k, .int .i64 lf] 30 (0, 0)) ∧ wx.heap[h]? = some (.cells #[.int .i64 a', .int .i64 b', .int .i64 k', .int .i64 sf] 32 (0, 0)) ∧ wx.heap[w.heap.size]? = some (.cells #[.int .i64 a, .int .i64 b, .int .i64 k, .int .i64 l] 25 (0, 0)) ∧ wx.heap[(w.heap.size + 1)]? = some (.cells #[.int .i64 a', .int .i64 b', .int .i64 k', .int .i64 s] 27 (0, 0)) ∧ Below w.heap.size w wx ∧ wx.heap[gA]? = some (.cells #[.int .i64 a, .int .i64 b, .int .i64 k, .int .i64 lf] 30 (0, 0)) ∧ wx.heap[gB]? = some (.cells #[.int .i64 a', .int .i64 b', .int .i64 k', .int .i64 sf] 32 (0, 0)))
    case first =>
      have xp0 := cell_of HP.out 0
      have xp1 := cell_of HP.out 1
      have xp2 := cell_of HP.out 2
      have xp3 := cell_of HP.out 3
      have xv0 := cell_of HV.out 0
      have xv1 := cell_of HV.out 1
      have xv2 := cell_of HV.out 2
      have xv3 := cell_of HV.out 3
      simp only [List.getElem?_toArray, List.getElem?_cons_zero, List.getElem?_cons_succ] at xp0 xp1 xp2 xp3 xv0 xv1 xv2 xv3
      go_region_held3 (fun w' => w'.cell? ⟨w.heap.size, 0, none⟩ = some (.int .i64 a) ∧ w'.cell? ⟨w.heap.size, 1, none⟩ = some (.int .i64 b) ∧ w'.cell? ⟨w.heap.size, 2, none⟩ = some (.int .i64 k) ∧ w'.cell? ⟨w.heap.size, 3, none⟩ = some (.int .i64 l) ∧ w'.cell? ⟨w.heap.size + 1, 0, none⟩ = some (.int .i64 a') ∧ w'.cell? ⟨w.heap.size + 1, 1, none⟩ = some (.int .i64 b') ∧ w'.cell? ⟨w.heap.size + 1, 2, none⟩ = some (.int .i64 k') ∧ w'.cell? ⟨w.heap.size + 1, 3, none⟩ = some (.int .i64 s)) ((refine ⟨?_, ?_, ?_, ?_, ?_, ?_, ?_, ?_⟩) <;> (first | (with_reducible assumption) | ((refine Eq.trans (cell_of (cs := #[.int .i64 a, .int .i64 b, .int .i64 k, .int .i64 l]) (t := 25) ?_ _) ?_); (rotate_left); rfl; (repeat (first | (with_reducible exact HP.out) | (with_reducible exact HV.out) | (with_reducible exact HA.out) | (with_reducible exact HB.out) | ((with_reducible refine newBlk _ _ _ _ ?_); (simp; done)) | (with_reducible refine store4 ?_) | ((with_reducible refine store4ne ?_ ?_); (first | omega | (simp; omega))) | (with_reducible refine cells_of_below bd ?_) | (with_reducible refine cells_of_below bf ?_) | (with_reducible refine cells_of_below bh ?_) | (with_reducible refine drewBlk ?_) | (with_reducible refine oldBlk _ ?_))); done) | ((refine Eq.trans (cell_of (cs := #[.int .i64 a', .int .i64 b', .int .i64 k', .int .i64 s]) (t := 27) ?_ _) ?_); (rotate_left); rfl; (repeat (first | (with_reducible exact HP.out) | (with_reducible exact HV.out) | (with_reducible exact HA.out) | (with_reducible exact HB.out) | ((with_reducible refine newBlk _ _ _ _ ?_); (simp; done)) | (with_reducible refine store4 ?_) | ((with_reducible refine store4ne ?_ ?_); (first | omega | (simp; omega))) | (with_reducible refine cells_of_below bd ?_) | (with_reducible refine cells_of_below bf ?_) | (with_reducible refine cells_of_below bh ?_) | (with_reducible refine drewBlk ?_) | (with_reducible refine oldBlk _ ?_))); done))) (first
        | (go_at_call 9; (with_reducible refine (laws_toUSIM_below a b k l _).mono ?_); rintro e ud ⟨rfl, bd⟩; obtain ⟨rcd, rfd⟩ := bcell bd; have sd := bd.size; (try simp only [drew_sz] at sd); (try simp only [alloc_sz] at sd); (try have l0d : w.heap.size < ud.heap.size := by omega); (try have l1d : w.heap.size + 1 < ud.heap.size := by omega); (try have l2d : wc.heap.size < ud.heap.size := by omega); (try have l3d : wc.heap.size + 1 < ud.heap.size := by omega); (try have l4d : uf.heap.size < ud.heap.size := by omega); (try have l5d : uh.heap.size < ud.heap.size := by omega); (try have l6d : uf.heap.size + 1 < ud.heap.size := by omega); (try have l7d : uh.heap.size + 1 < ud.heap.size := by omega))
        | (go_at_call 10; (with_reducible refine (laws_toSubscriberRecord_below a' b' k' s _).mono ?_); rintro e uf ⟨rfl, bf⟩; obtain ⟨rcf, rff⟩ := bcell bf; have sf := bf.size; (try simp only [drew_sz] at sf); (try simp only [alloc_sz] at sf); (try have l0f : w.heap.size < uf.heap.size := by omega); (try have l1f : w.heap.size + 1 < uf.heap.size := by omega); (try have l2f : wc.heap.size < uf.heap.size := by omega); (try have l3f : wc.heap.size + 1 < uf.heap.size := by omega); (try have l4f : ud.heap.size < uf.heap.size := by omega); (try have l5f : uh.heap.size < uf.heap.size := by omega); (try have l6f : ud.heap.size + 1 < uf.heap.size := by omega); (try have l7f : uh.heap.size + 1 < uf.heap.size := by omega))
        | (go_at_call 11; (with_reducible refine (HIM.out _).mono ?_); rintro e uh ⟨rfl, bh⟩; obtain ⟨rch, rfh⟩ := bcell bh; have sh := bh.size; (try simp only [drew_sz] at sh); (try simp only [alloc_sz] at sh); (try have l0h : w.heap.size < uh.heap.size := by omega); (try have l1h : w.heap.size + 1 < uh.heap.size := by omega); (try have l2h : wc.heap.size < uh.heap.size := by omega); (try have l3h : wc.heap.size + 1 < uh.heap.size := by omega); (try have l4h : ud.heap.size < uh.heap.size := by omega); (try have l5h : uf.heap.size < uh.heap.size := by omega); (try have l6h : ud.heap.size + 1 < uh.heap.size := by omega); (try have l7h : uf.heap.size + 1 < uh.heap.size := by omega)))
      all_goals
        go_wp2_with fail
        go_meet
        refine ⟨_, _, rfl, rfl, rfl, ⟨?_, ?_⟩, ?_, ?_, ?_, ?_, ?_, ?_, ?_⟩
        · first | omega | (simp; omega)
        · first | omega | (simp; omega)
        · (repeat (first | (with_reducible exact HP.out) | (with_reducible exact HV.out) | (with_reducible exact HA.out) | (with_reducible exact HB.out) | ((with_reducible refine newBlk _ _ _ _ ?_); (simp; done)) | (with_reducible refine store4 ?_) | ((with_reducible refine store4ne ?_ ?_); (first | omega | (simp; omega))) | (with_reducible refine cells_of_below bd ?_) | (with_reducible refine cells_of_below bf ?_) | (with_reducible refine cells_of_below bh ?_) | (with_reducible refine drewBlk ?_) | (with_reducible refine oldBlk _ ?_)))
        · (repeat (first | (with_reducible exact HP.out) | (with_reducible exact HV.out) | (with_reducible exact HA.out) | (with_reducible exact HB.out) | ((with_reducible refine newBlk _ _ _ _ ?_); (simp; done)) | (with_reducible refine store4 ?_) | ((with_reducible refine store4ne ?_ ?_); (first | omega | (simp; omega))) | (with_reducible refine cells_of_below bd ?_) | (with_reducible refine cells_of_below bf ?_) | (with_reducible refine cells_of_below bh ?_) | (with_reducible refine drewBlk ?_) | (with_reducible refine oldBlk _ ?_)))
        · (repeat (first | (with_reducible exact HP.out) | (with_reducible exact HV.out) | (with_reducible exact HA.out) | (with_reducible exact HB.out) | ((with_reducible refine newBlk _ _ _ _ ?_); (simp; done)) | (with_reducible refine store4 ?_) | ((with_reducible refine store4ne ?_ ?_); (first | omega | (simp; omega))) | (with_reducible refine cells_of_below bd ?_) | (with_reducible refine cells_of_below bf ?_) | (with_reducible refine cells_of_below bh ?_) | (with_reducible refine drewBlk ?_) | (with_reducible refine oldBlk _ ?_)))
        · (repeat (first | (with_reducible exact HP.out) | (with_reducible exact HV.out) | (with_reducible exact HA.out) | (with_reducible exact HB.out) | ((with_reducible refine newBlk _ _ _ _ ?_); (simp; done)) | (with_reducible refine store4 ?_) | ((with_reducible refine store4ne ?_ ?_); (first | omega | (simp; omega))) | (with_reducible refine cells_of_below bd ?_) | (with_reducible refine cells_of_below bf ?_) | (with_reducible refine cells_of_below bh ?_) | (with_reducible refine drewBlk ?_) | (with_reducible refine oldBlk _ ?_)))
        · (repeat (first | (with_reducible exact B1) | ((with_reducible refine store4below ?_ ?_); (first | omega | (simp; omega))) | (with_reducible refine Below.drew ?_) | (with_reducible refine Below.al ?_ _) | (with_reducible refine Below.next ?_ bd) | (with_reducible refine Below.next ?_ bf) | (with_reducible refine Below.next ?_ bh)))
        · (repeat (first | (with_reducible exact HP.out) | (with_reducible exact HV.out) | (with_reducible exact HA.out) | (with_reducible exact HB.out) | ((with_reducible refine newBlk _ _ _ _ ?_); (simp; done)) | (with_reducible refine store4 ?_) | ((with_reducible refine store4ne ?_ ?_); (first | omega | (simp; omega))) | (with_reducible refine cells_of_below bd ?_) | (with_reducible refine cells_of_below bf ?_) | (with_reducible refine cells_of_below bh ?_) | (with_reducible refine drewBlk ?_) | (with_reducible refine oldBlk _ ?_)))
        · (repeat (first | (with_reducible exact HP.out) | (with_reducible exact HV.out) | (with_reducible exact HA.out) | (with_reducible exact HB.out) | ((with_reducible refine newBlk _ _ _ _ ?_); (simp; done)) | (with_reducible refine store4 ?_) | ((with_reducible refine store4ne ?_ ?_); (first | omega | (simp; omega))) | (with_reducible refine cells_of_below bd ?_) | (with_reducible refine cells_of_below bf ?_) | (with_reducible refine cells_of_below bh ?_) | (with_reducible refine drewBlk ?_) | (with_reducible refine oldBlk _ ?_)))
    case rest =>
      clear HP HV HA HB B1 lA lB kA kB kV cal fal slo shi sne n2 n3 d2 d3
      obtain ⟨gC, gD, rfl, rfl, rfl, -, hC, hD, -, -, B2, hA, hB⟩ := hcut
      have HA := Lib.hid hA
      have HB := Lib.hid hB
      have HC := Lib.hid hC
      have HD := Lib.hid hD
      clear hA hB hC hD
      have ca0 := cell_of HA.out 0
      have ca1 := cell_of HA.out 1
      have ca2 := cell_of HA.out 2
      have ca3 := cell_of HA.out 3
      simp only [List.getElem?_toArray, List.getElem?_cons_zero, List.getElem?_cons_succ] at ca0 ca1 ca2 ca3
      have cc0 := cell_of HC.out 0
      have cc1 := cell_of HC.out 1
      have cc2 := cell_of HC.out 2
      have cc3 := cell_of HC.out 3
      simp only [List.getElem?_toArray, List.getElem?_cons_zero, List.getElem?_cons_succ] at cc0 cc1 cc2 cc3
      go_wp2_with fail
      refine (laws_eqUSIM_same _ _ _ _ _).mono ?_
      rintro e u3 ⟨rfl, b3⟩
      replace HB := Lib.hid (cells_of_below b3 HB.out)
      replace HD := Lib.hid (cells_of_below b3 HD.out)
      replace B2 := Below.next B2 b3
      clear b3 HA HC ca0 cc0 ca1 cc1 ca2 cc2 ca3 cc3
      have cb0 := cell_of HB.out 0
      have cb1 := cell_of HB.out 1
      have cb2 := cell_of HB.out 2
      have cb3 := cell_of HB.out 3
      simp only [List.getElem?_toArray, List.getElem?_cons_zero, List.getElem?_cons_succ] at cb0 cb1 cb2 cb3
      have cd0 := cell_of HD.out 0
      have cd1 := cell_of HD.out 1
      have cd2 := cell_of HD.out 2
      have cd3 := cell_of HD.out 3
      simp only [List.getElem?_toArray, List.getElem?_cons_zero, List.getElem?_cons_succ] at cd0 cd1 cd2 cd3
      go_wp2_with fail
      refine (laws_eqSubscriberRecord_same _ _ _ _ _).mono ?_
      rintro e u4 ⟨rfl, b4⟩
      replace B2 := Below.next B2 b4
      clear b4 HB HD cb0 cd0 cb1 cd1 cb2 cd2 cb3 cd3
      go_wp2_with fail
      go_ret
      exact ⟨rfl, B2⟩
  

/-! The row: the frame round the walk. -/
theorem own : ownKnob Try.prog.godebug = none := by kernel_rfl
theorem laidOut : laidOutB Try.prog = true := by kernel_rfl
set_option maxRecDepth 100000 in
theorem lifted (os : Os) (started : os.Started) (H : Type) (enc : TypeId × Value → H) :
    ReturnsInHanded {} Try.checked os 3 .any (Rows.fnExactAuthenticateSpec.pre6 enc Try.prog Try.f3 Rows.fnExactAuthenticateRow.domain false) (Rows.fnExactAuthenticateSpec.post enc Try.prog Try.f3 false true false false) := by
  refine returnsInHanded_of_change (C := Try.checked) own started (by kernel_rfl) Try.func3
    (ChangeSpec.witness6 (enc := enc) (C := Try.checked) false ⟨#[], #[.agg #[.int .i64 0, .int .i64 0, .int .i64 0, .int .i64 0], .agg #[.int .i64 0, .int .i64 0, .int .i64 0, .int .i64 0], .int .i64 0], []⟩ 8 (by kernel_rfl) (by kernel_rfl) (by kernel_rfl) (by kernel_rfl)) ?_
  intro W base args ds gs before hval0 hW hcnd _
  have hval : ∀ (j : Nat) t v, Try.f3.params[j]? = some t → args[j]? = some v → Value.okWide Try.prog W .any base t v := hval0
  have hW' := hW
  obtain ⟨p, q, hA0, hV, rfl, hfz, hnd⟩ := hW
  have hA : DataW.TrodAll enc Try.prog W 0 (fun _ => true) true Try.f3.params.toList args.toList ds p := hA0
  rw [Try.params3] at hA hval
  obtain ⟨v0, vs0, d0, ds0, p0, q0, hargs, rfl, rfl, h0, rr0⟩ := trodAll_cons hA
  obtain ⟨v1, vs1, d1, ds1, p1, q1, rfl, rfl, rfl, h1, rr1⟩ := trodAll_cons rr0
  obtain ⟨v2, vs2, d2, ds2, p2, q2, rfl, rfl, rfl, h2, rr2⟩ := trodAll_cons rr1
  obtain ⟨rfl, rfl, rfl⟩ := trodAll_nil rr2
  obtain rfl : args = #[v0, v1, v2] := by cases args; simp_all
  obtain ⟨rfl, rfl⟩ := trodVars_none hV
  have k0 := h0
  have lt0 : ∀ x ∈ p0, x.block < W.heap.size := by obtain ⟨m, hm⟩ := k0; exact DataW.trod_lt m _ _ _ hm
  obtain ⟨a0, b0, c0, x0, rfl, wa0, wb0, wc0, wx0⟩ := open_nums22 Try.underlying25 Try.underlying23 (by kernel_rfl) (by kernel_rfl) (by kernel_rfl) (by kernel_rfl) (by kernel_rfl) rfl rfl rfl Try.underlying3 Try.underlying3 Try.underlying3 Try.underlying3 (hval 0 25 v0 rfl rfl) h0
  have k1 := h1
  have lt1 : ∀ x ∈ p1, x.block < W.heap.size := by obtain ⟨m, hm⟩ := k1; exact DataW.trod_lt m _ _ _ hm
  obtain ⟨a1, b1, c1, x1, rfl, wa1, wb1, wc1, wx1⟩ := open_nums22 Try.underlying27 Try.underlying23 (by kernel_rfl) (by kernel_rfl) (by kernel_rfl) (by kernel_rfl) (by kernel_rfl) rfl rfl rfl Try.underlying3 Try.underlying3 Try.underlying3 Try.underlying3 (hval 1 27 v1 rfl rfl) h1
  have k2 := h2
  have lt2 : ∀ x ∈ p2, x.block < W.heap.size := by obtain ⟨m, hm⟩ := k2; exact DataW.trod_lt m _ _ _ hm
  obtain ⟨a2, rfl, _, _, w2⟩ := open_int Try.underlying3 (hval 2 3 v2 rfl rfl) h2
  clear hA0 hval0
  refine (walk a0 b0 c0 x0 a1 b1 c1 x1 a2 W wa0 wb0 wc0 wx0 wa1 wb1 wc1 wx1 w2).mono fun e W' ⟨he, bel⟩ => ?_
  subst he
  exact ⟨_, rfl, _, _, _, [], _, [], hW', trodAll_mk1 (shut_bool Try.underlying4 _), (trodAll_cons_mk (Below.trod laidOut (by kernel_rfl) (of_decide_eq_true (by kernel_rfl)) k0 bel lt0) (trodAll_cons_mk (Below.trod laidOut (by kernel_rfl) (of_decide_eq_true (by kernel_rfl)) k1 bel lt1) (trodAll_cons_mk (Below.trod laidOut (by kernel_rfl) (of_decide_eq_true (by kernel_rfl)) k2 bel lt2) trodAll_mk0))), rfl, bel.frame _, fun h => by cases h⟩
theorem over : Rows.fnExactAuthenticateRow.holds Try.pinned (OpenSpec.ofChange Rows.fnExactAuthenticateSpec) :=
  OpenClaim.holds_of_wide 3 Try.f3 rfl rfl rfl rfl rfl rfl rfl ⟨rfl, rfl, rfl, rfl, rfl⟩ rfl rfl rfl rfl rfl (by kernel_rfl) Try.func3 (by kernel_rfl)
    (of_decide_eq_true (by kernel_rfl)) (by unfold Func.isWrapper; first | (rw [if_pos (by decide +kernel)]; kernel_rfl) | (rw [if_neg (by decide +kernel)]; exact ⟨rfl, rfl⟩))
    (fun os started H enc _ => lifted os started H enc)
/-- THE STATEMENT -/
theorem proved : Rows.FnExactAuthenticateSaid := over
#print axioms proved
end Go.Proofs.Ytfenmicakmjelaa.lawFnExactAuthenticate
