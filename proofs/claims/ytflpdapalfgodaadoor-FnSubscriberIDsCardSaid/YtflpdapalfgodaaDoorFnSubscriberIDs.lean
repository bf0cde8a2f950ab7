/-
  For all inputs (longer ones than 1048576 bytes the law passes by itself) a valid identity is parsed from its written form, and a string that is parsed is the written form of its identity. The tables of the library that the row lists lie as their initialisers lay them (the card ties them).
-/
import Derived.Test.YtflpdapalfgodaaDoorCards
import Derived.Test.YtflpdapalfgodaaDoorTie
import Derived.Test.YtflpdapalfgodaaDoorNum
import Derived.Test.YtflpdapalfgodaaDoorPss
import Derived.Test.YtflpdapalfgodaaDoorDrawD
namespace Go.Proofs.YtflpdapalfgodaaDoor.lawFnSubscriberIDs
open Go.Proofs.YtflpdapalfgodaaDoor
open Go.ChangeShapes Go.WideShapes Go.ChangeAt Go.RowKit
open Go.ChangeMaps (open_string shut_string)
set_option linter.unusedVariables false

set_option maxRecDepth 100000 in
set_option maxHeartbeats 8000000 in
theorem walk (v0 : Value) (z0 : List Int) (w : World) (r0 : Rd .u8 w v0 z0) (h0 : ∀ n ∈ z0, (Lit.int .u8 n).wf = true)  (hT : Tab w) :
    Calls Tryd.prog 4 #[v0] w fun e w' => e = .returned (.bool true) ∧ Below w.heap.size w w' := by
  obtain ⟨A0, c0, rfl, hc0, hm0, -⟩ := id r0
  unfold maxLen at hm0
  by_cases hl : z0.length ≤ 1048576
  · skip
    go_enter Tryd.func4, Tryd.ntmps4
    have B := Below.refl w.heap.size w
    go_wp2_with fail
    refine (laws_big _ _ _ _ hl).mono ?_
    rintro e w' ⟨rfl, rfl⟩
    have B0 := B
    clear B
    go_wp2_with fail
    refine (spec_DrawFormatSubscriberID _ z0 _ (r0.below B0) h0 hl).mono ?_
    rintro e w1 ⟨a, b, rfl, wa, wb, b1⟩
    replace B0 := Below.next B0 b1
    clear b1
    have zz1 := B0.size
    obtain ⟨F, hF⟩ : ∃ F, F = fmtS a b := ⟨_, rfl⟩
    have sF : F.size ≤ 100 := hF ▸ fmtS_le a b wa wb
    obtain ⟨X, hX⟩ : ∃ X, X = sidX F.data.toList := ⟨_, rfl⟩
    obtain ⟨Y, hY⟩ : ∃ Y, Y = sidY F.data.toList := ⟨_, rfl⟩
    obtain ⟨Q, hQ⟩ : ∃ Q, Q = sidOk F.data.toList := ⟨_, rfl⟩
    have HQX : Hid (Q = M.vSid a b ∧ (Q = true → X = a ∧ Y = b)) := Lib.hid (by
      rw [hX, hY, hQ, hF]
      cases hv : M.vSid a b
      · rw [fmtS_no hv]; exact ⟨rfl, fun h => by cases h⟩
      · rw [fmtS_yes hv]
        obtain ⟨h1, h2, h3⟩ := sid_fmt hv
        exact ⟨h1, fun _ => ⟨h2, h3⟩⟩)
    have HF := Lib.hid hF
    have HX := Lib.hid hX
    have HY := Lib.hid hY
    have HQ := Lib.hid hQ
    clear hF hX hY hQ
    go_wp2_with fail
    refine (impl_FormatSubscriberID a b _ wa wb (hT.below (Below.al B0 _))).mono ?_
    rw [← HF.out]
    rintro e w2 ⟨rfl, b2⟩
    have NA : Hid (w2.heap[w1.heap.size]? = some (.cells #[.int .i64 a, .int .i64 b] 33 (0, 0))) := Lib.hid (cells_of_below b2 (by (repeat (first | ((with_reducible refine newBlk _ _ _ _ ?_); (first | rfl | (simp; done))) | ((with_reducible refine bxSetNe ?_ _ _ ?_); (rotate_left); (first | omega | (simp; omega))) | (with_reducible refine drewBlk ?_) | (with_reducible refine oldBlk _ ?_)))))
    have NO : Below w.heap.size w w2 := Below.next (by (repeat (first | (with_reducible exact B0) | ((with_reducible refine Below.st ?_ _ _ _ ?_); (rotate_left); (first | omega | (simp; omega))) | (with_reducible refine Below.al ?_ _) | (with_reducible refine Below.drew ?_)))) b2
    clear B0
    have HA := NA
    have B0 := NO
    clear NA NO
    have lA_2 : w1.heap.size < w2.heap.size := (Array.getElem?_eq_some_iff.1 HA.out).1
    have zz2 := B0.size
    clear b2
    go_wp2_with fail
    refine (impl_ParseSubscriberID F _ (by omega) X Y Q HX.out HY.out HQ.out).mono ?_
    rintro e w3 ⟨rfl, b3⟩
    have NA : Hid (w3.heap[w1.heap.size]? = some (.cells #[.int .i64 a, .int .i64 b] 33 (0, 0))) := Lib.hid (cells_of_below b3 (by (repeat (first | (with_reducible exact HA.out) | ((with_reducible refine newBlk _ _ _ _ ?_); (first | rfl | (simp; done))) | ((with_reducible refine bxSetNe ?_ _ _ ?_); (rotate_left); (first | omega | (simp; omega))) | (with_reducible refine drewBlk ?_) | (with_reducible refine oldBlk _ ?_)))))
    have NO : Below w.heap.size w w3 := Below.next (by (repeat (first | (with_reducible exact B0) | ((with_reducible refine Below.st ?_ _ _ _ ?_); (rotate_left); (first | omega | (simp; omega))) | (with_reducible refine Below.al ?_ _) | (with_reducible refine Below.drew ?_)))) b3
    clear HA B0
    have HA := NA
    have B0 := NO
    clear NA NO
    have lA_3 : w1.heap.size < w3.heap.size := (Array.getElem?_eq_some_iff.1 HA.out).1
    have zz3 := B0.size
    clear b3
    clear HX HY HQ HF sF
    go_wp2_with fail
    refine (spec_DrawParseSubscriberID _ z0 _ (r0.below (Below.al B0 _)) h0 hl).mono ?_
    rintro e w4 ⟨s, rfl, hs, b4⟩
    have NA : Hid (w4.heap[w1.heap.size]? = some (.cells #[.int .i64 a, .int .i64 b] 33 (0, 0))) := Lib.hid (cells_of_below b4 (by (repeat (first | (with_reducible exact HA.out) | ((with_reducible refine newBlk _ _ _ _ ?_); (first | rfl | (simp; done))) | ((with_reducible refine bxSetNe ?_ _ _ ?_); (rotate_left); (first | omega | (simp; omega))) | (with_reducible refine drewBlk ?_) | (with_reducible refine oldBlk _ ?_)))))
    have NE : Hid (w4.heap[w3.heap.size]? = some (.cells #[.int .i64 X, .int .i64 Y] 33 (0, 0))) := Lib.hid (cells_of_below b4 (by (repeat (first | (with_reducible exact HA.out) | ((with_reducible refine newBlk _ _ _ _ ?_); (first | rfl | (simp; done))) | ((with_reducible refine bxSetNe ?_ _ _ ?_); (rotate_left); (first | omega | (simp; omega))) | (with_reducible refine drewBlk ?_) | (with_reducible refine oldBlk _ ?_)))))
    have NO : Below w.heap.size w w4 := Below.next (by (repeat (first | (with_reducible exact B0) | ((with_reducible refine Below.st ?_ _ _ _ ?_); (rotate_left); (first | omega | (simp; omega))) | (with_reducible refine Below.al ?_ _) | (with_reducible refine Below.drew ?_)))) b4
    clear HA B0
    have HA := NA
    have HE := NE
    have B0 := NO
    clear NA NE NO
    have lA_4 : w1.heap.size < w4.heap.size := (Array.getElem?_eq_some_iff.1 HA.out).1
    have lE_4 : w3.heap.size < w4.heap.size := (Array.getElem?_eq_some_iff.1 HE.out).1
    have zz4 := B0.size
    clear b4
    obtain ⟨X2, hX2⟩ : ∃ X, X = sidX s.data.toList := ⟨_, rfl⟩
    obtain ⟨Y2, hY2⟩ : ∃ Y, Y = sidY s.data.toList := ⟨_, rfl⟩
    obtain ⟨Q2, hQ2⟩ : ∃ Q, Q = sidOk s.data.toList := ⟨_, rfl⟩
    have HS : Hid (Q2 = true → M.vSid X2 Y2 = true ∧ fmtS X2 Y2 = s) := Lib.hid (by
      rw [hX2, hY2, hQ2]
      exact fun h => ⟨(sid_back h).2, fmtS_of h⟩)
    have wX2 : (Lit.int .i64 X2).wf = true := hX2 ▸ (sidX_wf _).1
    have wY2 : (Lit.int .i64 Y2).wf = true := hY2 ▸ (sidX_wf _).2
    have HX2 := Lib.hid hX2
    have HY2 := Lib.hid hY2
    have HQ2 := Lib.hid hQ2
    clear hX2 hY2 hQ2
    go_wp2_with fail
    refine (impl_ParseSubscriberID s _ (by omega) X2 Y2 Q2 HX2.out HY2.out HQ2.out).mono ?_
    rintro e w5 ⟨rfl, b5⟩
    have NA : Hid (w5.heap[w1.heap.size]? = some (.cells #[.int .i64 a, .int .i64 b] 33 (0, 0))) := Lib.hid (cells_of_below b5 (by (repeat (first | (with_reducible exact HA.out) | (with_reducible exact HE.out) | ((with_reducible refine newBlk _ _ _ _ ?_); (first | rfl | (simp; done))) | ((with_reducible refine bxSetNe ?_ _ _ ?_); (rotate_left); (first | omega | (simp; omega))) | (with_reducible refine drewBlk ?_) | (with_reducible refine oldBlk _ ?_)))))
    have NE : Hid (w5.heap[w3.heap.size]? = some (.cells #[.int .i64 X, .int .i64 Y] 33 (0, 0))) := Lib.hid (cells_of_below b5 (by (repeat (first | (with_reducible exact HA.out) | (with_reducible exact HE.out) | ((with_reducible refine newBlk _ _ _ _ ?_); (first | rfl | (simp; done))) | ((with_reducible refine bxSetNe ?_ _ _ ?_); (rotate_left); (first | omega | (simp; omega))) | (with_reducible refine drewBlk ?_) | (with_reducible refine oldBlk _ ?_)))))
    have NO : Below w.heap.size w w5 := Below.next (by (repeat (first | (with_reducible exact B0) | ((with_reducible refine Below.st ?_ _ _ _ ?_); (rotate_left); (first | omega | (simp; omega))) | (with_reducible refine Below.al ?_ _) | (with_reducible refine Below.drew ?_)))) b5
    clear HA HE B0
    have HA := NA
    have HE := NE
    have B0 := NO
    clear NA NE NO
    have lA_5 : w1.heap.size < w5.heap.size := (Array.getElem?_eq_some_iff.1 HA.out).1
    have lE_5 : w3.heap.size < w5.heap.size := (Array.getElem?_eq_some_iff.1 HE.out).1
    have zz5 := B0.size
    clear b5
    go_wp2_with fail
    refine (spec_ParseSubscriberID s _ (by omega) X2 Y2 Q2 HX2.out HY2.out HQ2.out).mono ?_
    rintro e w6 ⟨rfl, b6⟩
    have NA : Hid (w6.heap[w1.heap.size]? = some (.cells #[.int .i64 a, .int .i64 b] 33 (0, 0))) := Lib.hid (cells_of_below b6 (by (repeat (first | (with_reducible exact HA.out) | (with_reducible exact HE.out) | ((with_reducible refine newBlk _ _ _ _ ?_); (first | rfl | (simp; done))) | ((with_reducible refine bxSetNe ?_ _ _ ?_); (rotate_left); (first | omega | (simp; omega))) | (with_reducible refine drewBlk ?_) | (with_reducible refine oldBlk _ ?_)))))
    have NE : Hid (w6.heap[w3.heap.size]? = some (.cells #[.int .i64 X, .int .i64 Y] 33 (0, 0))) := Lib.hid (cells_of_below b6 (by (repeat (first | (with_reducible exact HA.out) | (with_reducible exact HE.out) | ((with_reducible refine newBlk _ _ _ _ ?_); (first | rfl | (simp; done))) | ((with_reducible refine bxSetNe ?_ _ _ ?_); (rotate_left); (first | omega | (simp; omega))) | (with_reducible refine drewBlk ?_) | (with_reducible refine oldBlk _ ?_)))))
    have NG : Hid (w6.heap[w5.heap.size]? = some (.cells #[.int .i64 X2, .int .i64 Y2] 33 (0, 0))) := Lib.hid (cells_of_below b6 (by (repeat (first | (with_reducible exact HA.out) | (with_reducible exact HE.out) | ((with_reducible refine newBlk _ _ _ _ ?_); (first | rfl | (simp; done))) | ((with_reducible refine bxSetNe ?_ _ _ ?_); (rotate_left); (first | omega | (simp; omega))) | (with_reducible refine drewBlk ?_) | (with_reducible refine oldBlk _ ?_)))))
    have NO : Below w.heap.size w w6 := Below.next (by (repeat (first | (with_reducible exact B0) | ((with_reducible refine Below.st ?_ _ _ _ ?_); (rotate_left); (first | omega | (simp; omega))) | (with_reducible refine Below.al ?_ _) | (with_reducible refine Below.drew ?_)))) b6
    clear HA HE B0
    have HA := NA
    have HE := NE
    have HG := NG
    have B0 := NO
    clear NA NE NG NO
    have lA_6 : w1.heap.size < w6.heap.size := (Array.getElem?_eq_some_iff.1 HA.out).1
    have lE_6 : w3.heap.size < w6.heap.size := (Array.getElem?_eq_some_iff.1 HE.out).1
    have lG_6 : w5.heap.size < w6.heap.size := (Array.getElem?_eq_some_iff.1 HG.out).1
    have zz6 := B0.size
    clear b6
    clear HX2 HY2 HQ2 hs
    obtain ⟨hq, hxy⟩ := HQX.out
    clear HQX
    have HXY := Lib.hid hxy
    clear hxy
    cases hV : M.vSid a b
    · obtain rfl : Q = false := by rw [hq, hV]
      clear hq HXY
      cases Q2
      · clear HS
        have cA0 := cell_of HA.out 0
        have cA1 := cell_of HA.out 1
        simp only [List.getElem?_toArray, List.getElem?_cons_zero, List.getElem?_cons_succ] at cA0 cA1
        have fA := free_of HA.out
        have sne := bxNe
        have dAE : ¬ w1.heap.size = w3.heap.size := by omega
        have dAG : ¬ w1.heap.size = w5.heap.size := by omega
        have dEA : ¬ w3.heap.size = w1.heap.size := by omega
        have dEG : ¬ w3.heap.size = w5.heap.size := by omega
        have dGA : ¬ w5.heap.size = w1.heap.size := by omega
        have dGE : ¬ w5.heap.size = w3.heap.size := by omega
        go_wp2_with fail
        refine (spec_IsValidSubscriberID a b _).mono ?_
        rw [hV]
        rintro e w7 ⟨rfl, ha7⟩
        have b7 := below_of_alloc ha7
        clear ha7
        have NA : Hid (w7.heap[w1.heap.size]? = some (.cells #[.int .i64 a, .int .i64 b] 33 (0, 0))) := Lib.hid (cells_of_below b7 (by (repeat (first | (with_reducible exact HA.out) | (with_reducible exact HE.out) | (with_reducible exact HG.out) | ((with_reducible refine newBlk _ _ _ _ ?_); (first | rfl | (simp; done))) | ((with_reducible refine bxSetNe ?_ _ _ ?_); (rotate_left); (first | omega | (simp; omega))) | (with_reducible refine drewBlk ?_) | (with_reducible refine oldBlk _ ?_)))))
        have NE : Hid (w7.heap[w3.heap.size]? = some (.cells #[.int .i64 X, .int .i64 Y] 33 (0, 0))) := Lib.hid (cells_of_below b7 (by (repeat (first | (with_reducible exact HA.out) | (with_reducible exact HE.out) | (with_reducible exact HG.out) | ((with_reducible refine newBlk _ _ _ _ ?_); (first | rfl | (simp; done))) | ((with_reducible refine bxSetNe ?_ _ _ ?_); (rotate_left); (first | omega | (simp; omega))) | (with_reducible refine drewBlk ?_) | (with_reducible refine oldBlk _ ?_)))))
        have NG : Hid (w7.heap[w5.heap.size]? = some (.cells #[.int .i64 X2, .int .i64 Y2] 33 (0, 0))) := Lib.hid (cells_of_below b7 (by (repeat (first | (with_reducible exact HA.out) | (with_reducible exact HE.out) | (with_reducible exact HG.out) | ((with_reducible refine newBlk _ _ _ _ ?_); (first | rfl | (simp; done))) | ((with_reducible refine bxSetNe ?_ _ _ ?_); (rotate_left); (first | omega | (simp; omega))) | (with_reducible refine drewBlk ?_) | (with_reducible refine oldBlk _ ?_)))))
        have NK : Hid (w7.heap[w6.heap.size]? = some (.cells #[.int .i64 X2, .int .i64 Y2] 33 (0, 0))) := Lib.hid (cells_of_below b7 (by (repeat (first | (with_reducible exact HA.out) | (with_reducible exact HE.out) | (with_reducible exact HG.out) | ((with_reducible refine newBlk _ _ _ _ ?_); (first | rfl | (simp; done))) | ((with_reducible refine bxSetNe ?_ _ _ ?_); (rotate_left); (first | omega | (simp; omega))) | (with_reducible refine drewBlk ?_) | (with_reducible refine oldBlk _ ?_)))))
        have NO : Below w.heap.size w w7 := Below.next (by (repeat (first | (with_reducible exact B0) | ((with_reducible refine Below.st ?_ _ _ _ ?_); (rotate_left); (first | omega | (simp; omega))) | (with_reducible refine Below.al ?_ _) | (with_reducible refine Below.drew ?_)))) b7
        clear cA0 cA1 fA sne dAE dAG dEA dEG dGA dGE HA HE HG B0
        have HA := NA
        have HE := NE
        have HG := NG
        have HK := NK
        have B0 := NO
        clear NA NE NG NK NO
        have lA_7 : w1.heap.size < w7.heap.size := (Array.getElem?_eq_some_iff.1 HA.out).1
        have lE_7 : w3.heap.size < w7.heap.size := (Array.getElem?_eq_some_iff.1 HE.out).1
        have lG_7 : w5.heap.size < w7.heap.size := (Array.getElem?_eq_some_iff.1 HG.out).1
        have lK_7 : w6.heap.size < w7.heap.size := (Array.getElem?_eq_some_iff.1 HK.out).1
        have zz7 := B0.size
        clear b7
        have cA0 := cell_of HA.out 0
        have cA1 := cell_of HA.out 1
        have cE0 := cell_of HE.out 0
        have cE1 := cell_of HE.out 1
        have cG0 := cell_of HG.out 0
        have cG1 := cell_of HG.out 1
        simp only [List.getElem?_toArray, List.getElem?_cons_zero, List.getElem?_cons_succ] at cA0 cA1 cE0 cE1 cG0 cG1
        have fA := free_of HA.out
        have fE := free_of HE.out
        have fG := free_of HG.out
        have sne := bxNe
        have dAE : ¬ w1.heap.size = w3.heap.size := by omega
        have dAG : ¬ w1.heap.size = w5.heap.size := by omega
        have dAK : ¬ w1.heap.size = w6.heap.size := by omega
        have dEA : ¬ w3.heap.size = w1.heap.size := by omega
        have dEG : ¬ w3.heap.size = w5.heap.size := by omega
        have dEK : ¬ w3.heap.size = w6.heap.size := by omega
        have dGA : ¬ w5.heap.size = w1.heap.size := by omega
        have dGE : ¬ w5.heap.size = w3.heap.size := by omega
        have dGK : ¬ w5.heap.size = w6.heap.size := by omega
        have dKA : ¬ w6.heap.size = w1.heap.size := by omega
        have dKE : ¬ w6.heap.size = w3.heap.size := by omega
        have dKG : ¬ w6.heap.size = w5.heap.size := by omega
        go_wp2_with fail
        go_ret
        exact ⟨by first | (simp; done) | rfl, by repeat (first | (with_reducible exact B0) | (with_reducible refine Below.al ?_ _) | (with_reducible refine Below.drew ?_))⟩
      · obtain ⟨hV2, hs2⟩ := HS.out rfl
        have hS2 := Lib.hid hs2
        clear hs2
        clear HS
        have cA0 := cell_of HA.out 0
        have cA1 := cell_of HA.out 1
        simp only [List.getElem?_toArray, List.getElem?_cons_zero, List.getElem?_cons_succ] at cA0 cA1
        have fA := free_of HA.out
        have sne := bxNe
        have dAE : ¬ w1.heap.size = w3.heap.size := by omega
        have dAG : ¬ w1.heap.size = w5.heap.size := by omega
        have dEA : ¬ w3.heap.size = w1.heap.size := by omega
        have dEG : ¬ w3.heap.size = w5.heap.size := by omega
        have dGA : ¬ w5.heap.size = w1.heap.size := by omega
        have dGE : ¬ w5.heap.size = w3.heap.size := by omega
        go_wp2_with fail
        refine (spec_IsValidSubscriberID a b _).mono ?_
        rw [hV]
        rintro e w7 ⟨rfl, ha7⟩
        have b7 := below_of_alloc ha7
        clear ha7
        have NA : Hid (w7.heap[w1.heap.size]? = some (.cells #[.int .i64 a, .int .i64 b] 33 (0, 0))) := Lib.hid (cells_of_below b7 (by (repeat (first | (with_reducible exact HA.out) | (with_reducible exact HE.out) | (with_reducible exact HG.out) | ((with_reducible refine newBlk _ _ _ _ ?_); (first | rfl | (simp; done))) | ((with_reducible refine bxSetNe ?_ _ _ ?_); (rotate_left); (first | omega | (simp; omega))) | (with_reducible refine drewBlk ?_) | (with_reducible refine oldBlk _ ?_)))))
        have NE : Hid (w7.heap[w3.heap.size]? = some (.cells #[.int .i64 X, .int .i64 Y] 33 (0, 0))) := Lib.hid (cells_of_below b7 (by (repeat (first | (with_reducible exact HA.out) | (with_reducible exact HE.out) | (with_reducible exact HG.out) | ((with_reducible refine newBlk _ _ _ _ ?_); (first | rfl | (simp; done))) | ((with_reducible refine bxSetNe ?_ _ _ ?_); (rotate_left); (first | omega | (simp; omega))) | (with_reducible refine drewBlk ?_) | (with_reducible refine oldBlk _ ?_)))))
        have NG : Hid (w7.heap[w5.heap.size]? = some (.cells #[.int .i64 X2, .int .i64 Y2] 33 (0, 0))) := Lib.hid (cells_of_below b7 (by (repeat (first | (with_reducible exact HA.out) | (with_reducible exact HE.out) | (with_reducible exact HG.out) | ((with_reducible refine newBlk _ _ _ _ ?_); (first | rfl | (simp; done))) | ((with_reducible refine bxSetNe ?_ _ _ ?_); (rotate_left); (first | omega | (simp; omega))) | (with_reducible refine drewBlk ?_) | (with_reducible refine oldBlk _ ?_)))))
        have NK : Hid (w7.heap[w6.heap.size]? = some (.cells #[.int .i64 X2, .int .i64 Y2] 33 (0, 0))) := Lib.hid (cells_of_below b7 (by (repeat (first | (with_reducible exact HA.out) | (with_reducible exact HE.out) | (with_reducible exact HG.out) | ((with_reducible refine newBlk _ _ _ _ ?_); (first | rfl | (simp; done))) | ((with_reducible refine bxSetNe ?_ _ _ ?_); (rotate_left); (first | omega | (simp; omega))) | (with_reducible refine drewBlk ?_) | (with_reducible refine oldBlk _ ?_)))))
        have NO : Below w.heap.size w w7 := Below.next (by (repeat (first | (with_reducible exact B0) | ((with_reducible refine Below.st ?_ _ _ _ ?_); (rotate_left); (first | omega | (simp; omega))) | (with_reducible refine Below.al ?_ _) | (with_reducible refine Below.drew ?_)))) b7
        clear cA0 cA1 fA sne dAE dAG dEA dEG dGA dGE HA HE HG B0
        have HA := NA
        have HE := NE
        have HG := NG
        have HK := NK
        have B0 := NO
        clear NA NE NG NK NO
        have lA_7 : w1.heap.size < w7.heap.size := (Array.getElem?_eq_some_iff.1 HA.out).1
        have lE_7 : w3.heap.size < w7.heap.size := (Array.getElem?_eq_some_iff.1 HE.out).1
        have lG_7 : w5.heap.size < w7.heap.size := (Array.getElem?_eq_some_iff.1 HG.out).1
        have lK_7 : w6.heap.size < w7.heap.size := (Array.getElem?_eq_some_iff.1 HK.out).1
        have zz7 := B0.size
        clear b7
        have cA0 := cell_of HA.out 0
        have cA1 := cell_of HA.out 1
        have cE0 := cell_of HE.out 0
        have cE1 := cell_of HE.out 1
        have cG0 := cell_of HG.out 0
        have cG1 := cell_of HG.out 1
        simp only [List.getElem?_toArray, List.getElem?_cons_zero, List.getElem?_cons_succ] at cA0 cA1 cE0 cE1 cG0 cG1
        have fA := free_of HA.out
        have fE := free_of HE.out
        have fG := free_of HG.out
        have sne := bxNe
        have dAE : ¬ w1.heap.size = w3.heap.size := by omega
        have dAG : ¬ w1.heap.size = w5.heap.size := by omega
        have dAK : ¬ w1.heap.size = w6.heap.size := by omega
        have dEA : ¬ w3.heap.size = w1.heap.size := by omega
        have dEG : ¬ w3.heap.size = w5.heap.size := by omega
        have dEK : ¬ w3.heap.size = w6.heap.size := by omega
        have dGA : ¬ w5.heap.size = w1.heap.size := by omega
        have dGE : ¬ w5.heap.size = w3.heap.size := by omega
        have dGK : ¬ w5.heap.size = w6.heap.size := by omega
        have dKA : ¬ w6.heap.size = w1.heap.size := by omega
        have dKE : ¬ w6.heap.size = w3.heap.size := by omega
        have dKG : ¬ w6.heap.size = w5.heap.size := by omega
        go_wp2_with fail
        refine (impl_IsValidSubscriberID X2 Y2 _).mono ?_
        rw [hV2]
        rintro e w8 ⟨rfl, ha8⟩
        have b8 := below_of_alloc ha8
        clear ha8
        have NA : Hid (w8.heap[w1.heap.size]? = some (.cells #[.int .i64 a, .int .i64 b] 33 (0, 0))) := Lib.hid (cells_of_below b8 (by (repeat (first | (with_reducible exact HA.out) | (with_reducible exact HE.out) | (with_reducible exact HG.out) | (with_reducible exact HK.out) | ((with_reducible refine newBlk _ _ _ _ ?_); (first | rfl | (simp; done))) | ((with_reducible refine bxSetNe ?_ _ _ ?_); (rotate_left); (first | omega | (simp; omega))) | (with_reducible refine drewBlk ?_) | (with_reducible refine oldBlk _ ?_)))))
        have NE : Hid (w8.heap[w3.heap.size]? = some (.cells #[.int .i64 X, .int .i64 Y] 33 (0, 0))) := Lib.hid (cells_of_below b8 (by (repeat (first | (with_reducible exact HA.out) | (with_reducible exact HE.out) | (with_reducible exact HG.out) | (with_reducible exact HK.out) | ((with_reducible refine newBlk _ _ _ _ ?_); (first | rfl | (simp; done))) | ((with_reducible refine bxSetNe ?_ _ _ ?_); (rotate_left); (first | omega | (simp; omega))) | (with_reducible refine drewBlk ?_) | (with_reducible refine oldBlk _ ?_)))))
        have NG : Hid (w8.heap[w5.heap.size]? = some (.cells #[.int .i64 X2, .int .i64 Y2] 33 (0, 0))) := Lib.hid (cells_of_below b8 (by (repeat (first | (with_reducible exact HA.out) | (with_reducible exact HE.out) | (with_reducible exact HG.out) | (with_reducible exact HK.out) | ((with_reducible refine newBlk _ _ _ _ ?_); (first | rfl | (simp; done))) | ((with_reducible refine bxSetNe ?_ _ _ ?_); (rotate_left); (first | omega | (simp; omega))) | (with_reducible refine drewBlk ?_) | (with_reducible refine oldBlk _ ?_)))))
        have NK : Hid (w8.heap[w6.heap.size]? = some (.cells #[.int .i64 X2, .int .i64 Y2] 33 (0, 0))) := Lib.hid (cells_of_below b8 (by (repeat (first | (with_reducible exact HA.out) | (with_reducible exact HE.out) | (with_reducible exact HG.out) | (with_reducible exact HK.out) | ((with_reducible refine newBlk _ _ _ _ ?_); (first | rfl | (simp; done))) | ((with_reducible refine bxSetNe ?_ _ _ ?_); (rotate_left); (first | omega | (simp; omega))) | (with_reducible refine drewBlk ?_) | (with_reducible refine oldBlk _ ?_)))))
        have NO : Below w.heap.size w w8 := Below.next (by (repeat (first | (with_reducible exact B0) | ((with_reducible refine Below.st ?_ _ _ _ ?_); (rotate_left); (first | omega | (simp; omega))) | (with_reducible refine Below.al ?_ _) | (with_reducible refine Below.drew ?_)))) b8
        clear cA0 cA1 cE0 cE1 cG0 cG1 fA fE fG sne dAE dAG dAK dEA dEG dEK dGA dGE dGK dKA dKE dKG HA HE HG HK B0
        have HA := NA
        have HE := NE
        have HG := NG
        have HK := NK
        have B0 := NO
        clear NA NE NG NK NO
        have lA_8 : w1.heap.size < w8.heap.size := (Array.getElem?_eq_some_iff.1 HA.out).1
        have lE_8 : w3.heap.size < w8.heap.size := (Array.getElem?_eq_some_iff.1 HE.out).1
        have lG_8 : w5.heap.size < w8.heap.size := (Array.getElem?_eq_some_iff.1 HG.out).1
        have lK_8 : w6.heap.size < w8.heap.size := (Array.getElem?_eq_some_iff.1 HK.out).1
        have zz8 := B0.size
        clear b8
        have cA0 := cell_of HA.out 0
        have cA1 := cell_of HA.out 1
        have cE0 := cell_of HE.out 0
        have cE1 := cell_of HE.out 1
        have cG0 := cell_of HG.out 0
        have cG1 := cell_of HG.out 1
        simp only [List.getElem?_toArray, List.getElem?_cons_zero, List.getElem?_cons_succ] at cA0 cA1 cE0 cE1 cG0 cG1
        have fA := free_of HA.out
        have fE := free_of HE.out
        have fG := free_of HG.out
        have sne := bxNe
        have dAE : ¬ w1.heap.size = w3.heap.size := by omega
        have dAG : ¬ w1.heap.size = w5.heap.size := by omega
        have dAK : ¬ w1.heap.size = w6.heap.size := by omega
        have dEA : ¬ w3.heap.size = w1.heap.size := by omega
        have dEG : ¬ w3.heap.size = w5.heap.size := by omega
        have dEK : ¬ w3.heap.size = w6.heap.size := by omega
        have dGA : ¬ w5.heap.size = w1.heap.size := by omega
        have dGE : ¬ w5.heap.size = w3.heap.size := by omega
        have dGK : ¬ w5.heap.size = w6.heap.size := by omega
        have dKA : ¬ w6.heap.size = w1.heap.size := by omega
        have dKE : ¬ w6.heap.size = w3.heap.size := by omega
        have dKG : ¬ w6.heap.size = w5.heap.size := by omega
        go_wp2_with fail
        refine (impl_FormatSubscriberID X2 Y2 _ wX2 wY2 (hT.below B0)).mono ?_
        rw [hS2.out]
        rintro e w9 ⟨rfl, b9⟩
        have NA : Hid (w9.heap[w1.heap.size]? = some (.cells #[.int .i64 a, .int .i64 b] 33 (0, 0))) := Lib.hid (cells_of_below b9 (by (repeat (first | (with_reducible exact HA.out) | (with_reducible exact HE.out) | (with_reducible exact HG.out) | (with_reducible exact HK.out) | ((with_reducible refine newBlk _ _ _ _ ?_); (first | rfl | (simp; done))) | ((with_reducible refine bxSetNe ?_ _ _ ?_); (rotate_left); (first | omega | (simp; omega))) | (with_reducible refine drewBlk ?_) | (with_reducible refine oldBlk _ ?_)))))
        have NE : Hid (w9.heap[w3.heap.size]? = some (.cells #[.int .i64 X, .int .i64 Y] 33 (0, 0))) := Lib.hid (cells_of_below b9 (by (repeat (first | (with_reducible exact HA.out) | (with_reducible exact HE.out) | (with_reducible exact HG.out) | (with_reducible exact HK.out) | ((with_reducible refine newBlk _ _ _ _ ?_); (first | rfl | (simp; done))) | ((with_reducible refine bxSetNe ?_ _ _ ?_); (rotate_left); (first | omega | (simp; omega))) | (with_reducible refine drewBlk ?_) | (with_reducible refine oldBlk _ ?_)))))
        have NG : Hid (w9.heap[w5.heap.size]? = some (.cells #[.int .i64 X2, .int .i64 Y2] 33 (0, 0))) := Lib.hid (cells_of_below b9 (by (repeat (first | (with_reducible exact HA.out) | (with_reducible exact HE.out) | (with_reducible exact HG.out) | (with_reducible exact HK.out) | ((with_reducible refine newBlk _ _ _ _ ?_); (first | rfl | (simp; done))) | ((with_reducible refine bxSetNe ?_ _ _ ?_); (rotate_left); (first | omega | (simp; omega))) | (with_reducible refine drewBlk ?_) | (with_reducible refine oldBlk _ ?_)))))
        have NK : Hid (w9.heap[w6.heap.size]? = some (.cells #[.int .i64 X2, .int .i64 Y2] 33 (0, 0))) := Lib.hid (cells_of_below b9 (by (repeat (first | (with_reducible exact HA.out) | (with_reducible exact HE.out) | (with_reducible exact HG.out) | (with_reducible exact HK.out) | ((with_reducible refine newBlk _ _ _ _ ?_); (first | rfl | (simp; done))) | ((with_reducible refine bxSetNe ?_ _ _ ?_); (rotate_left); (first | omega | (simp; omega))) | (with_reducible refine drewBlk ?_) | (with_reducible refine oldBlk _ ?_)))))
        have NO : Below w.heap.size w w9 := Below.next (by (repeat (first | (with_reducible exact B0) | ((with_reducible refine Below.st ?_ _ _ _ ?_); (rotate_left); (first | omega | (simp; omega))) | (with_reducible refine Below.al ?_ _) | (with_reducible refine Below.drew ?_)))) b9
        clear cA0 cA1 cE0 cE1 cG0 cG1 fA fE fG sne dAE dAG dAK dEA dEG dEK dGA dGE dGK dKA dKE dKG HA HE HG HK B0
        have HA := NA
        have HE := NE
        have HG := NG
        have HK := NK
        have B0 := NO
        clear NA NE NG NK NO
        have lA_9 : w1.heap.size < w9.heap.size := (Array.getElem?_eq_some_iff.1 HA.out).1
        have lE_9 : w3.heap.size < w9.heap.size := (Array.getElem?_eq_some_iff.1 HE.out).1
        have lG_9 : w5.heap.size < w9.heap.size := (Array.getElem?_eq_some_iff.1 HG.out).1
        have lK_9 : w6.heap.size < w9.heap.size := (Array.getElem?_eq_some_iff.1 HK.out).1
        have zz9 := B0.size
        clear b9
        go_wp2_with fail
        go_ret
        exact ⟨by first | (simp; done) | rfl, by repeat (first | (with_reducible exact B0) | (with_reducible refine Below.al ?_ _) | (with_reducible refine Below.drew ?_))⟩
    · obtain rfl : Q = true := by rw [hq, hV]
      obtain ⟨e1, e2⟩ := HXY.out rfl
      obtain rfl : a = X := e1.symm
      obtain rfl : b = Y := e2.symm
      clear hq HXY
      cases Q2
      · clear HS
        have cA0 := cell_of HA.out 0
        have cA1 := cell_of HA.out 1
        simp only [List.getElem?_toArray, List.getElem?_cons_zero, List.getElem?_cons_succ] at cA0 cA1
        have fA := free_of HA.out
        have sne := bxNe
        have dAE : ¬ w1.heap.size = w3.heap.size := by omega
        have dAG : ¬ w1.heap.size = w5.heap.size := by omega
        have dEA : ¬ w3.heap.size = w1.heap.size := by omega
        have dEG : ¬ w3.heap.size = w5.heap.size := by omega
        have dGA : ¬ w5.heap.size = w1.heap.size := by omega
        have dGE : ¬ w5.heap.size = w3.heap.size := by omega
        go_wp2_with fail
        refine (spec_IsValidSubscriberID a b _).mono ?_
        rw [hV]
        rintro e w7 ⟨rfl, ha7⟩
        have b7 := below_of_alloc ha7
        clear ha7
        have NA : Hid (w7.heap[w1.heap.size]? = some (.cells #[.int .i64 a, .int .i64 b] 33 (0, 0))) := Lib.hid (cells_of_below b7 (by (repeat (first | (with_reducible exact HA.out) | (with_reducible exact HE.out) | (with_reducible exact HG.out) | ((with_reducible refine newBlk _ _ _ _ ?_); (first | rfl | (simp; done))) | ((with_reducible refine bxSetNe ?_ _ _ ?_); (rotate_left); (first | omega | (simp; omega))) | (with_reducible refine drewBlk ?_) | (with_reducible refine oldBlk _ ?_)))))
        have NE : Hid (w7.heap[w3.heap.size]? = some (.cells #[.int .i64 a, .int .i64 b] 33 (0, 0))) := Lib.hid (cells_of_below b7 (by (repeat (first | (with_reducible exact HA.out) | (with_reducible exact HE.out) | (with_reducible exact HG.out) | ((with_reducible refine newBlk _ _ _ _ ?_); (first | rfl | (simp; done))) | ((with_reducible refine bxSetNe ?_ _ _ ?_); (rotate_left); (first | omega | (simp; omega))) | (with_reducible refine drewBlk ?_) | (with_reducible refine oldBlk _ ?_)))))
        have NG : Hid (w7.heap[w5.heap.size]? = some (.cells #[.int .i64 X2, .int .i64 Y2] 33 (0, 0))) := Lib.hid (cells_of_below b7 (by (repeat (first | (with_reducible exact HA.out) | (with_reducible exact HE.out) | (with_reducible exact HG.out) | ((with_reducible refine newBlk _ _ _ _ ?_); (first | rfl | (simp; done))) | ((with_reducible refine bxSetNe ?_ _ _ ?_); (rotate_left); (first | omega | (simp; omega))) | (with_reducible refine drewBlk ?_) | (with_reducible refine oldBlk _ ?_)))))
        have NK : Hid (w7.heap[w6.heap.size]? = some (.cells #[.int .i64 X2, .int .i64 Y2] 33 (0, 0))) := Lib.hid (cells_of_below b7 (by (repeat (first | (with_reducible exact HA.out) | (with_reducible exact HE.out) | (with_reducible exact HG.out) | ((with_reducible refine newBlk _ _ _ _ ?_); (first | rfl | (simp; done))) | ((with_reducible refine bxSetNe ?_ _ _ ?_); (rotate_left); (first | omega | (simp; omega))) | (with_reducible refine drewBlk ?_) | (with_reducible refine oldBlk _ ?_)))))
        have NO : Below w.heap.size w w7 := Below.next (by (repeat (first | (with_reducible exact B0) | ((with_reducible refine Below.st ?_ _ _ _ ?_); (rotate_left); (first | omega | (simp; omega))) | (with_reducible refine Below.al ?_ _) | (with_reducible refine Below.drew ?_)))) b7
        clear cA0 cA1 fA sne dAE dAG dEA dEG dGA dGE HA HE HG B0
        have HA := NA
        have HE := NE
        have HG := NG
        have HK := NK
        have B0 := NO
        clear NA NE NG NK NO
        have lA_7 : w1.heap.size < w7.heap.size := (Array.getElem?_eq_some_iff.1 HA.out).1
        have lE_7 : w3.heap.size < w7.heap.size := (Array.getElem?_eq_some_iff.1 HE.out).1
        have lG_7 : w5.heap.size < w7.heap.size := (Array.getElem?_eq_some_iff.1 HG.out).1
        have lK_7 : w6.heap.size < w7.heap.size := (Array.getElem?_eq_some_iff.1 HK.out).1
        have zz7 := B0.size
        clear b7
        have cA0 := cell_of HA.out 0
        have cA1 := cell_of HA.out 1
        have cE0 := cell_of HE.out 0
        have cE1 := cell_of HE.out 1
        have cG0 := cell_of HG.out 0
        have cG1 := cell_of HG.out 1
        simp only [List.getElem?_toArray, List.getElem?_cons_zero, List.getElem?_cons_succ] at cA0 cA1 cE0 cE1 cG0 cG1
        have fA := free_of HA.out
        have fE := free_of HE.out
        have fG := free_of HG.out
        have sne := bxNe
        have dAE : ¬ w1.heap.size = w3.heap.size := by omega
        have dAG : ¬ w1.heap.size = w5.heap.size := by omega
        have dAK : ¬ w1.heap.size = w6.heap.size := by omega
        have dEA : ¬ w3.heap.size = w1.heap.size := by omega
        have dEG : ¬ w3.heap.size = w5.heap.size := by omega
        have dEK : ¬ w3.heap.size = w6.heap.size := by omega
        have dGA : ¬ w5.heap.size = w1.heap.size := by omega
        have dGE : ¬ w5.heap.size = w3.heap.size := by omega
        have dGK : ¬ w5.heap.size = w6.heap.size := by omega
        have dKA : ¬ w6.heap.size = w1.heap.size := by omega
        have dKE : ¬ w6.heap.size = w3.heap.size := by omega
        have dKG : ¬ w6.heap.size = w5.heap.size := by omega
        go_wp2_with fail
        go_ret
        exact ⟨by first | (simp; done) | rfl, by repeat (first | (with_reducible exact B0) | (with_reducible refine Below.al ?_ _) | (with_reducible refine Below.drew ?_))⟩
      · obtain ⟨hV2, hs2⟩ := HS.out rfl
        have hS2 := Lib.hid hs2
        clear hs2
        clear HS
        have cA0 := cell_of HA.out 0
        have cA1 := cell_of HA.out 1
        simp only [List.getElem?_toArray, List.getElem?_cons_zero, List.getElem?_cons_succ] at cA0 cA1
        have fA := free_of HA.out
        have sne := bxNe
        have dAE : ¬ w1.heap.size = w3.heap.size := by omega
        have dAG : ¬ w1.heap.size = w5.heap.size := by omega
        have dEA : ¬ w3.heap.size = w1.heap.size := by omega
        have dEG : ¬ w3.heap.size = w5.heap.size := by omega
        have dGA : ¬ w5.heap.size = w1.heap.size := by omega
        have dGE : ¬ w5.heap.size = w3.heap.size := by omega
        go_wp2_with fail
        refine (spec_IsValidSubscriberID a b _).mono ?_
        rw [hV]
        rintro e w7 ⟨rfl, ha7⟩
        have b7 := below_of_alloc ha7
        clear ha7
        have NA : Hid (w7.heap[w1.heap.size]? = some (.cells #[.int .i64 a, .int .i64 b] 33 (0, 0))) := Lib.hid (cells_of_below b7 (by (repeat (first | (with_reducible exact HA.out) | (with_reducible exact HE.out) | (with_reducible exact HG.out) | ((with_reducible refine newBlk _ _ _ _ ?_); (first | rfl | (simp; done))) | ((with_reducible refine bxSetNe ?_ _ _ ?_); (rotate_left); (first | omega | (simp; omega))) | (with_reducible refine drewBlk ?_) | (with_reducible refine oldBlk _ ?_)))))
        have NE : Hid (w7.heap[w3.heap.size]? = some (.cells #[.int .i64 a, .int .i64 b] 33 (0, 0))) := Lib.hid (cells_of_below b7 (by (repeat (first | (with_reducible exact HA.out) | (with_reducible exact HE.out) | (with_reducible exact HG.out) | ((with_reducible refine newBlk _ _ _ _ ?_); (first | rfl | (simp; done))) | ((with_reducible refine bxSetNe ?_ _ _ ?_); (rotate_left); (first | omega | (simp; omega))) | (with_reducible refine drewBlk ?_) | (with_reducible refine oldBlk _ ?_)))))
        have NG : Hid (w7.heap[w5.heap.size]? = some (.cells #[.int .i64 X2, .int .i64 Y2] 33 (0, 0))) := Lib.hid (cells_of_below b7 (by (repeat (first | (with_reducible exact HA.out) | (with_reducible exact HE.out) | (with_reducible exact HG.out) | ((with_reducible refine newBlk _ _ _ _ ?_); (first | rfl | (simp; done))) | ((with_reducible refine bxSetNe ?_ _ _ ?_); (rotate_left); (first | omega | (simp; omega))) | (with_reducible refine drewBlk ?_) | (with_reducible refine oldBlk _ ?_)))))
        have NK : Hid (w7.heap[w6.heap.size]? = some (.cells #[.int .i64 X2, .int .i64 Y2] 33 (0, 0))) := Lib.hid (cells_of_below b7 (by (repeat (first | (with_reducible exact HA.out) | (with_reducible exact HE.out) | (with_reducible exact HG.out) | ((with_reducible refine newBlk _ _ _ _ ?_); (first | rfl | (simp; done))) | ((with_reducible refine bxSetNe ?_ _ _ ?_); (rotate_left); (first | omega | (simp; omega))) | (with_reducible refine drewBlk ?_) | (with_reducible refine oldBlk _ ?_)))))
        have NO : Below w.heap.size w w7 := Below.next (by (repeat (first | (with_reducible exact B0) | ((with_reducible refine Below.st ?_ _ _ _ ?_); (rotate_left); (first | omega | (simp; omega))) | (with_reducible refine Below.al ?_ _) | (with_reducible refine Below.drew ?_)))) b7
        clear cA0 cA1 fA sne dAE dAG dEA dEG dGA dGE HA HE HG B0
        have HA := NA
        have HE := NE
        have HG := NG
        have HK := NK
        have B0 := NO
        clear NA NE NG NK NO
        have lA_7 : w1.heap.size < w7.heap.size := (Array.getElem?_eq_some_iff.1 HA.out).1
        have lE_7 : w3.heap.size < w7.heap.size := (Array.getElem?_eq_some_iff.1 HE.out).1
        have lG_7 : w5.heap.size < w7.heap.size := (Array.getElem?_eq_some_iff.1 HG.out).1
        have lK_7 : w6.heap.size < w7.heap.size := (Array.getElem?_eq_some_iff.1 HK.out).1
        have zz7 := B0.size
        clear b7
        have cA0 := cell_of HA.out 0
        have cA1 := cell_of HA.out 1
        have cE0 := cell_of HE.out 0
        have cE1 := cell_of HE.out 1
        have cG0 := cell_of HG.out 0
        have cG1 := cell_of HG.out 1
        simp only [List.getElem?_toArray, List.getElem?_cons_zero, List.getElem?_cons_succ] at cA0 cA1 cE0 cE1 cG0 cG1
        have fA := free_of HA.out
        have fE := free_of HE.out
        have fG := free_of HG.out
        have sne := bxNe
        have dAE : ¬ w1.heap.size = w3.heap.size := by omega
        have dAG : ¬ w1.heap.size = w5.heap.size := by omega
        have dAK : ¬ w1.heap.size = w6.heap.size := by omega
        have dEA : ¬ w3.heap.size = w1.heap.size := by omega
        have dEG : ¬ w3.heap.size = w5.heap.size := by omega
        have dEK : ¬ w3.heap.size = w6.heap.size := by omega
        have dGA : ¬ w5.heap.size = w1.heap.size := by omega
        have dGE : ¬ w5.heap.size = w3.heap.size := by omega
        have dGK : ¬ w5.heap.size = w6.heap.size := by omega
        have dKA : ¬ w6.heap.size = w1.heap.size := by omega
        have dKE : ¬ w6.heap.size = w3.heap.size := by omega
        have dKG : ¬ w6.heap.size = w5.heap.size := by omega
        go_wp2_with fail
        refine (impl_IsValidSubscriberID X2 Y2 _).mono ?_
        rw [hV2]
        rintro e w8 ⟨rfl, ha8⟩
        have b8 := below_of_alloc ha8
        clear ha8
        have NA : Hid (w8.heap[w1.heap.size]? = some (.cells #[.int .i64 a, .int .i64 b] 33 (0, 0))) := Lib.hid (cells_of_below b8 (by (repeat (first | (with_reducible exact HA.out) | (with_reducible exact HE.out) | (with_reducible exact HG.out) | (with_reducible exact HK.out) | ((with_reducible refine newBlk _ _ _ _ ?_); (first | rfl | (simp; done))) | ((with_reducible refine bxSetNe ?_ _ _ ?_); (rotate_left); (first | omega | (simp; omega))) | (with_reducible refine drewBlk ?_) | (with_reducible refine oldBlk _ ?_)))))
        have NE : Hid (w8.heap[w3.heap.size]? = some (.cells #[.int .i64 a, .int .i64 b] 33 (0, 0))) := Lib.hid (cells_of_below b8 (by (repeat (first | (with_reducible exact HA.out) | (with_reducible exact HE.out) | (with_reducible exact HG.out) | (with_reducible exact HK.out) | ((with_reducible refine newBlk _ _ _ _ ?_); (first | rfl | (simp; done))) | ((with_reducible refine bxSetNe ?_ _ _ ?_); (rotate_left); (first | omega | (simp; omega))) | (with_reducible refine drewBlk ?_) | (with_reducible refine oldBlk _ ?_)))))
        have NG : Hid (w8.heap[w5.heap.size]? = some (.cells #[.int .i64 X2, .int .i64 Y2] 33 (0, 0))) := Lib.hid (cells_of_below b8 (by (repeat (first | (with_reducible exact HA.out) | (with_reducible exact HE.out) | (with_reducible exact HG.out) | (with_reducible exact HK.out) | ((with_reducible refine newBlk _ _ _ _ ?_); (first | rfl | (simp; done))) | ((with_reducible refine bxSetNe ?_ _ _ ?_); (rotate_left); (first | omega | (simp; omega))) | (with_reducible refine drewBlk ?_) | (with_reducible refine oldBlk _ ?_)))))
        have NK : Hid (w8.heap[w6.heap.size]? = some (.cells #[.int .i64 X2, .int .i64 Y2] 33 (0, 0))) := Lib.hid (cells_of_below b8 (by (repeat (first | (with_reducible exact HA.out) | (with_reducible exact HE.out) | (with_reducible exact HG.out) | (with_reducible exact HK.out) | ((with_reducible refine newBlk _ _ _ _ ?_); (first | rfl | (simp; done))) | ((with_reducible refine bxSetNe ?_ _ _ ?_); (rotate_left); (first | omega | (simp; omega))) | (with_reducible refine drewBlk ?_) | (with_reducible refine oldBlk _ ?_)))))
        have NO : Below w.heap.size w w8 := Below.next (by (repeat (first | (with_reducible exact B0) | ((with_reducible refine Below.st ?_ _ _ _ ?_); (rotate_left); (first | omega | (simp; omega))) | (with_reducible refine Below.al ?_ _) | (with_reducible refine Below.drew ?_)))) b8
        clear cA0 cA1 cE0 cE1 cG0 cG1 fA fE fG sne dAE dAG dAK dEA dEG dEK dGA dGE dGK dKA dKE dKG HA HE HG HK B0
        have HA := NA
        have HE := NE
        have HG := NG
        have HK := NK
        have B0 := NO
        clear NA NE NG NK NO
        have lA_8 : w1.heap.size < w8.heap.size := (Array.getElem?_eq_some_iff.1 HA.out).1
        have lE_8 : w3.heap.size < w8.heap.size := (Array.getElem?_eq_some_iff.1 HE.out).1
        have lG_8 : w5.heap.size < w8.heap.size := (Array.getElem?_eq_some_iff.1 HG.out).1
        have lK_8 : w6.heap.size < w8.heap.size := (Array.getElem?_eq_some_iff.1 HK.out).1
        have zz8 := B0.size
        clear b8
        have cA0 := cell_of HA.out 0
        have cA1 := cell_of HA.out 1
        have cE0 := cell_of HE.out 0
        have cE1 := cell_of HE.out 1
        have cG0 := cell_of HG.out 0
        have cG1 := cell_of HG.out 1
        simp only [List.getElem?_toArray, List.getElem?_cons_zero, List.getElem?_cons_succ] at cA0 cA1 cE0 cE1 cG0 cG1
        have fA := free_of HA.out
        have fE := free_of HE.out
        have fG := free_of HG.out
        have sne := bxNe
        have dAE : ¬ w1.heap.size = w3.heap.size := by omega
        have dAG : ¬ w1.heap.size = w5.heap.size := by omega
        have dAK : ¬ w1.heap.size = w6.heap.size := by omega
        have dEA : ¬ w3.heap.size = w1.heap.size := by omega
        have dEG : ¬ w3.heap.size = w5.heap.size := by omega
        have dEK : ¬ w3.heap.size = w6.heap.size := by omega
        have dGA : ¬ w5.heap.size = w1.heap.size := by omega
        have dGE : ¬ w5.heap.size = w3.heap.size := by omega
        have dGK : ¬ w5.heap.size = w6.heap.size := by omega
        have dKA : ¬ w6.heap.size = w1.heap.size := by omega
        have dKE : ¬ w6.heap.size = w3.heap.size := by omega
        have dKG : ¬ w6.heap.size = w5.heap.size := by omega
        go_wp2_with fail
        refine (impl_FormatSubscriberID X2 Y2 _ wX2 wY2 (hT.below B0)).mono ?_
        rw [hS2.out]
        rintro e w9 ⟨rfl, b9⟩
        have NA : Hid (w9.heap[w1.heap.size]? = some (.cells #[.int .i64 a, .int .i64 b] 33 (0, 0))) := Lib.hid (cells_of_below b9 (by (repeat (first | (with_reducible exact HA.out) | (with_reducible exact HE.out) | (with_reducible exact HG.out) | (with_reducible exact HK.out) | ((with_reducible refine newBlk _ _ _ _ ?_); (first | rfl | (simp; done))) | ((with_reducible refine bxSetNe ?_ _ _ ?_); (rotate_left); (first | omega | (simp; omega))) | (with_reducible refine drewBlk ?_) | (with_reducible refine oldBlk _ ?_)))))
        have NE : Hid (w9.heap[w3.heap.size]? = some (.cells #[.int .i64 a, .int .i64 b] 33 (0, 0))) := Lib.hid (cells_of_below b9 (by (repeat (first | (with_reducible exact HA.out) | (with_reducible exact HE.out) | (with_reducible exact HG.out) | (with_reducible exact HK.out) | ((with_reducible refine newBlk _ _ _ _ ?_); (first | rfl | (simp; done))) | ((with_reducible refine bxSetNe ?_ _ _ ?_); (rotate_left); (first | omega | (simp; omega))) | (with_reducible refine drewBlk ?_) | (with_reducible refine oldBlk _ ?_)))))
        have NG : Hid (w9.heap[w5.heap.size]? = some (.cells #[.int .i64 X2, .int .i64 Y2] 33 (0, 0))) := Lib.hid (cells_of_below b9 (by (repeat (first | (with_reducible exact HA.out) | (with_reducible exact HE.out) | (with_reducible exact HG.out) | (with_reducible exact HK.out) | ((with_reducible refine newBlk _ _ _ _ ?_); (first | rfl | (simp; done))) | ((with_reducible refine bxSetNe ?_ _ _ ?_); (rotate_left); (first | omega | (simp; omega))) | (with_reducible refine drewBlk ?_) | (with_reducible refine oldBlk _ ?_)))))
        have NK : Hid (w9.heap[w6.heap.size]? = some (.cells #[.int .i64 X2, .int .i64 Y2] 33 (0, 0))) := Lib.hid (cells_of_below b9 (by (repeat (first | (with_reducible exact HA.out) | (with_reducible exact HE.out) | (with_reducible exact HG.out) | (with_reducible exact HK.out) | ((with_reducible refine newBlk _ _ _ _ ?_); (first | rfl | (simp; done))) | ((with_reducible refine bxSetNe ?_ _ _ ?_); (rotate_left); (first | omega | (simp; omega))) | (with_reducible refine drewBlk ?_) | (with_reducible refine oldBlk _ ?_)))))
        have NO : Below w.heap.size w w9 := Below.next (by (repeat (first | (with_reducible exact B0) | ((with_reducible refine Below.st ?_ _ _ _ ?_); (rotate_left); (first | omega | (simp; omega))) | (with_reducible refine Below.al ?_ _) | (with_reducible refine Below.drew ?_)))) b9
        clear cA0 cA1 cE0 cE1 cG0 cG1 fA fE fG sne dAE dAG dAK dEA dEG dEK dGA dGE dGK dKA dKE dKG HA HE HG HK B0
        have HA := NA
        have HE := NE
        have HG := NG
        have HK := NK
        have B0 := NO
        clear NA NE NG NK NO
        have lA_9 : w1.heap.size < w9.heap.size := (Array.getElem?_eq_some_iff.1 HA.out).1
        have lE_9 : w3.heap.size < w9.heap.size := (Array.getElem?_eq_some_iff.1 HE.out).1
        have lG_9 : w5.heap.size < w9.heap.size := (Array.getElem?_eq_some_iff.1 HG.out).1
        have lK_9 : w6.heap.size < w9.heap.size := (Array.getElem?_eq_some_iff.1 HK.out).1
        have zz9 := B0.size
        clear b9
        go_wp2_with fail
        go_ret
        exact ⟨by first | (simp; done) | rfl, by repeat (first | (with_reducible exact B0) | (with_reducible refine Below.al ?_ _) | (with_reducible refine Below.drew ?_))⟩
  · go_enter Tryd.func4, Tryd.ntmps4
    go_wp2_with fail
    refine (laws_big_yes _ _ _ _ (by omega)).mono ?_
    rintro e w' ⟨rfl, rfl⟩
    go_wp2_with fail
    go_ret
    exact ⟨rfl, Below.refl _ _⟩

/-! The row: the frame round the walk; then the card. -/
set_option maxRecDepth 100000 in
theorem contract (H : Type) (enc : TypeId × Value → H) (W : World) (base : Nat) (args : Array Value) (ds gs : List (DataW H)) (before : List MemPlace)
    (hval0 : ∀ (j : Nat) t v, Tryd.f4.params[j]? = some t → args[j]? = some v → Value.okWide Tryd.prog W .any base t v)
    (hW : DataW.Whole enc Tryd.prog Tryd.f4.params.toList Rows.fnSubscriberIDsSpec.vars false W args.toList ds gs before) (hL : laidMetH Tryd.prog Rows.fnSubscriberIDsRow.laid W) :
    Calls Tryd.prog 4 args W fun e W' => ∃ v, e = .returned v ∧ Rows.fnSubscriberIDsSpec.post enc Tryd.prog Tryd.f4 false true false false W args v W' := by
  have hval : ∀ (j : Nat) t v, Tryd.f4.params[j]? = some t → args[j]? = some v → Value.okWide Tryd.prog W .any base t v := hval0
  have hW' := hW
  obtain ⟨p, q, hA0, hV, rfl, hfz, hnd⟩ := hW
  have hA : DataW.TrodAll enc Tryd.prog W 0 (fun _ => true) true Tryd.f4.params.toList args.toList ds p := hA0
  rw [Tryd.params4] at hA hval
  obtain ⟨v0, vs0, d0, ds0, p0, q0, hargs, rfl, rfl, h0, rr0⟩ := trodAll_cons hA
  obtain ⟨rfl, rfl, rfl⟩ := trodAll_nil rr0
  obtain rfl : args = #[v0] := by cases args; simp_all
  obtain ⟨rfl, rfl⟩ := trodVars_none hV
  have k0 := h0
  have lt0 : ∀ x ∈ p0, x.block < W.heap.size := by obtain ⟨m, hm⟩ := k0; exact DataW.trod_lt m _ _ _ hm
  obtain ⟨a0, len0, cap0, rfl⟩ := okWide_slice Tryd.underlying22 (hval 0 22 v0 rfl rfl)
  obtain ⟨z0, _, r0, w0⟩ := rd_of_trod Tryd.underlying22 Tryd.underlying5 (by kernel_rfl) (fun _ => rfl) h0
  clear hA0 hval0
  refine (walk _ z0 W r0 w0 (table hL)).mono fun e W' ⟨he, bel⟩ => ?_
  subst he
  exact ⟨_, rfl, _, _, _, [], _, [], hW', trodAll_mk1 (shut_bool Tryd.underlying4 _), (trodAll_cons_mk (Below.trod laidOut (by kernel_rfl) (of_decide_eq_true (by kernel_rfl)) k0 bel lt0) trodAll_mk0), rfl, bel.frame _, fun h => by cases h⟩
theorem laid_met (os : Os) : laidMet Tryd.prog Rows.fnSubscriberIDsRow.laid ((laidWorld os).forCall (fun _ _ => 0) ⟨#[], #[.slice none 0 0], []⟩).memory := laidMet_of_run' 8 (by kernel_rfl) (by kernel_rfl)
theorem reads (os : Os) {H : Type} (enc : TypeId × Value → H) : ∃ places, DataW.whole enc Tryd.prog ((laidWorld os).forCall (fun _ _ => 0) ⟨#[], #[.slice none 0 0], []⟩).memory Tryd.f4.params.toList Rows.fnSubscriberIDsSpec.vars false (#[.slice none 0 0] : Array Value).toList 8 = some ([.nil], [], places) := ⟨[], by kernel_rfl⟩
set_option maxRecDepth 100000 in
theorem lifted (os : Os) (started : os.Started) (H : Type) (enc : TypeId × Value → H) (F : Stop.Interp) :
    ReturnsInHanded {} Tryd.checked os 4 .any ((OpenSpec.ofChange Rows.fnSubscriberIDsSpec).preRow enc Tryd.prog Tryd.f4 Rows.fnSubscriberIDsRow.domain false Rows.fnSubscriberIDsRow.laid) (((OpenSpec.ofChange Rows.fnSubscriberIDsSpec).at F).post enc Tryd.prog Tryd.f4 false true false false) := by
  obtain ⟨places, hx⟩ := reads os enc
  refine returnsInHanded_of_row (C := Tryd.checked) (s := OpenSpec.ofChange Rows.fnSubscriberIDsSpec) own started (by kernel_rfl) Tryd.func4
    (witness_row_at (enc := enc) (C := Tryd.checked) false (laidWorld os) #[.slice none 0 0] rfl (by kernel_rfl) (by kernel_rfl) (by kernel_rfl)
      (OpenSpec.preRow_of_cond 8 hx (by kernel_rfl) (fun k hk => by cases hk) (by kernel_rfl) (laid_met os))) ?_
  intro W base args ds gs before hval hW _ _ _ hL _ _
  exact contract H enc W base args ds gs before hval hW hL
theorem said : Rows.FnSubscriberIDsSaid :=
  OpenClaim.holds_of_cond 4 Tryd.f4 rfl rfl rfl rfl rfl rfl rfl ⟨rfl, rfl, rfl, rfl, rfl⟩ rfl rfl rfl rfl rfl (by kernel_rfl) Tryd.func4 (by kernel_rfl)
    (of_decide_eq_true (by kernel_rfl)) (by unfold Func.isWrapper; first | (rw [if_pos (by decide +kernel)]; kernel_rfl) | (rw [if_neg (by decide +kernel)]; exact ⟨rfl, rfl⟩))
    (fun os started H enc _ F => by rw [OpenClaim.pre_eq_preRow]; exact lifted os started H enc F)
theorem plain (f : FuncId) (fn : Func) (hf : Tryd.pinned.checked.prog.funcNamed "loop.example/g00509/laws.FnSubscriberIDs" = some f) (hfn : Tryd.pinned.checked.prog.funcs[f]? = some fn) :
    false = Tryd.pinned.checked.prog.looks [] ∧ ∀ (j : Nat) t, fn.params[j]? = some t → Tryd.pinned.checked.prog.wantsStandIn t = false := by
  obtain rfl : f = 4 := Option.some.inj ((show Tryd.prog.funcNamed "loop.example/g00509/laws.FnSubscriberIDs" = some 4 by kernel_rfl).symm.trans hf) |>.symm
  obtain rfl : fn = Tryd.f4 := (Option.some.inj (Tryd.func4.symm.trans hfn)).symm
  refine ⟨by kernel_rfl, fun j t ht => ?_⟩
  rw [Tryd.params4] at ht
  have hm : t ∈ [22] := by simpa using Array.mem_of_getElem? ht
  have hall : ([22].all fun u => !Tryd.prog.wantsStandIn u) = true := by kernel_rfl
  exact (show Tryd.prog.wantsStandIn t = false by simpa using List.all_eq_true.1 hall t hm)
/-- THE STATEMENT -/
theorem proved : Rows.FnSubscriberIDsCardSaid :=
  Claim7.holds_tied_plain_at .later [] _ _ _ _ said (fun _ h => by cases h) (by kernel_rfl) (fun _ h => by cases h) fnSubscriberIDs_row_tie rfl ⟨rfl, rfl⟩ (by kernel_rfl) rfl plain (by kernel_rfl)
#print axioms proved
end Go.Proofs.YtflpdapalfgodaaDoor.lawFnSubscriberIDs
