/-
  Contracts: a card and a record authenticate each other, the reference.
-/
import Derived.Test.YtfenmicakmjelaaAu
import Derived.RegionTactic
import Derived.BigRegion
namespace Go.Proofs.Ytfenmicakmjelaa
open Go.RowKit

set_option maxRecDepth 100000 in
set_option maxHeartbeats 16000000 in
theorem spec_Authenticate (a b k l a' b' k' s r : Int) (w : World) (hk : (Lit.int .i64 k').wf = true) (hr : (Lit.int .i64 r).wf = true)
    (s1 v0 v1 v2 v3 v4 c1 l1 e1 y1 t1 s2 s3 p0 p1 p2 p3 p4 c2 l2 e2 y2 t2 lf sf kf : Int) (h1 : Try1 a b k l a' b' k' s r s1 v0 v1 v2 v3 v4 c1 l1 e1 y1 t1) (hs2 : s2 = M.rsSeq k' s1 r t1) (h2 : Try1 a b k l1 a' b' k' s2 (wrap64 (r + 1)) s3 p0 p1 p2 p3 p4 c2 l2 e2 y2 t2)
    (hf : if c1 = 2 ∨ c1 = 3 then lf = l2 ∧ sf = s3 ∧ kf = endKey c2 e2 p3 y2 else lf = l1 ∧ sf = s1 ∧ kf = endKey c1 e1 v3 y1) :
    Calls Try.prog 8 #[.agg #[.int .i64 a, .int .i64 b, .int .i64 k, .int .i64 l], .agg #[.int .i64 a', .int .i64 b', .int .i64 k', .int .i64 s], .int .i64 r] w fun e w' => e = .returned (.tuple #[.agg #[.int .i64 a, .int .i64 b, .int .i64 k, .int .i64 lf], .agg #[.int .i64 a', .int .i64 b', .int .i64 k', .int .i64 sf], .int .i64 kf]) ∧ Below w.heap.size w w' := by
  obtain ⟨g1, g2, g3, g4, g5, g6, g7, g8, g9, g10, g11⟩ := h1
  obtain ⟨i1, i2, i3, i4, i5, i6, i7, i8, i9, i10, i11⟩ := h2
  obtain ⟨wv0, wv1⟩ := na_wf a' b' k' s r hr
  rw [← g2] at wv0
  rw [← g3] at wv1
  have hr1 : (Lit.int .i64 (wrap64 (r + 1))).wf = true := wrap64_wf _
  obtain ⟨wp0, wp1⟩ := na_wf a' b' k' s2 (wrap64 (r + 1)) hr1
  rw [← i2] at wp0
  rw [← i3] at wp1
  have wt1 := tok_wf c1 k l v0
  rw [← g11] at wt1
  have G1 := Lib.hid g1
  have G2 := Lib.hid g2
  have G3 := Lib.hid g3
  have G4 := Lib.hid g4
  have G5 := Lib.hid g5
  have G6 := Lib.hid g6
  have G7 := Lib.hid g7
  have G8 := Lib.hid g8
  have G9 := Lib.hid g9
  have G10 := Lib.hid g10
  have G11 := Lib.hid g11
  have I1 := Lib.hid i1
  have I2 := Lib.hid i2
  have I3 := Lib.hid i3
  have I4 := Lib.hid i4
  have I5 := Lib.hid i5
  have I6 := Lib.hid i6
  have I7 := Lib.hid i7
  have I8 := Lib.hid i8
  have I9 := Lib.hid i9
  have I10 := Lib.hid i10
  have I11 := Lib.hid i11
  have HS2 := Lib.hid hs2
  clear g1 g2 g3 g4 g5 g6 g7 g8 g9 g10 g11 i1 i2 i3 i4 i5 i6 i7 i8 i9 i10 i11 hs2
  have HF := Lib.hid hf
  clear hf
  have HC : Hid (((((w.alloc (.cells #[.int .i64 a, .int .i64 b, .int .i64 k, .int .i64 l] 30)).alloc (.cells #[.int .i64 a', .int .i64 b', .int .i64 k', .int .i64 s] 32)).alloc (.cells #[.int .i64 0, .int .i64 0, .int .i64 0, .int .i64 0] 30)).alloc (.cells #[.int .i64 0, .int .i64 0, .int .i64 0, .int .i64 0] 32)).heap[w.heap.size]? = some (.cells #[.int .i64 a, .int .i64 b, .int .i64 k, .int .i64 l] 30 (0, 0))) := Lib.hid (by (repeat (first  | ((with_reducible refine newBlk _ _ _ _ ?_); (simp; done)) | (with_reducible apply store4g) | (with_reducible apply store5g) | ((with_reducible refine store4ne ?_ ?_); (first | omega | (simp; omega))) | ((with_reducible refine store5ne ?_ ?_); (first | omega | (simp; omega)))  | (with_reducible refine drewBlk ?_) | (with_reducible refine oldBlk _ ?_))))
  have HR : Hid (((((w.alloc (.cells #[.int .i64 a, .int .i64 b, .int .i64 k, .int .i64 l] 30)).alloc (.cells #[.int .i64 a', .int .i64 b', .int .i64 k', .int .i64 s] 32)).alloc (.cells #[.int .i64 0, .int .i64 0, .int .i64 0, .int .i64 0] 30)).alloc (.cells #[.int .i64 0, .int .i64 0, .int .i64 0, .int .i64 0] 32)).heap[w.heap.size + 1]? = some (.cells #[.int .i64 a', .int .i64 b', .int .i64 k', .int .i64 s] 32 (0, 0))) := Lib.hid (by (repeat (first  | ((with_reducible refine newBlk _ _ _ _ ?_); (simp; done)) | (with_reducible apply store4g) | (with_reducible apply store5g) | ((with_reducible refine store4ne ?_ ?_); (first | omega | (simp; omega))) | ((with_reducible refine store5ne ?_ ?_); (first | omega | (simp; omega)))  | (with_reducible refine drewBlk ?_) | (with_reducible refine oldBlk _ ?_))))
  have HP : Hid (((((w.alloc (.cells #[.int .i64 a, .int .i64 b, .int .i64 k, .int .i64 l] 30)).alloc (.cells #[.int .i64 a', .int .i64 b', .int .i64 k', .int .i64 s] 32)).alloc (.cells #[.int .i64 0, .int .i64 0, .int .i64 0, .int .i64 0] 30)).alloc (.cells #[.int .i64 0, .int .i64 0, .int .i64 0, .int .i64 0] 32)).heap[w.heap.size + 1 + 1]? = some (.cells #[.int .i64 0, .int .i64 0, .int .i64 0, .int .i64 0] 30 (0, 0))) := Lib.hid (by (repeat (first  | ((with_reducible refine newBlk _ _ _ _ ?_); (simp; done)) | (with_reducible apply store4g) | (with_reducible apply store5g) | ((with_reducible refine store4ne ?_ ?_); (first | omega | (simp; omega))) | ((with_reducible refine store5ne ?_ ?_); (first | omega | (simp; omega)))  | (with_reducible refine drewBlk ?_) | (with_reducible refine oldBlk _ ?_))))
  have HQ : Hid (((((w.alloc (.cells #[.int .i64 a, .int .i64 b, .int .i64 k, .int .i64 l] 30)).alloc (.cells #[.int .i64 a', .int .i64 b', .int .i64 k', .int .i64 s] 32)).alloc (.cells #[.int .i64 0, .int .i64 0, .int .i64 0, .int .i64 0] 30)).alloc (.cells #[.int .i64 0, .int .i64 0, .int .i64 0, .int .i64 0] 32)).heap[w.heap.size + 1 + 1 + 1]? = some (.cells #[.int .i64 0, .int .i64 0, .int .i64 0, .int .i64 0] 32 (0, 0))) := Lib.hid (by (repeat (first  | ((with_reducible refine newBlk _ _ _ _ ?_); (simp; done)) | (with_reducible apply store4g) | (with_reducible apply store5g) | ((with_reducible refine store4ne ?_ ?_); (first | omega | (simp; omega))) | ((with_reducible refine store5ne ?_ ?_); (first | omega | (simp; omega)))  | (with_reducible refine drewBlk ?_) | (with_reducible refine oldBlk _ ?_))))
  have B0 : Below w.heap.size w ((((w.alloc (.cells #[.int .i64 a, .int .i64 b, .int .i64 k, .int .i64 l] 30)).alloc (.cells #[.int .i64 a', .int .i64 b', .int .i64 k', .int .i64 s] 32)).alloc (.cells #[.int .i64 0, .int .i64 0, .int .i64 0, .int .i64 0] 30)).alloc (.cells #[.int .i64 0, .int .i64 0, .int .i64 0, .int .i64 0] 32)) := Below.al (Below.al (Below.al (Below.al (Below.refl _ _) _) _) _) _
  go_enter Try.func8, Try.ntmps8
  have cal := cell_al
  have fal := froz_al
  have sne := set_ne
  have c0C0 := cell_of HC.out 0
  have c0C1 := cell_of HC.out 1
  have c0C2 := cell_of HC.out 2
  have c0C3 := cell_of HC.out 3
  have c0R0 := cell_of HR.out 0
  have c0R1 := cell_of HR.out 1
  have c0R2 := cell_of HR.out 2
  have c0R3 := cell_of HR.out 3
  have c0P0 := cell_of HP.out 0
  have c0P1 := cell_of HP.out 1
  have c0P2 := cell_of HP.out 2
  have c0P3 := cell_of HP.out 3
  have c0Q0 := cell_of HQ.out 0
  have c0Q1 := cell_of HQ.out 1
  have c0Q2 := cell_of HQ.out 2
  have c0Q3 := cell_of HQ.out 3
  simp only [List.getElem?_toArray, List.getElem?_cons_zero, List.getElem?_cons_succ] at c0C0 c0C1 c0C2 c0C3 c0R0 c0R1 c0R2 c0R3 c0P0 c0P1 c0P2 c0P3 c0Q0 c0Q1 c0Q2 c0Q3
  have frc0C := free_of HC.out
  have frc0R := free_of HR.out
  have frc0P := free_of HP.out
  have frc0Q := free_of HQ.out
  have d0CR : ¬ w.heap.size = w.heap.size + 1 := by omega
  have d0CP : ¬ w.heap.size = w.heap.size + 1 + 1 := by omega
  have d0CQ : ¬ w.heap.size = w.heap.size + 1 + 1 + 1 := by omega
  have d0RC : ¬ w.heap.size + 1 = w.heap.size := by omega
  have d0RP : ¬ w.heap.size + 1 = w.heap.size + 1 + 1 := by omega
  have d0RQ : ¬ w.heap.size + 1 = w.heap.size + 1 + 1 + 1 := by omega
  have d0PC : ¬ w.heap.size + 1 + 1 = w.heap.size := by omega
  have d0PR : ¬ w.heap.size + 1 + 1 = w.heap.size + 1 := by omega
  have d0PQ : ¬ w.heap.size + 1 + 1 = w.heap.size + 1 + 1 + 1 := by omega
  have d0QC : ¬ w.heap.size + 1 + 1 + 1 = w.heap.size := by omega
  have d0QR : ¬ w.heap.size + 1 + 1 + 1 = w.heap.size + 1 := by omega
  have d0QP : ¬ w.heap.size + 1 + 1 + 1 = w.heap.size + 1 + 1 := by omega
  go_wp2_with fail
  refine (spec_NextAuthVector a' b' k' s r _ hr).mono ?_
  rw [← G1.out, ← G2.out, ← G3.out, ← G4.out, ← G5.out, ← G6.out]
  rintro e u1 ⟨rfl, b1⟩
  have NC : Hid (u1.heap[w.heap.size]? = some (.cells #[.int .i64 a, .int .i64 b, .int .i64 k, .int .i64 l] 30 (0, 0))) := Lib.hid (cells_of_below b1 (by (repeat (first | (with_reducible exact HC.out) | (with_reducible exact HR.out) | (with_reducible exact HP.out) | (with_reducible exact HQ.out) | ((with_reducible refine newBlk _ _ _ _ ?_); (simp; done)) | (with_reducible apply store4g) | (with_reducible apply store5g) | ((with_reducible refine store4ne ?_ ?_); (first | omega | (simp; omega))) | ((with_reducible refine store5ne ?_ ?_); (first | omega | (simp; omega)))  | (with_reducible refine drewBlk ?_) | (with_reducible refine oldBlk _ ?_)))))
  have NR : Hid (u1.heap[w.heap.size + 1]? = some (.cells #[.int .i64 a', .int .i64 b', .int .i64 k', .int .i64 s] 32 (0, 0))) := Lib.hid (cells_of_below b1 (by (repeat (first | (with_reducible exact HC.out) | (with_reducible exact HR.out) | (with_reducible exact HP.out) | (with_reducible exact HQ.out) | ((with_reducible refine newBlk _ _ _ _ ?_); (simp; done)) | (with_reducible apply store4g) | (with_reducible apply store5g) | ((with_reducible refine store4ne ?_ ?_); (first | omega | (simp; omega))) | ((with_reducible refine store5ne ?_ ?_); (first | omega | (simp; omega)))  | (with_reducible refine drewBlk ?_) | (with_reducible refine oldBlk _ ?_)))))
  have NP : Hid (u1.heap[w.heap.size + 1 + 1]? = some (.cells #[.int .i64 0, .int .i64 0, .int .i64 0, .int .i64 0] 30 (0, 0))) := Lib.hid (cells_of_below b1 (by (repeat (first | (with_reducible exact HC.out) | (with_reducible exact HR.out) | (with_reducible exact HP.out) | (with_reducible exact HQ.out) | ((with_reducible refine newBlk _ _ _ _ ?_); (simp; done)) | (with_reducible apply store4g) | (with_reducible apply store5g) | ((with_reducible refine store4ne ?_ ?_); (first | omega | (simp; omega))) | ((with_reducible refine store5ne ?_ ?_); (first | omega | (simp; omega)))  | (with_reducible refine drewBlk ?_) | (with_reducible refine oldBlk _ ?_)))))
  have NQ : Hid (u1.heap[w.heap.size + 1 + 1 + 1]? = some (.cells #[.int .i64 0, .int .i64 0, .int .i64 0, .int .i64 0] 32 (0, 0))) := Lib.hid (cells_of_below b1 (by (repeat (first | (with_reducible exact HC.out) | (with_reducible exact HR.out) | (with_reducible exact HP.out) | (with_reducible exact HQ.out) | ((with_reducible refine newBlk _ _ _ _ ?_); (simp; done)) | (with_reducible apply store4g) | (with_reducible apply store5g) | ((with_reducible refine store4ne ?_ ?_); (first | omega | (simp; omega))) | ((with_reducible refine store5ne ?_ ?_); (first | omega | (simp; omega)))  | (with_reducible refine drewBlk ?_) | (with_reducible refine oldBlk _ ?_)))))
  have NB : Below w.heap.size w u1 := Below.next (by (repeat (first | (with_reducible exact B0) | ((with_reducible refine store4below ?_ ?_); (first | omega | (simp; omega))) | ((with_reducible refine store5below ?_ ?_); (first | omega | (simp; omega))) | (with_reducible refine Below.drew ?_) | (with_reducible refine Below.al ?_ _)))) b1
  clear c0C0 c0C1 c0C2 c0C3 c0R0 c0R1 c0R2 c0R3 c0P0 c0P1 c0P2 c0P3 c0Q0 c0Q1 c0Q2 c0Q3 frc0C frc0R frc0P frc0Q d0CR d0CP d0CQ d0RC d0RP d0RQ d0PC d0PR d0PQ d0QC d0QR d0QP HC HR HP HQ B0 b1
  have HC := NC
  have HR := NR
  have HP := NP
  have HQ := NQ
  have B0 := NB
  clear NC NR NP NQ NB
  have zC1 := (Array.getElem?_eq_some_iff.1 HC.out).1
  have zR1 := (Array.getElem?_eq_some_iff.1 HR.out).1
  have zP1 := (Array.getElem?_eq_some_iff.1 HP.out).1
  have zQ1 := (Array.getElem?_eq_some_iff.1 HQ.out).1
  have zy1 := B0.size
  have c1C0 := cell_of HC.out 0
  have c1C1 := cell_of HC.out 1
  have c1C2 := cell_of HC.out 2
  have c1C3 := cell_of HC.out 3
  have c1R0 := cell_of HR.out 0
  have c1R1 := cell_of HR.out 1
  have c1R2 := cell_of HR.out 2
  have c1R3 := cell_of HR.out 3
  have c1P0 := cell_of HP.out 0
  have c1P1 := cell_of HP.out 1
  have c1P2 := cell_of HP.out 2
  have c1P3 := cell_of HP.out 3
  have c1Q0 := cell_of HQ.out 0
  have c1Q1 := cell_of HQ.out 1
  have c1Q2 := cell_of HQ.out 2
  have c1Q3 := cell_of HQ.out 3
  simp only [List.getElem?_toArray, List.getElem?_cons_zero, List.getElem?_cons_succ] at c1C0 c1C1 c1C2 c1C3 c1R0 c1R1 c1R2 c1R3 c1P0 c1P1 c1P2 c1P3 c1Q0 c1Q1 c1Q2 c1Q3
  have frc1C := free_of HC.out
  have frc1R := free_of HR.out
  have frc1P := free_of HP.out
  have frc1Q := free_of HQ.out
  have d1CR : ¬ w.heap.size = w.heap.size + 1 := by omega
  have d1CP : ¬ w.heap.size = w.heap.size + 1 + 1 := by omega
  have d1CQ : ¬ w.heap.size = w.heap.size + 1 + 1 + 1 := by omega
  have d1RC : ¬ w.heap.size + 1 = w.heap.size := by omega
  have d1RP : ¬ w.heap.size + 1 = w.heap.size + 1 + 1 := by omega
  have d1RQ : ¬ w.heap.size + 1 = w.heap.size + 1 + 1 + 1 := by omega
  have d1PC : ¬ w.heap.size + 1 + 1 = w.heap.size := by omega
  have d1PR : ¬ w.heap.size + 1 + 1 = w.heap.size + 1 := by omega
  have d1PQ : ¬ w.heap.size + 1 + 1 = w.heap.size + 1 + 1 + 1 := by omega
  have d1QC : ¬ w.heap.size + 1 + 1 + 1 = w.heap.size := by omega
  have d1QR : ¬ w.heap.size + 1 + 1 + 1 = w.heap.size + 1 := by omega
  have d1QP : ¬ w.heap.size + 1 + 1 + 1 = w.heap.size + 1 + 1 := by omega
  go_wp2_with fail
  refine (spec_RespondToChallenge a b k l v0 v1 v2 v3 v4 _ wv0 wv1).mono ?_
  rw [← G7.out, ← G8.out, ← G9.out, ← G10.out, ← G11.out]
  rintro e u2 ⟨rfl, b2⟩
  have NC : Hid (u2.heap[w.heap.size]? = some (.cells #[.int .i64 a, .int .i64 b, .int .i64 k, .int .i64 l] 30 (0, 0))) := Lib.hid (cells_of_below b2 (by (repeat (first | (with_reducible exact HC.out) | (with_reducible exact HR.out) | (with_reducible exact HP.out) | (with_reducible exact HQ.out) | ((with_reducible refine newBlk _ _ _ _ ?_); (simp; done)) | (with_reducible apply store4g) | (with_reducible apply store5g) | ((with_reducible refine store4ne ?_ ?_); (first | omega | (simp; omega))) | ((with_reducible refine store5ne ?_ ?_); (first | omega | (simp; omega)))  | (with_reducible refine drewBlk ?_) | (with_reducible refine oldBlk _ ?_)))))
  have NR : Hid (u2.heap[w.heap.size + 1]? = some (.cells #[.int .i64 a', .int .i64 b', .int .i64 k', .int .i64 s] 32 (0, 0))) := Lib.hid (cells_of_below b2 (by (repeat (first | (with_reducible exact HC.out) | (with_reducible exact HR.out) | (with_reducible exact HP.out) | (with_reducible exact HQ.out) | ((with_reducible refine newBlk _ _ _ _ ?_); (simp; done)) | (with_reducible apply store4g) | (with_reducible apply store5g) | ((with_reducible refine store4ne ?_ ?_); (first | omega | (simp; omega))) | ((with_reducible refine store5ne ?_ ?_); (first | omega | (simp; omega)))  | (with_reducible refine drewBlk ?_) | (with_reducible refine oldBlk _ ?_)))))
  have NP : Hid (u2.heap[w.heap.size + 1 + 1]? = some (.cells #[.int .i64 0, .int .i64 0, .int .i64 0, .int .i64 0] 30 (0, 0))) := Lib.hid (cells_of_below b2 (by (repeat (first | (with_reducible exact HC.out) | (with_reducible exact HR.out) | (with_reducible exact HP.out) | (with_reducible exact HQ.out) | ((with_reducible refine newBlk _ _ _ _ ?_); (simp; done)) | (with_reducible apply store4g) | (with_reducible apply store5g) | ((with_reducible refine store4ne ?_ ?_); (first | omega | (simp; omega))) | ((with_reducible refine store5ne ?_ ?_); (first | omega | (simp; omega)))  | (with_reducible refine drewBlk ?_) | (with_reducible refine oldBlk _ ?_)))))
  have NQ : Hid (u2.heap[w.heap.size + 1 + 1 + 1]? = some (.cells #[.int .i64 0, .int .i64 0, .int .i64 0, .int .i64 0] 32 (0, 0))) := Lib.hid (cells_of_below b2 (by (repeat (first | (with_reducible exact HC.out) | (with_reducible exact HR.out) | (with_reducible exact HP.out) | (with_reducible exact HQ.out) | ((with_reducible refine newBlk _ _ _ _ ?_); (simp; done)) | (with_reducible apply store4g) | (with_reducible apply store5g) | ((with_reducible refine store4ne ?_ ?_); (first | omega | (simp; omega))) | ((with_reducible refine store5ne ?_ ?_); (first | omega | (simp; omega)))  | (with_reducible refine drewBlk ?_) | (with_reducible refine oldBlk _ ?_)))))
  have NT : Hid (u2.heap[u1.heap.size]? = some (.cells #[.int .i64 a', .int .i64 b', .int .i64 k', .int .i64 s1] 32 (0, 0))) := Lib.hid (cells_of_below b2 (by (repeat (first | (with_reducible exact HC.out) | (with_reducible exact HR.out) | (with_reducible exact HP.out) | (with_reducible exact HQ.out) | ((with_reducible refine newBlk _ _ _ _ ?_); (simp; done)) | (with_reducible apply store4g) | (with_reducible apply store5g) | ((with_reducible refine store4ne ?_ ?_); (first | omega | (simp; omega))) | ((with_reducible refine store5ne ?_ ?_); (first | omega | (simp; omega)))  | (with_reducible refine drewBlk ?_) | (with_reducible refine oldBlk _ ?_)))))
  have NV : Hid (u2.heap[u1.heap.size + 1]? = some (.cells #[.int .i64 v0, .int .i64 v1, .int .i64 v2, .int .i64 v3, .int .i64 v4] 45 (0, 0))) := Lib.hid (cells_of_below b2 (by (repeat (first | (with_reducible exact HC.out) | (with_reducible exact HR.out) | (with_reducible exact HP.out) | (with_reducible exact HQ.out) | ((with_reducible refine newBlk _ _ _ _ ?_); (simp; done)) | (with_reducible apply store4g) | (with_reducible apply store5g) | ((with_reducible refine store4ne ?_ ?_); (first | omega | (simp; omega))) | ((with_reducible refine store5ne ?_ ?_); (first | omega | (simp; omega)))  | (with_reducible refine drewBlk ?_) | (with_reducible refine oldBlk _ ?_)))))
  have NB : Below w.heap.size w u2 := Below.next (by (repeat (first | (with_reducible exact B0) | ((with_reducible refine store4below ?_ ?_); (first | omega | (simp; omega))) | ((with_reducible refine store5below ?_ ?_); (first | omega | (simp; omega))) | (with_reducible refine Below.drew ?_) | (with_reducible refine Below.al ?_ _)))) b2
  clear c1C0 c1C1 c1C2 c1C3 c1R0 c1R1 c1R2 c1R3 c1P0 c1P1 c1P2 c1P3 c1Q0 c1Q1 c1Q2 c1Q3 frc1C frc1R frc1P frc1Q d1CR d1CP d1CQ d1RC d1RP d1RQ d1PC d1PR d1PQ d1QC d1QR d1QP HC HR HP HQ B0 b2
  have HC := NC
  have HR := NR
  have HP := NP
  have HQ := NQ
  have HT := NT
  have HV := NV
  have B0 := NB
  clear NC NR NP NQ NT NV NB
  have zC2 := (Array.getElem?_eq_some_iff.1 HC.out).1
  have zR2 := (Array.getElem?_eq_some_iff.1 HR.out).1
  have zP2 := (Array.getElem?_eq_some_iff.1 HP.out).1
  have zQ2 := (Array.getElem?_eq_some_iff.1 HQ.out).1
  have zT2 := (Array.getElem?_eq_some_iff.1 HT.out).1
  have zV2 := (Array.getElem?_eq_some_iff.1 HV.out).1
  have zy2 := B0.size
  by_cases hc : c1 = 2 ∨ c1 = 3
  · obtain ⟨rfl, rfl, hkf0⟩ : l2 = lf ∧ s3 = sf ∧ kf = endKey c2 e2 p3 y2 := by have h := HF.out; rw [if_pos hc] at h; exact ⟨h.1.symm, h.2.1.symm, h.2.2⟩
    clear HF
    have hcc : (c1 == 2) = true ∨ ((c1 == 2) = false ∧ (c1 == 3) = true) := by
      rcases hc with rfl | rfl
      · exact .inl rfl
      · exact .inr ⟨rfl, rfl⟩
    clear hc
    rcases hcc with hb2 | ⟨hb2, hb3⟩
    all_goals
      have c2C0 := cell_of HC.out 0
      have c2C1 := cell_of HC.out 1
      have c2C2 := cell_of HC.out 2
      have c2C3 := cell_of HC.out 3
      have c2R0 := cell_of HR.out 0
      have c2R1 := cell_of HR.out 1
      have c2R2 := cell_of HR.out 2
      have c2R3 := cell_of HR.out 3
      have c2P0 := cell_of HP.out 0
      have c2P1 := cell_of HP.out 1
      have c2P2 := cell_of HP.out 2
      have c2P3 := cell_of HP.out 3
      have c2Q0 := cell_of HQ.out 0
      have c2Q1 := cell_of HQ.out 1
      have c2Q2 := cell_of HQ.out 2
      have c2Q3 := cell_of HQ.out 3
      have c2T0 := cell_of HT.out 0
      have c2T1 := cell_of HT.out 1
      have c2T2 := cell_of HT.out 2
      have c2T3 := cell_of HT.out 3
      have c2V0 := cell_of HV.out 0
      have c2V1 := cell_of HV.out 1
      have c2V2 := cell_of HV.out 2
      have c2V3 := cell_of HV.out 3
      have c2V4 := cell_of HV.out 4
      simp only [List.getElem?_toArray, List.getElem?_cons_zero, List.getElem?_cons_succ] at c2C0 c2C1 c2C2 c2C3 c2R0 c2R1 c2R2 c2R3 c2P0 c2P1 c2P2 c2P3 c2Q0 c2Q1 c2Q2 c2Q3 c2T0 c2T1 c2T2 c2T3 c2V0 c2V1 c2V2 c2V3 c2V4
      have frc2C := free_of HC.out
      have frc2R := free_of HR.out
      have frc2P := free_of HP.out
      have frc2Q := free_of HQ.out
      have frc2T := free_of HT.out
      have frc2V := free_of HV.out
      have d2CR : ¬ w.heap.size = w.heap.size + 1 := by omega
      have d2CP : ¬ w.heap.size = w.heap.size + 1 + 1 := by omega
      have d2CQ : ¬ w.heap.size = w.heap.size + 1 + 1 + 1 := by omega
      have d2CT : ¬ w.heap.size = u1.heap.size := by omega
      have d2CV : ¬ w.heap.size = u1.heap.size + 1 := by omega
      have d2RC : ¬ w.heap.size + 1 = w.heap.size := by omega
      have d2RP : ¬ w.heap.size + 1 = w.heap.size + 1 + 1 := by omega
      have d2RQ : ¬ w.heap.size + 1 = w.heap.size + 1 + 1 + 1 := by omega
      have d2RT : ¬ w.heap.size + 1 = u1.heap.size := by omega
      have d2RV : ¬ w.heap.size + 1 = u1.heap.size + 1 := by omega
      have d2PC : ¬ w.heap.size + 1 + 1 = w.heap.size := by omega
      have d2PR : ¬ w.heap.size + 1 + 1 = w.heap.size + 1 := by omega
      have d2PQ : ¬ w.heap.size + 1 + 1 = w.heap.size + 1 + 1 + 1 := by omega
      have d2PT : ¬ w.heap.size + 1 + 1 = u1.heap.size := by omega
      have d2PV : ¬ w.heap.size + 1 + 1 = u1.heap.size + 1 := by omega
      have d2QC : ¬ w.heap.size + 1 + 1 + 1 = w.heap.size := by omega
      have d2QR : ¬ w.heap.size + 1 + 1 + 1 = w.heap.size + 1 := by omega
      have d2QP : ¬ w.heap.size + 1 + 1 + 1 = w.heap.size + 1 + 1 := by omega
      have d2QT : ¬ w.heap.size + 1 + 1 + 1 = u1.heap.size := by omega
      have d2QV : ¬ w.heap.size + 1 + 1 + 1 = u1.heap.size + 1 := by omega
      have d2TC : ¬ u1.heap.size = w.heap.size := by omega
      have d2TR : ¬ u1.heap.size = w.heap.size + 1 := by omega
      have d2TP : ¬ u1.heap.size = w.heap.size + 1 + 1 := by omega
      have d2TQ : ¬ u1.heap.size = w.heap.size + 1 + 1 + 1 := by omega
      have d2TV : ¬ u1.heap.size = u1.heap.size + 1 := by omega
      have d2VC : ¬ u1.heap.size + 1 = w.heap.size := by omega
      have d2VR : ¬ u1.heap.size + 1 = w.heap.size + 1 := by omega
      have d2VP : ¬ u1.heap.size + 1 = w.heap.size + 1 + 1 := by omega
      have d2VQ : ¬ u1.heap.size + 1 = w.heap.size + 1 + 1 + 1 := by omega
      have d2VT : ¬ u1.heap.size + 1 = u1.heap.size := by omega
      go_wp2_with fail
      refine (spec_Resynchronize a' b' k' s1 r t1 _ hk hr wt1).mono ?_
      rw [← HS2.out]
      rintro e u3 ⟨rfl, b3⟩
      have NC : Hid (u3.heap[w.heap.size]? = some (.cells #[.int .i64 a, .int .i64 b, .int .i64 k, .int .i64 l] 30 (0, 0))) := Lib.hid (cells_of_below b3 (by (repeat (first | (with_reducible exact HC.out) | (with_reducible exact HR.out) | (with_reducible exact HP.out) | (with_reducible exact HQ.out) | (with_reducible exact HT.out) | (with_reducible exact HV.out) | ((with_reducible refine newBlk _ _ _ _ ?_); (simp; done)) | (with_reducible apply store4g) | (with_reducible apply store5g) | ((with_reducible refine store4ne ?_ ?_); (first | omega | (simp; omega))) | ((with_reducible refine store5ne ?_ ?_); (first | omega | (simp; omega)))  | (with_reducible refine drewBlk ?_) | (with_reducible refine oldBlk _ ?_)))))
      have NR : Hid (u3.heap[w.heap.size + 1]? = some (.cells #[.int .i64 a', .int .i64 b', .int .i64 k', .int .i64 s] 32 (0, 0))) := Lib.hid (cells_of_below b3 (by (repeat (first | (with_reducible exact HC.out) | (with_reducible exact HR.out) | (with_reducible exact HP.out) | (with_reducible exact HQ.out) | (with_reducible exact HT.out) | (with_reducible exact HV.out) | ((with_reducible refine newBlk _ _ _ _ ?_); (simp; done)) | (with_reducible apply store4g) | (with_reducible apply store5g) | ((with_reducible refine store4ne ?_ ?_); (first | omega | (simp; omega))) | ((with_reducible refine store5ne ?_ ?_); (first | omega | (simp; omega)))  | (with_reducible refine drewBlk ?_) | (with_reducible refine oldBlk _ ?_)))))
      have NP : Hid (u3.heap[w.heap.size + 1 + 1]? = some (.cells #[.int .i64 0, .int .i64 0, .int .i64 0, .int .i64 0] 30 (0, 0))) := Lib.hid (cells_of_below b3 (by (repeat (first | (with_reducible exact HC.out) | (with_reducible exact HR.out) | (with_reducible exact HP.out) | (with_reducible exact HQ.out) | (with_reducible exact HT.out) | (with_reducible exact HV.out) | ((with_reducible refine newBlk _ _ _ _ ?_); (simp; done)) | (with_reducible apply store4g) | (with_reducible apply store5g) | ((with_reducible refine store4ne ?_ ?_); (first | omega | (simp; omega))) | ((with_reducible refine store5ne ?_ ?_); (first | omega | (simp; omega)))  | (with_reducible refine drewBlk ?_) | (with_reducible refine oldBlk _ ?_)))))
      have NQ : Hid (u3.heap[w.heap.size + 1 + 1 + 1]? = some (.cells #[.int .i64 0, .int .i64 0, .int .i64 0, .int .i64 0] 32 (0, 0))) := Lib.hid (cells_of_below b3 (by (repeat (first | (with_reducible exact HC.out) | (with_reducible exact HR.out) | (with_reducible exact HP.out) | (with_reducible exact HQ.out) | (with_reducible exact HT.out) | (with_reducible exact HV.out) | ((with_reducible refine newBlk _ _ _ _ ?_); (simp; done)) | (with_reducible apply store4g) | (with_reducible apply store5g) | ((with_reducible refine store4ne ?_ ?_); (first | omega | (simp; omega))) | ((with_reducible refine store5ne ?_ ?_); (first | omega | (simp; omega)))  | (with_reducible refine drewBlk ?_) | (with_reducible refine oldBlk _ ?_)))))
      have NT : Hid (u3.heap[u1.heap.size]? = some (.cells #[.int .i64 a', .int .i64 b', .int .i64 k', .int .i64 s1] 32 (0, 0))) := Lib.hid (cells_of_below b3 (by (repeat (first | (with_reducible exact HC.out) | (with_reducible exact HR.out) | (with_reducible exact HP.out) | (with_reducible exact HQ.out) | (with_reducible exact HT.out) | (with_reducible exact HV.out) | ((with_reducible refine newBlk _ _ _ _ ?_); (simp; done)) | (with_reducible apply store4g) | (with_reducible apply store5g) | ((with_reducible refine store4ne ?_ ?_); (first | omega | (simp; omega))) | ((with_reducible refine store5ne ?_ ?_); (first | omega | (simp; omega)))  | (with_reducible refine drewBlk ?_) | (with_reducible refine oldBlk _ ?_)))))
      have NV : Hid (u3.heap[u1.heap.size + 1]? = some (.cells #[.int .i64 v0, .int .i64 v1, .int .i64 v2, .int .i64 v3, .int .i64 v4] 45 (0, 0))) := Lib.hid (cells_of_below b3 (by (repeat (first | (with_reducible exact HC.out) | (with_reducible exact HR.out) | (with_reducible exact HP.out) | (with_reducible exact HQ.out) | (with_reducible exact HT.out) | (with_reducible exact HV.out) | ((with_reducible refine newBlk _ _ _ _ ?_); (simp; done)) | (with_reducible apply store4g) | (with_reducible apply store5g) | ((with_reducible refine store4ne ?_ ?_); (first | omega | (simp; omega))) | ((with_reducible refine store5ne ?_ ?_); (first | omega | (simp; omega)))  | (with_reducible refine drewBlk ?_) | (with_reducible refine oldBlk _ ?_)))))
      have ND : Hid (u3.heap[u2.heap.size]? = some (.cells #[.int .i64 a, .int .i64 b, .int .i64 k, .int .i64 l1] 30 (0, 0))) := Lib.hid (cells_of_below b3 (by (repeat (first | (with_reducible exact HC.out) | (with_reducible exact HR.out) | (with_reducible exact HP.out) | (with_reducible exact HQ.out) | (with_reducible exact HT.out) | (with_reducible exact HV.out) | ((with_reducible refine newBlk _ _ _ _ ?_); (simp; done)) | (with_reducible apply store4g) | (with_reducible apply store5g) | ((with_reducible refine store4ne ?_ ?_); (first | omega | (simp; omega))) | ((with_reducible refine store5ne ?_ ?_); (first | omega | (simp; omega)))  | (with_reducible refine drewBlk ?_) | (with_reducible refine oldBlk _ ?_)))))
      have NA : Hid (u3.heap[u2.heap.size + 1]? = some (.cells #[.int .i64 c1, .int .i64 e1, .int .i64 y1, .int .i64 t1] 48 (0, 0))) := Lib.hid (cells_of_below b3 (by (repeat (first | (with_reducible exact HC.out) | (with_reducible exact HR.out) | (with_reducible exact HP.out) | (with_reducible exact HQ.out) | (with_reducible exact HT.out) | (with_reducible exact HV.out) | ((with_reducible refine newBlk _ _ _ _ ?_); (simp; done)) | (with_reducible apply store4g) | (with_reducible apply store5g) | ((with_reducible refine store4ne ?_ ?_); (first | omega | (simp; omega))) | ((with_reducible refine store5ne ?_ ?_); (first | omega | (simp; omega)))  | (with_reducible refine drewBlk ?_) | (with_reducible refine oldBlk _ ?_)))))
      have NB : Below w.heap.size w u3 := Below.next (by (repeat (first | (with_reducible exact B0) | ((with_reducible refine store4below ?_ ?_); (first | omega | (simp; omega))) | ((with_reducible refine store5below ?_ ?_); (first | omega | (simp; omega))) | (with_reducible refine Below.drew ?_) | (with_reducible refine Below.al ?_ _)))) b3
      clear c2C0 c2C1 c2C2 c2C3 c2R0 c2R1 c2R2 c2R3 c2P0 c2P1 c2P2 c2P3 c2Q0 c2Q1 c2Q2 c2Q3 c2T0 c2T1 c2T2 c2T3 c2V0 c2V1 c2V2 c2V3 c2V4 frc2C frc2R frc2P frc2Q frc2T frc2V d2CR d2CP d2CQ d2CT d2CV d2RC d2RP d2RQ d2RT d2RV d2PC d2PR d2PQ d2PT d2PV d2QC d2QR d2QP d2QT d2QV d2TC d2TR d2TP d2TQ d2TV d2VC d2VR d2VP d2VQ d2VT HC HR HP HQ HT HV B0 b3
      have HC := NC
      have HR := NR
      have HP := NP
      have HQ := NQ
      have HT := NT
      have HV := NV
      have HD := ND
      have HA := NA
      have B0 := NB
      clear NC NR NP NQ NT NV ND NA NB
      have zC3 := (Array.getElem?_eq_some_iff.1 HC.out).1
      have zR3 := (Array.getElem?_eq_some_iff.1 HR.out).1
      have zP3 := (Array.getElem?_eq_some_iff.1 HP.out).1
      have zQ3 := (Array.getElem?_eq_some_iff.1 HQ.out).1
      have zT3 := (Array.getElem?_eq_some_iff.1 HT.out).1
      have zV3 := (Array.getElem?_eq_some_iff.1 HV.out).1
      have zD3 := (Array.getElem?_eq_some_iff.1 HD.out).1
      have zA3 := (Array.getElem?_eq_some_iff.1 HA.out).1
      have zy3 := B0.size
      have c3C0 := cell_of HC.out 0
      have c3C1 := cell_of HC.out 1
      have c3C2 := cell_of HC.out 2
      have c3C3 := cell_of HC.out 3
      have c3R0 := cell_of HR.out 0
      have c3R1 := cell_of HR.out 1
      have c3R2 := cell_of HR.out 2
      have c3R3 := cell_of HR.out 3
      have c3P0 := cell_of HP.out 0
      have c3P1 := cell_of HP.out 1
      have c3P2 := cell_of HP.out 2
      have c3P3 := cell_of HP.out 3
      have c3Q0 := cell_of HQ.out 0
      have c3Q1 := cell_of HQ.out 1
      have c3Q2 := cell_of HQ.out 2
      have c3Q3 := cell_of HQ.out 3
      have c3T0 := cell_of HT.out 0
      have c3T1 := cell_of HT.out 1
      have c3T2 := cell_of HT.out 2
      have c3T3 := cell_of HT.out 3
      have c3V0 := cell_of HV.out 0
      have c3V1 := cell_of HV.out 1
      have c3V2 := cell_of HV.out 2
      have c3V3 := cell_of HV.out 3
      have c3V4 := cell_of HV.out 4
      have c3D0 := cell_of HD.out 0
      have c3D1 := cell_of HD.out 1
      have c3D2 := cell_of HD.out 2
      have c3D3 := cell_of HD.out 3
      have c3A0 := cell_of HA.out 0
      have c3A1 := cell_of HA.out 1
      have c3A2 := cell_of HA.out 2
      have c3A3 := cell_of HA.out 3
      simp only [List.getElem?_toArray, List.getElem?_cons_zero, List.getElem?_cons_succ] at c3C0 c3C1 c3C2 c3C3 c3R0 c3R1 c3R2 c3R3 c3P0 c3P1 c3P2 c3P3 c3Q0 c3Q1 c3Q2 c3Q3 c3T0 c3T1 c3T2 c3T3 c3V0 c3V1 c3V2 c3V3 c3V4 c3D0 c3D1 c3D2 c3D3 c3A0 c3A1 c3A2 c3A3
      have frc3C := free_of HC.out
      have frc3R := free_of HR.out
      have frc3P := free_of HP.out
      have frc3Q := free_of HQ.out
      have frc3T := free_of HT.out
      have frc3V := free_of HV.out
      have frc3D := free_of HD.out
      have frc3A := free_of HA.out
      have d3CR : ¬ w.heap.size = w.heap.size + 1 := by omega
      have d3CP : ¬ w.heap.size = w.heap.size + 1 + 1 := by omega
      have d3CQ : ¬ w.heap.size = w.heap.size + 1 + 1 + 1 := by omega
      have d3CT : ¬ w.heap.size = u1.heap.size := by omega
      have d3CV : ¬ w.heap.size = u1.heap.size + 1 := by omega
      have d3CD : ¬ w.heap.size = u2.heap.size := by omega
      have d3CA : ¬ w.heap.size = u2.heap.size + 1 := by omega
      have d3RC : ¬ w.heap.size + 1 = w.heap.size := by omega
      have d3RP : ¬ w.heap.size + 1 = w.heap.size + 1 + 1 := by omega
      have d3RQ : ¬ w.heap.size + 1 = w.heap.size + 1 + 1 + 1 := by omega
      have d3RT : ¬ w.heap.size + 1 = u1.heap.size := by omega
      have d3RV : ¬ w.heap.size + 1 = u1.heap.size + 1 := by omega
      have d3RD : ¬ w.heap.size + 1 = u2.heap.size := by omega
      have d3RA : ¬ w.heap.size + 1 = u2.heap.size + 1 := by omega
      have d3PC : ¬ w.heap.size + 1 + 1 = w.heap.size := by omega
      have d3PR : ¬ w.heap.size + 1 + 1 = w.heap.size + 1 := by omega
      have d3PQ : ¬ w.heap.size + 1 + 1 = w.heap.size + 1 + 1 + 1 := by omega
      have d3PT : ¬ w.heap.size + 1 + 1 = u1.heap.size := by omega
      have d3PV : ¬ w.heap.size + 1 + 1 = u1.heap.size + 1 := by omega
      have d3PD : ¬ w.heap.size + 1 + 1 = u2.heap.size := by omega
      have d3PA : ¬ w.heap.size + 1 + 1 = u2.heap.size + 1 := by omega
      have d3QC : ¬ w.heap.size + 1 + 1 + 1 = w.heap.size := by omega
      have d3QR : ¬ w.heap.size + 1 + 1 + 1 = w.heap.size + 1 := by omega
      have d3QP : ¬ w.heap.size + 1 + 1 + 1 = w.heap.size + 1 + 1 := by omega
      have d3QT : ¬ w.heap.size + 1 + 1 + 1 = u1.heap.size := by omega
      have d3QV : ¬ w.heap.size + 1 + 1 + 1 = u1.heap.size + 1 := by omega
      have d3QD : ¬ w.heap.size + 1 + 1 + 1 = u2.heap.size := by omega
      have d3QA : ¬ w.heap.size + 1 + 1 + 1 = u2.heap.size + 1 := by omega
      have d3TC : ¬ u1.heap.size = w.heap.size := by omega
      have d3TR : ¬ u1.heap.size = w.heap.size + 1 := by omega
      have d3TP : ¬ u1.heap.size = w.heap.size + 1 + 1 := by omega
      have d3TQ : ¬ u1.heap.size = w.heap.size + 1 + 1 + 1 := by omega
      have d3TV : ¬ u1.heap.size = u1.heap.size + 1 := by omega
      have d3TD : ¬ u1.heap.size = u2.heap.size := by omega
      have d3TA : ¬ u1.heap.size = u2.heap.size + 1 := by omega
      have d3VC : ¬ u1.heap.size + 1 = w.heap.size := by omega
      have d3VR : ¬ u1.heap.size + 1 = w.heap.size + 1 := by omega
      have d3VP : ¬ u1.heap.size + 1 = w.heap.size + 1 + 1 := by omega
      have d3VQ : ¬ u1.heap.size + 1 = w.heap.size + 1 + 1 + 1 := by omega
      have d3VT : ¬ u1.heap.size + 1 = u1.heap.size := by omega
      have d3VD : ¬ u1.heap.size + 1 = u2.heap.size := by omega
      have d3VA : ¬ u1.heap.size + 1 = u2.heap.size + 1 := by omega
      have d3DC : ¬ u2.heap.size = w.heap.size := by omega
      have d3DR : ¬ u2.heap.size = w.heap.size + 1 := by omega
      have d3DP : ¬ u2.heap.size = w.heap.size + 1 + 1 := by omega
      have d3DQ : ¬ u2.heap.size = w.heap.size + 1 + 1 + 1 := by omega
      have d3DT : ¬ u2.heap.size = u1.heap.size := by omega
      have d3DV : ¬ u2.heap.size = u1.heap.size + 1 := by omega
      have d3DA : ¬ u2.heap.size = u2.heap.size + 1 := by omega
      have d3AC : ¬ u2.heap.size + 1 = w.heap.size := by omega
      have d3AR : ¬ u2.heap.size + 1 = w.heap.size + 1 := by omega
      have d3AP : ¬ u2.heap.size + 1 = w.heap.size + 1 + 1 := by omega
      have d3AQ : ¬ u2.heap.size + 1 = w.heap.size + 1 + 1 + 1 := by omega
      have d3AT : ¬ u2.heap.size + 1 = u1.heap.size := by omega
      have d3AV : ¬ u2.heap.size + 1 = u1.heap.size + 1 := by omega
      have d3AD : ¬ u2.heap.size + 1 = u2.heap.size := by omega
      go_wp2_with fail
      refine (spec_NextAuthVector a' b' k' s2 (wrap64 (r + 1)) _ hr1).mono ?_
      rw [← I1.out, ← I2.out, ← I3.out, ← I4.out, ← I5.out, ← I6.out]
      rintro e u4 ⟨rfl, b4⟩
      have NC : Hid (u4.heap[w.heap.size]? = some (.cells #[.int .i64 a, .int .i64 b, .int .i64 k, .int .i64 l] 30 (0, 0))) := Lib.hid (cells_of_below b4 (by (repeat (first | (with_reducible exact HC.out) | (with_reducible exact HR.out) | (with_reducible exact HP.out) | (with_reducible exact HQ.out) | (with_reducible exact HT.out) | (with_reducible exact HV.out) | (with_reducible exact HD.out) | (with_reducible exact HA.out) | ((with_reducible refine newBlk _ _ _ _ ?_); (simp; done)) | (with_reducible apply store4g) | (with_reducible apply store5g) | ((with_reducible refine store4ne ?_ ?_); (first | omega | (simp; omega))) | ((with_reducible refine store5ne ?_ ?_); (first | omega | (simp; omega)))  | (with_reducible refine drewBlk ?_) | (with_reducible refine oldBlk _ ?_)))))
      have NR : Hid (u4.heap[w.heap.size + 1]? = some (.cells #[.int .i64 a', .int .i64 b', .int .i64 k', .int .i64 s] 32 (0, 0))) := Lib.hid (cells_of_below b4 (by (repeat (first | (with_reducible exact HC.out) | (with_reducible exact HR.out) | (with_reducible exact HP.out) | (with_reducible exact HQ.out) | (with_reducible exact HT.out) | (with_reducible exact HV.out) | (with_reducible exact HD.out) | (with_reducible exact HA.out) | ((with_reducible refine newBlk _ _ _ _ ?_); (simp; done)) | (with_reducible apply store4g) | (with_reducible apply store5g) | ((with_reducible refine store4ne ?_ ?_); (first | omega | (simp; omega))) | ((with_reducible refine store5ne ?_ ?_); (first | omega | (simp; omega)))  | (with_reducible refine drewBlk ?_) | (with_reducible refine oldBlk _ ?_)))))
      have NP : Hid (u4.heap[w.heap.size + 1 + 1]? = some (.cells #[.int .i64 0, .int .i64 0, .int .i64 0, .int .i64 0] 30 (0, 0))) := Lib.hid (cells_of_below b4 (by (repeat (first | (with_reducible exact HC.out) | (with_reducible exact HR.out) | (with_reducible exact HP.out) | (with_reducible exact HQ.out) | (with_reducible exact HT.out) | (with_reducible exact HV.out) | (with_reducible exact HD.out) | (with_reducible exact HA.out) | ((with_reducible refine newBlk _ _ _ _ ?_); (simp; done)) | (with_reducible apply store4g) | (with_reducible apply store5g) | ((with_reducible refine store4ne ?_ ?_); (first | omega | (simp; omega))) | ((with_reducible refine store5ne ?_ ?_); (first | omega | (simp; omega)))  | (with_reducible refine drewBlk ?_) | (with_reducible refine oldBlk _ ?_)))))
      have NQ : Hid (u4.heap[w.heap.size + 1 + 1 + 1]? = some (.cells #[.int .i64 0, .int .i64 0, .int .i64 0, .int .i64 0] 32 (0, 0))) := Lib.hid (cells_of_below b4 (by (repeat (first | (with_reducible exact HC.out) | (with_reducible exact HR.out) | (with_reducible exact HP.out) | (with_reducible exact HQ.out) | (with_reducible exact HT.out) | (with_reducible exact HV.out) | (with_reducible exact HD.out) | (with_reducible exact HA.out) | ((with_reducible refine newBlk _ _ _ _ ?_); (simp; done)) | (with_reducible apply store4g) | (with_reducible apply store5g) | ((with_reducible refine store4ne ?_ ?_); (first | omega | (simp; omega))) | ((with_reducible refine store5ne ?_ ?_); (first | omega | (simp; omega)))  | (with_reducible refine drewBlk ?_) | (with_reducible refine oldBlk _ ?_)))))
      have NT : Hid (u4.heap[u1.heap.size]? = some (.cells #[.int .i64 a', .int .i64 b', .int .i64 k', .int .i64 s1] 32 (0, 0))) := Lib.hid (cells_of_below b4 (by (repeat (first | (with_reducible exact HC.out) | (with_reducible exact HR.out) | (with_reducible exact HP.out) | (with_reducible exact HQ.out) | (with_reducible exact HT.out) | (with_reducible exact HV.out) | (with_reducible exact HD.out) | (with_reducible exact HA.out) | ((with_reducible refine newBlk _ _ _ _ ?_); (simp; done)) | (with_reducible apply store4g) | (with_reducible apply store5g) | ((with_reducible refine store4ne ?_ ?_); (first | omega | (simp; omega))) | ((with_reducible refine store5ne ?_ ?_); (first | omega | (simp; omega)))  | (with_reducible refine drewBlk ?_) | (with_reducible refine oldBlk _ ?_)))))
      have NV : Hid (u4.heap[u1.heap.size + 1]? = some (.cells #[.int .i64 v0, .int .i64 v1, .int .i64 v2, .int .i64 v3, .int .i64 v4] 45 (0, 0))) := Lib.hid (cells_of_below b4 (by (repeat (first | (with_reducible exact HC.out) | (with_reducible exact HR.out) | (with_reducible exact HP.out) | (with_reducible exact HQ.out) | (with_reducible exact HT.out) | (with_reducible exact HV.out) | (with_reducible exact HD.out) | (with_reducible exact HA.out) | ((with_reducible refine newBlk _ _ _ _ ?_); (simp; done)) | (with_reducible apply store4g) | (with_reducible apply store5g) | ((with_reducible refine store4ne ?_ ?_); (first | omega | (simp; omega))) | ((with_reducible refine store5ne ?_ ?_); (first | omega | (simp; omega)))  | (with_reducible refine drewBlk ?_) | (with_reducible refine oldBlk _ ?_)))))
      have ND : Hid (u4.heap[u2.heap.size]? = some (.cells #[.int .i64 a, .int .i64 b, .int .i64 k, .int .i64 l1] 30 (0, 0))) := Lib.hid (cells_of_below b4 (by (repeat (first | (with_reducible exact HC.out) | (with_reducible exact HR.out) | (with_reducible exact HP.out) | (with_reducible exact HQ.out) | (with_reducible exact HT.out) | (with_reducible exact HV.out) | (with_reducible exact HD.out) | (with_reducible exact HA.out) | ((with_reducible refine newBlk _ _ _ _ ?_); (simp; done)) | (with_reducible apply store4g) | (with_reducible apply store5g) | ((with_reducible refine store4ne ?_ ?_); (first | omega | (simp; omega))) | ((with_reducible refine store5ne ?_ ?_); (first | omega | (simp; omega)))  | (with_reducible refine drewBlk ?_) | (with_reducible refine oldBlk _ ?_)))))
      have NA : Hid (u4.heap[u2.heap.size + 1]? = some (.cells #[.int .i64 c1, .int .i64 e1, .int .i64 y1, .int .i64 t1] 48 (0, 0))) := Lib.hid (cells_of_below b4 (by (repeat (first | (with_reducible exact HC.out) | (with_reducible exact HR.out) | (with_reducible exact HP.out) | (with_reducible exact HQ.out) | (with_reducible exact HT.out) | (with_reducible exact HV.out) | (with_reducible exact HD.out) | (with_reducible exact HA.out) | ((with_reducible refine newBlk _ _ _ _ ?_); (simp; done)) | (with_reducible apply store4g) | (with_reducible apply store5g) | ((with_reducible refine store4ne ?_ ?_); (first | omega | (simp; omega))) | ((with_reducible refine store5ne ?_ ?_); (first | omega | (simp; omega)))  | (with_reducible refine drewBlk ?_) | (with_reducible refine oldBlk _ ?_)))))
      have NE : Hid (u4.heap[u3.heap.size]? = some (.cells #[.int .i64 a', .int .i64 b', .int .i64 k', .int .i64 s2] 32 (0, 0))) := Lib.hid (cells_of_below b4 (by (repeat (first | (with_reducible exact HC.out) | (with_reducible exact HR.out) | (with_reducible exact HP.out) | (with_reducible exact HQ.out) | (with_reducible exact HT.out) | (with_reducible exact HV.out) | (with_reducible exact HD.out) | (with_reducible exact HA.out) | ((with_reducible refine newBlk _ _ _ _ ?_); (simp; done)) | (with_reducible apply store4g) | (with_reducible apply store5g) | ((with_reducible refine store4ne ?_ ?_); (first | omega | (simp; omega))) | ((with_reducible refine store5ne ?_ ?_); (first | omega | (simp; omega)))  | (with_reducible refine drewBlk ?_) | (with_reducible refine oldBlk _ ?_)))))
      have NB : Below w.heap.size w u4 := Below.next (by (repeat (first | (with_reducible exact B0) | ((with_reducible refine store4below ?_ ?_); (first | omega | (simp; omega))) | ((with_reducible refine store5below ?_ ?_); (first | omega | (simp; omega))) | (with_reducible refine Below.drew ?_) | (with_reducible refine Below.al ?_ _)))) b4
      clear c3C0 c3C1 c3C2 c3C3 c3R0 c3R1 c3R2 c3R3 c3P0 c3P1 c3P2 c3P3 c3Q0 c3Q1 c3Q2 c3Q3 c3T0 c3T1 c3T2 c3T3 c3V0 c3V1 c3V2 c3V3 c3V4 c3D0 c3D1 c3D2 c3D3 c3A0 c3A1 c3A2 c3A3 frc3C frc3R frc3P frc3Q frc3T frc3V frc3D frc3A d3CR d3CP d3CQ d3CT d3CV d3CD d3CA d3RC d3RP d3RQ d3RT d3RV d3RD d3RA d3PC d3PR d3PQ d3PT d3PV d3PD d3PA d3QC d3QR d3QP d3QT d3QV d3QD d3QA d3TC d3TR d3TP d3TQ d3TV d3TD d3TA d3VC d3VR d3VP d3VQ d3VT d3VD d3VA d3DC d3DR d3DP d3DQ d3DT d3DV d3DA d3AC d3AR d3AP d3AQ d3AT d3AV d3AD HC HR HP HQ HT HV HD HA B0 b4
      have HC := NC
      have HR := NR
      have HP := NP
      have HQ := NQ
      have HT := NT
      have HV := NV
      have HD := ND
      have HA := NA
      have HE := NE
      have B0 := NB
      clear NC NR NP NQ NT NV ND NA NE NB
      have zC4 := (Array.getElem?_eq_some_iff.1 HC.out).1
      have zR4 := (Array.getElem?_eq_some_iff.1 HR.out).1
      have zP4 := (Array.getElem?_eq_some_iff.1 HP.out).1
      have zQ4 := (Array.getElem?_eq_some_iff.1 HQ.out).1
      have zT4 := (Array.getElem?_eq_some_iff.1 HT.out).1
      have zV4 := (Array.getElem?_eq_some_iff.1 HV.out).1
      have zD4 := (Array.getElem?_eq_some_iff.1 HD.out).1
      have zA4 := (Array.getElem?_eq_some_iff.1 HA.out).1
      have zE4 := (Array.getElem?_eq_some_iff.1 HE.out).1
      have zy4 := B0.size
      have c4C0 := cell_of HC.out 0
      have c4C1 := cell_of HC.out 1
      have c4C2 := cell_of HC.out 2
      have c4C3 := cell_of HC.out 3
      have c4R0 := cell_of HR.out 0
      have c4R1 := cell_of HR.out 1
      have c4R2 := cell_of HR.out 2
      have c4R3 := cell_of HR.out 3
      have c4P0 := cell_of HP.out 0
      have c4P1 := cell_of HP.out 1
      have c4P2 := cell_of HP.out 2
      have c4P3 := cell_of HP.out 3
      have c4Q0 := cell_of HQ.out 0
      have c4Q1 := cell_of HQ.out 1
      have c4Q2 := cell_of HQ.out 2
      have c4Q3 := cell_of HQ.out 3
      have c4T0 := cell_of HT.out 0
      have c4T1 := cell_of HT.out 1
      have c4T2 := cell_of HT.out 2
      have c4T3 := cell_of HT.out 3
      have c4V0 := cell_of HV.out 0
      have c4V1 := cell_of HV.out 1
      have c4V2 := cell_of HV.out 2
      have c4V3 := cell_of HV.out 3
      have c4V4 := cell_of HV.out 4
      have c4D0 := cell_of HD.out 0
      have c4D1 := cell_of HD.out 1
      have c4D2 := cell_of HD.out 2
      have c4D3 := cell_of HD.out 3
      have c4A0 := cell_of HA.out 0
      have c4A1 := cell_of HA.out 1
      have c4A2 := cell_of HA.out 2
      have c4A3 := cell_of HA.out 3
      have c4E0 := cell_of HE.out 0
      have c4E1 := cell_of HE.out 1
      have c4E2 := cell_of HE.out 2
      have c4E3 := cell_of HE.out 3
      simp only [List.getElem?_toArray, List.getElem?_cons_zero, List.getElem?_cons_succ] at c4C0 c4C1 c4C2 c4C3 c4R0 c4R1 c4R2 c4R3 c4P0 c4P1 c4P2 c4P3 c4Q0 c4Q1 c4Q2 c4Q3 c4T0 c4T1 c4T2 c4T3 c4V0 c4V1 c4V2 c4V3 c4V4 c4D0 c4D1 c4D2 c4D3 c4A0 c4A1 c4A2 c4A3 c4E0 c4E1 c4E2 c4E3
      have frc4C := free_of HC.out
      have frc4R := free_of HR.out
      have frc4P := free_of HP.out
      have frc4Q := free_of HQ.out
      have frc4T := free_of HT.out
      have frc4V := free_of HV.out
      have frc4D := free_of HD.out
      have frc4A := free_of HA.out
      have frc4E := free_of HE.out
      have d4CR : ¬ w.heap.size = w.heap.size + 1 := by omega
      have d4CP : ¬ w.heap.size = w.heap.size + 1 + 1 := by omega
      have d4CQ : ¬ w.heap.size = w.heap.size + 1 + 1 + 1 := by omega
      have d4CT : ¬ w.heap.size = u1.heap.size := by omega
      have d4CV : ¬ w.heap.size = u1.heap.size + 1 := by omega
      have d4CD : ¬ w.heap.size = u2.heap.size := by omega
      have d4CA : ¬ w.heap.size = u2.heap.size + 1 := by omega
      have d4CE : ¬ w.heap.size = u3.heap.size := by omega
      have d4RC : ¬ w.heap.size + 1 = w.heap.size := by omega
      have d4RP : ¬ w.heap.size + 1 = w.heap.size + 1 + 1 := by omega
      have d4RQ : ¬ w.heap.size + 1 = w.heap.size + 1 + 1 + 1 := by omega
      have d4RT : ¬ w.heap.size + 1 = u1.heap.size := by omega
      have d4RV : ¬ w.heap.size + 1 = u1.heap.size + 1 := by omega
      have d4RD : ¬ w.heap.size + 1 = u2.heap.size := by omega
      have d4RA : ¬ w.heap.size + 1 = u2.heap.size + 1 := by omega
      have d4RE : ¬ w.heap.size + 1 = u3.heap.size := by omega
      have d4PC : ¬ w.heap.size + 1 + 1 = w.heap.size := by omega
      have d4PR : ¬ w.heap.size + 1 + 1 = w.heap.size + 1 := by omega
      have d4PQ : ¬ w.heap.size + 1 + 1 = w.heap.size + 1 + 1 + 1 := by omega
      have d4PT : ¬ w.heap.size + 1 + 1 = u1.heap.size := by omega
      have d4PV : ¬ w.heap.size + 1 + 1 = u1.heap.size + 1 := by omega
      have d4PD : ¬ w.heap.size + 1 + 1 = u2.heap.size := by omega
      have d4PA : ¬ w.heap.size + 1 + 1 = u2.heap.size + 1 := by omega
      have d4PE : ¬ w.heap.size + 1 + 1 = u3.heap.size := by omega
      have d4QC : ¬ w.heap.size + 1 + 1 + 1 = w.heap.size := by omega
      have d4QR : ¬ w.heap.size + 1 + 1 + 1 = w.heap.size + 1 := by omega
      have d4QP : ¬ w.heap.size + 1 + 1 + 1 = w.heap.size + 1 + 1 := by omega
      have d4QT : ¬ w.heap.size + 1 + 1 + 1 = u1.heap.size := by omega
      have d4QV : ¬ w.heap.size + 1 + 1 + 1 = u1.heap.size + 1 := by omega
      have d4QD : ¬ w.heap.size + 1 + 1 + 1 = u2.heap.size := by omega
      have d4QA : ¬ w.heap.size + 1 + 1 + 1 = u2.heap.size + 1 := by omega
      have d4QE : ¬ w.heap.size + 1 + 1 + 1 = u3.heap.size := by omega
      have d4TC : ¬ u1.heap.size = w.heap.size := by omega
      have d4TR : ¬ u1.heap.size = w.heap.size + 1 := by omega
      have d4TP : ¬ u1.heap.size = w.heap.size + 1 + 1 := by omega
      have d4TQ : ¬ u1.heap.size = w.heap.size + 1 + 1 + 1 := by omega
      have d4TV : ¬ u1.heap.size = u1.heap.size + 1 := by omega
      have d4TD : ¬ u1.heap.size = u2.heap.size := by omega
      have d4TA : ¬ u1.heap.size = u2.heap.size + 1 := by omega
      have d4TE : ¬ u1.heap.size = u3.heap.size := by omega
      have d4VC : ¬ u1.heap.size + 1 = w.heap.size := by omega
      have d4VR : ¬ u1.heap.size + 1 = w.heap.size + 1 := by omega
      have d4VP : ¬ u1.heap.size + 1 = w.heap.size + 1 + 1 := by omega
      have d4VQ : ¬ u1.heap.size + 1 = w.heap.size + 1 + 1 + 1 := by omega
      have d4VT : ¬ u1.heap.size + 1 = u1.heap.size := by omega
      have d4VD : ¬ u1.heap.size + 1 = u2.heap.size := by omega
      have d4VA : ¬ u1.heap.size + 1 = u2.heap.size + 1 := by omega
      have d4VE : ¬ u1.heap.size + 1 = u3.heap.size := by omega
      have d4DC : ¬ u2.heap.size = w.heap.size := by omega
      have d4DR : ¬ u2.heap.size = w.heap.size + 1 := by omega
      have d4DP : ¬ u2.heap.size = w.heap.size + 1 + 1 := by omega
      have d4DQ : ¬ u2.heap.size = w.heap.size + 1 + 1 + 1 := by omega
      have d4DT : ¬ u2.heap.size = u1.heap.size := by omega
      have d4DV : ¬ u2.heap.size = u1.heap.size + 1 := by omega
      have d4DA : ¬ u2.heap.size = u2.heap.size + 1 := by omega
      have d4DE : ¬ u2.heap.size = u3.heap.size := by omega
      have d4AC : ¬ u2.heap.size + 1 = w.heap.size := by omega
      have d4AR : ¬ u2.heap.size + 1 = w.heap.size + 1 := by omega
      have d4AP : ¬ u2.heap.size + 1 = w.heap.size + 1 + 1 := by omega
      have d4AQ : ¬ u2.heap.size + 1 = w.heap.size + 1 + 1 + 1 := by omega
      have d4AT : ¬ u2.heap.size + 1 = u1.heap.size := by omega
      have d4AV : ¬ u2.heap.size + 1 = u1.heap.size + 1 := by omega
      have d4AD : ¬ u2.heap.size + 1 = u2.heap.size := by omega
      have d4AE : ¬ u2.heap.size + 1 = u3.heap.size := by omega
      have d4EC : ¬ u3.heap.size = w.heap.size := by omega
      have d4ER : ¬ u3.heap.size = w.heap.size + 1 := by omega
      have d4EP : ¬ u3.heap.size = w.heap.size + 1 + 1 := by omega
      have d4EQ : ¬ u3.heap.size = w.heap.size + 1 + 1 + 1 := by omega
      have d4ET : ¬ u3.heap.size = u1.heap.size := by omega
      have d4EV : ¬ u3.heap.size = u1.heap.size + 1 := by omega
      have d4ED : ¬ u3.heap.size = u2.heap.size := by omega
      have d4EA : ¬ u3.heap.size = u2.heap.size + 1 := by omega
      go_wp2_with fail
      refine (spec_RespondToChallenge a b k l1 p0 p1 p2 p3 p4 _ wp0 wp1).mono ?_
      rw [← I7.out, ← I8.out, ← I9.out, ← I10.out, ← I11.out]
      rintro e u5 ⟨rfl, b5⟩
      have NC : Hid (u5.heap[w.heap.size]? = some (.cells #[.int .i64 a, .int .i64 b, .int .i64 k, .int .i64 l] 30 (0, 0))) := Lib.hid (cells_of_below b5 (by (repeat (first | (with_reducible exact HC.out) | (with_reducible exact HR.out) | (with_reducible exact HP.out) | (with_reducible exact HQ.out) | (with_reducible exact HT.out) | (with_reducible exact HV.out) | (with_reducible exact HD.out) | (with_reducible exact HA.out) | (with_reducible exact HE.out) | ((with_reducible refine newBlk _ _ _ _ ?_); (simp; done)) | (with_reducible apply store4g) | (with_reducible apply store5g) | ((with_reducible refine store4ne ?_ ?_); (first | omega | (simp; omega))) | ((with_reducible refine store5ne ?_ ?_); (first | omega | (simp; omega)))  | (with_reducible refine drewBlk ?_) | (with_reducible refine oldBlk _ ?_)))))
      have NR : Hid (u5.heap[w.heap.size + 1]? = some (.cells #[.int .i64 a', .int .i64 b', .int .i64 k', .int .i64 s] 32 (0, 0))) := Lib.hid (cells_of_below b5 (by (repeat (first | (with_reducible exact HC.out) | (with_reducible exact HR.out) | (with_reducible exact HP.out) | (with_reducible exact HQ.out) | (with_reducible exact HT.out) | (with_reducible exact HV.out) | (with_reducible exact HD.out) | (with_reducible exact HA.out) | (with_reducible exact HE.out) | ((with_reducible refine newBlk _ _ _ _ ?_); (simp; done)) | (with_reducible apply store4g) | (with_reducible apply store5g) | ((with_reducible refine store4ne ?_ ?_); (first | omega | (simp; omega))) | ((with_reducible refine store5ne ?_ ?_); (first | omega | (simp; omega)))  | (with_reducible refine drewBlk ?_) | (with_reducible refine oldBlk _ ?_)))))
      have NP : Hid (u5.heap[w.heap.size + 1 + 1]? = some (.cells #[.int .i64 0, .int .i64 0, .int .i64 0, .int .i64 0] 30 (0, 0))) := Lib.hid (cells_of_below b5 (by (repeat (first | (with_reducible exact HC.out) | (with_reducible exact HR.out) | (with_reducible exact HP.out) | (with_reducible exact HQ.out) | (with_reducible exact HT.out) | (with_reducible exact HV.out) | (with_reducible exact HD.out) | (with_reducible exact HA.out) | (with_reducible exact HE.out) | ((with_reducible refine newBlk _ _ _ _ ?_); (simp; done)) | (with_reducible apply store4g) | (with_reducible apply store5g) | ((with_reducible refine store4ne ?_ ?_); (first | omega | (simp; omega))) | ((with_reducible refine store5ne ?_ ?_); (first | omega | (simp; omega)))  | (with_reducible refine drewBlk ?_) | (with_reducible refine oldBlk _ ?_)))))
      have NQ : Hid (u5.heap[w.heap.size + 1 + 1 + 1]? = some (.cells #[.int .i64 0, .int .i64 0, .int .i64 0, .int .i64 0] 32 (0, 0))) := Lib.hid (cells_of_below b5 (by (repeat (first | (with_reducible exact HC.out) | (with_reducible exact HR.out) | (with_reducible exact HP.out) | (with_reducible exact HQ.out) | (with_reducible exact HT.out) | (with_reducible exact HV.out) | (with_reducible exact HD.out) | (with_reducible exact HA.out) | (with_reducible exact HE.out) | ((with_reducible refine newBlk _ _ _ _ ?_); (simp; done)) | (with_reducible apply store4g) | (with_reducible apply store5g) | ((with_reducible refine store4ne ?_ ?_); (first | omega | (simp; omega))) | ((with_reducible refine store5ne ?_ ?_); (first | omega | (simp; omega)))  | (with_reducible refine drewBlk ?_) | (with_reducible refine oldBlk _ ?_)))))
      have NT : Hid (u5.heap[u1.heap.size]? = some (.cells #[.int .i64 a', .int .i64 b', .int .i64 k', .int .i64 s3] 32 (0, 0))) := Lib.hid (cells_of_below b5 (by (repeat (first | (with_reducible exact HC.out) | (with_reducible exact HR.out) | (with_reducible exact HP.out) | (with_reducible exact HQ.out) | (with_reducible exact HT.out) | (with_reducible exact HV.out) | (with_reducible exact HD.out) | (with_reducible exact HA.out) | (with_reducible exact HE.out) | ((with_reducible refine newBlk _ _ _ _ ?_); (simp; done)) | (with_reducible apply store4g) | (with_reducible apply store5g) | ((with_reducible refine store4ne ?_ ?_); (first | omega | (simp; omega))) | ((with_reducible refine store5ne ?_ ?_); (first | omega | (simp; omega)))  | (with_reducible refine drewBlk ?_) | (with_reducible refine oldBlk _ ?_)))))
      have NV : Hid (u5.heap[u1.heap.size + 1]? = some (.cells #[.int .i64 p0, .int .i64 p1, .int .i64 p2, .int .i64 p3, .int .i64 p4] 45 (0, 0))) := Lib.hid (cells_of_below b5 (by (repeat (first | (with_reducible exact HC.out) | (with_reducible exact HR.out) | (with_reducible exact HP.out) | (with_reducible exact HQ.out) | (with_reducible exact HT.out) | (with_reducible exact HV.out) | (with_reducible exact HD.out) | (with_reducible exact HA.out) | (with_reducible exact HE.out) | ((with_reducible refine newBlk _ _ _ _ ?_); (simp; done)) | (with_reducible apply store4g) | (with_reducible apply store5g) | ((with_reducible refine store4ne ?_ ?_); (first | omega | (simp; omega))) | ((with_reducible refine store5ne ?_ ?_); (first | omega | (simp; omega)))  | (with_reducible refine drewBlk ?_) | (with_reducible refine oldBlk _ ?_)))))
      have ND : Hid (u5.heap[u2.heap.size]? = some (.cells #[.int .i64 a, .int .i64 b, .int .i64 k, .int .i64 l1] 30 (0, 0))) := Lib.hid (cells_of_below b5 (by (repeat (first | (with_reducible exact HC.out) | (with_reducible exact HR.out) | (with_reducible exact HP.out) | (with_reducible exact HQ.out) | (with_reducible exact HT.out) | (with_reducible exact HV.out) | (with_reducible exact HD.out) | (with_reducible exact HA.out) | (with_reducible exact HE.out) | ((with_reducible refine newBlk _ _ _ _ ?_); (simp; done)) | (with_reducible apply store4g) | (with_reducible apply store5g) | ((with_reducible refine store4ne ?_ ?_); (first | omega | (simp; omega))) | ((with_reducible refine store5ne ?_ ?_); (first | omega | (simp; omega)))  | (with_reducible refine drewBlk ?_) | (with_reducible refine oldBlk _ ?_)))))
      have NA : Hid (u5.heap[u2.heap.size + 1]? = some (.cells #[.int .i64 c1, .int .i64 e1, .int .i64 y1, .int .i64 t1] 48 (0, 0))) := Lib.hid (cells_of_below b5 (by (repeat (first | (with_reducible exact HC.out) | (with_reducible exact HR.out) | (with_reducible exact HP.out) | (with_reducible exact HQ.out) | (with_reducible exact HT.out) | (with_reducible exact HV.out) | (with_reducible exact HD.out) | (with_reducible exact HA.out) | (with_reducible exact HE.out) | ((with_reducible refine newBlk _ _ _ _ ?_); (simp; done)) | (with_reducible apply store4g) | (with_reducible apply store5g) | ((with_reducible refine store4ne ?_ ?_); (first | omega | (simp; omega))) | ((with_reducible refine store5ne ?_ ?_); (first | omega | (simp; omega)))  | (with_reducible refine drewBlk ?_) | (with_reducible refine oldBlk _ ?_)))))
      have NE : Hid (u5.heap[u3.heap.size]? = some (.cells #[.int .i64 a', .int .i64 b', .int .i64 k', .int .i64 s2] 32 (0, 0))) := Lib.hid (cells_of_below b5 (by (repeat (first | (with_reducible exact HC.out) | (with_reducible exact HR.out) | (with_reducible exact HP.out) | (with_reducible exact HQ.out) | (with_reducible exact HT.out) | (with_reducible exact HV.out) | (with_reducible exact HD.out) | (with_reducible exact HA.out) | (with_reducible exact HE.out) | ((with_reducible refine newBlk _ _ _ _ ?_); (simp; done)) | (with_reducible apply store4g) | (with_reducible apply store5g) | ((with_reducible refine store4ne ?_ ?_); (first | omega | (simp; omega))) | ((with_reducible refine store5ne ?_ ?_); (first | omega | (simp; omega)))  | (with_reducible refine drewBlk ?_) | (with_reducible refine oldBlk _ ?_)))))
      have NB : Below w.heap.size w u5 := Below.next (by (repeat (first | (with_reducible exact B0) | ((with_reducible refine store4below ?_ ?_); (first | omega | (simp; omega))) | ((with_reducible refine store5below ?_ ?_); (first | omega | (simp; omega))) | (with_reducible refine Below.drew ?_) | (with_reducible refine Below.al ?_ _)))) b5
      clear c4C0 c4C1 c4C2 c4C3 c4R0 c4R1 c4R2 c4R3 c4P0 c4P1 c4P2 c4P3 c4Q0 c4Q1 c4Q2 c4Q3 c4T0 c4T1 c4T2 c4T3 c4V0 c4V1 c4V2 c4V3 c4V4 c4D0 c4D1 c4D2 c4D3 c4A0 c4A1 c4A2 c4A3 c4E0 c4E1 c4E2 c4E3 frc4C frc4R frc4P frc4Q frc4T frc4V frc4D frc4A frc4E d4CR d4CP d4CQ d4CT d4CV d4CD d4CA d4CE d4RC d4RP d4RQ d4RT d4RV d4RD d4RA d4RE d4PC d4PR d4PQ d4PT d4PV d4PD d4PA d4PE d4QC d4QR d4QP d4QT d4QV d4QD d4QA d4QE d4TC d4TR d4TP d4TQ d4TV d4TD d4TA d4TE d4VC d4VR d4VP d4VQ d4VT d4VD d4VA d4VE d4DC d4DR d4DP d4DQ d4DT d4DV d4DA d4DE d4AC d4AR d4AP d4AQ d4AT d4AV d4AD d4AE d4EC d4ER d4EP d4EQ d4ET d4EV d4ED d4EA HC HR HP HQ HT HV HD HA HE B0 b5
      have HC := NC
      have HR := NR
      have HP := NP
      have HQ := NQ
      have HT := NT
      have HV := NV
      have HD := ND
      have HA := NA
      have HE := NE
      have B0 := NB
      clear NC NR NP NQ NT NV ND NA NE NB
      have zC5 := (Array.getElem?_eq_some_iff.1 HC.out).1
      have zR5 := (Array.getElem?_eq_some_iff.1 HR.out).1
      have zP5 := (Array.getElem?_eq_some_iff.1 HP.out).1
      have zQ5 := (Array.getElem?_eq_some_iff.1 HQ.out).1
      have zT5 := (Array.getElem?_eq_some_iff.1 HT.out).1
      have zV5 := (Array.getElem?_eq_some_iff.1 HV.out).1
      have zD5 := (Array.getElem?_eq_some_iff.1 HD.out).1
      have zA5 := (Array.getElem?_eq_some_iff.1 HA.out).1
      have zE5 := (Array.getElem?_eq_some_iff.1 HE.out).1
      have zy5 := B0.size
      by_cases hz : c2 = 0
      · by_cases hev : e2 = p3
        · obtain rfl : y2 = kf := by rw [hkf0]; unfold endKey; rw [if_pos ⟨hz, hev⟩]
          clear hkf0
          have hb : (e2 == p3) = true := by simpa using hev
          clear hev
          subst hz
          have c5C0 := cell_of HC.out 0
          have c5C1 := cell_of HC.out 1
          have c5C2 := cell_of HC.out 2
          have c5C3 := cell_of HC.out 3
          have c5R0 := cell_of HR.out 0
          have c5R1 := cell_of HR.out 1
          have c5R2 := cell_of HR.out 2
          have c5R3 := cell_of HR.out 3
          have c5P0 := cell_of HP.out 0
          have c5P1 := cell_of HP.out 1
          have c5P2 := cell_of HP.out 2
          have c5P3 := cell_of HP.out 3
          have c5Q0 := cell_of HQ.out 0
          have c5Q1 := cell_of HQ.out 1
          have c5Q2 := cell_of HQ.out 2
          have c5Q3 := cell_of HQ.out 3
          have c5T0 := cell_of HT.out 0
          have c5T1 := cell_of HT.out 1
          have c5T2 := cell_of HT.out 2
          have c5T3 := cell_of HT.out 3
          have c5V0 := cell_of HV.out 0
          have c5V1 := cell_of HV.out 1
          have c5V2 := cell_of HV.out 2
          have c5V3 := cell_of HV.out 3
          have c5V4 := cell_of HV.out 4
          have c5D0 := cell_of HD.out 0
          have c5D1 := cell_of HD.out 1
          have c5D2 := cell_of HD.out 2
          have c5D3 := cell_of HD.out 3
          have c5A0 := cell_of HA.out 0
          have c5A1 := cell_of HA.out 1
          have c5A2 := cell_of HA.out 2
          have c5A3 := cell_of HA.out 3
          have c5E0 := cell_of HE.out 0
          have c5E1 := cell_of HE.out 1
          have c5E2 := cell_of HE.out 2
          have c5E3 := cell_of HE.out 3
          simp only [List.getElem?_toArray, List.getElem?_cons_zero, List.getElem?_cons_succ] at c5C0 c5C1 c5C2 c5C3 c5R0 c5R1 c5R2 c5R3 c5P0 c5P1 c5P2 c5P3 c5Q0 c5Q1 c5Q2 c5Q3 c5T0 c5T1 c5T2 c5T3 c5V0 c5V1 c5V2 c5V3 c5V4 c5D0 c5D1 c5D2 c5D3 c5A0 c5A1 c5A2 c5A3 c5E0 c5E1 c5E2 c5E3
          have frc5C := free_of HC.out
          have frc5R := free_of HR.out
          have frc5P := free_of HP.out
          have frc5Q := free_of HQ.out
          have frc5T := free_of HT.out
          have frc5V := free_of HV.out
          have frc5D := free_of HD.out
          have frc5A := free_of HA.out
          have frc5E := free_of HE.out
          have d5CR : ¬ w.heap.size = w.heap.size + 1 := by omega
          have d5CP : ¬ w.heap.size = w.heap.size + 1 + 1 := by omega
          have d5CQ : ¬ w.heap.size = w.heap.size + 1 + 1 + 1 := by omega
          have d5CT : ¬ w.heap.size = u1.heap.size := by omega
          have d5CV : ¬ w.heap.size = u1.heap.size + 1 := by omega
          have d5CD : ¬ w.heap.size = u2.heap.size := by omega
          have d5CA : ¬ w.heap.size = u2.heap.size + 1 := by omega
          have d5CE : ¬ w.heap.size = u3.heap.size := by omega
          have d5RC : ¬ w.heap.size + 1 = w.heap.size := by omega
          have d5RP : ¬ w.heap.size + 1 = w.heap.size + 1 + 1 := by omega
          have d5RQ : ¬ w.heap.size + 1 = w.heap.size + 1 + 1 + 1 := by omega
          have d5RT : ¬ w.heap.size + 1 = u1.heap.size := by omega
          have d5RV : ¬ w.heap.size + 1 = u1.heap.size + 1 := by omega
          have d5RD : ¬ w.heap.size + 1 = u2.heap.size := by omega
          have d5RA : ¬ w.heap.size + 1 = u2.heap.size + 1 := by omega
          have d5RE : ¬ w.heap.size + 1 = u3.heap.size := by omega
          have d5PC : ¬ w.heap.size + 1 + 1 = w.heap.size := by omega
          have d5PR : ¬ w.heap.size + 1 + 1 = w.heap.size + 1 := by omega
          have d5PQ : ¬ w.heap.size + 1 + 1 = w.heap.size + 1 + 1 + 1 := by omega
          have d5PT : ¬ w.heap.size + 1 + 1 = u1.heap.size := by omega
          have d5PV : ¬ w.heap.size + 1 + 1 = u1.heap.size + 1 := by omega
          have d5PD : ¬ w.heap.size + 1 + 1 = u2.heap.size := by omega
          have d5PA : ¬ w.heap.size + 1 + 1 = u2.heap.size + 1 := by omega
          have d5PE : ¬ w.heap.size + 1 + 1 = u3.heap.size := by omega
          have d5QC : ¬ w.heap.size + 1 + 1 + 1 = w.heap.size := by omega
          have d5QR : ¬ w.heap.size + 1 + 1 + 1 = w.heap.size + 1 := by omega
          have d5QP : ¬ w.heap.size + 1 + 1 + 1 = w.heap.size + 1 + 1 := by omega
          have d5QT : ¬ w.heap.size + 1 + 1 + 1 = u1.heap.size := by omega
          have d5QV : ¬ w.heap.size + 1 + 1 + 1 = u1.heap.size + 1 := by omega
          have d5QD : ¬ w.heap.size + 1 + 1 + 1 = u2.heap.size := by omega
          have d5QA : ¬ w.heap.size + 1 + 1 + 1 = u2.heap.size + 1 := by omega
          have d5QE : ¬ w.heap.size + 1 + 1 + 1 = u3.heap.size := by omega
          have d5TC : ¬ u1.heap.size = w.heap.size := by omega
          have d5TR : ¬ u1.heap.size = w.heap.size + 1 := by omega
          have d5TP : ¬ u1.heap.size = w.heap.size + 1 + 1 := by omega
          have d5TQ : ¬ u1.heap.size = w.heap.size + 1 + 1 + 1 := by omega
          have d5TV : ¬ u1.heap.size = u1.heap.size + 1 := by omega
          have d5TD : ¬ u1.heap.size = u2.heap.size := by omega
          have d5TA : ¬ u1.heap.size = u2.heap.size + 1 := by omega
          have d5TE : ¬ u1.heap.size = u3.heap.size := by omega
          have d5VC : ¬ u1.heap.size + 1 = w.heap.size := by omega
          have d5VR : ¬ u1.heap.size + 1 = w.heap.size + 1 := by omega
          have d5VP : ¬ u1.heap.size + 1 = w.heap.size + 1 + 1 := by omega
          have d5VQ : ¬ u1.heap.size + 1 = w.heap.size + 1 + 1 + 1 := by omega
          have d5VT : ¬ u1.heap.size + 1 = u1.heap.size := by omega
          have d5VD : ¬ u1.heap.size + 1 = u2.heap.size := by omega
          have d5VA : ¬ u1.heap.size + 1 = u2.heap.size + 1 := by omega
          have d5VE : ¬ u1.heap.size + 1 = u3.heap.size := by omega
          have d5DC : ¬ u2.heap.size = w.heap.size := by omega
          have d5DR : ¬ u2.heap.size = w.heap.size + 1 := by omega
          have d5DP : ¬ u2.heap.size = w.heap.size + 1 + 1 := by omega
          have d5DQ : ¬ u2.heap.size = w.heap.size + 1 + 1 + 1 := by omega
          have d5DT : ¬ u2.heap.size = u1.heap.size := by omega
          have d5DV : ¬ u2.heap.size = u1.heap.size + 1 := by omega
          have d5DA : ¬ u2.heap.size = u2.heap.size + 1 := by omega
          have d5DE : ¬ u2.heap.size = u3.heap.size := by omega
          have d5AC : ¬ u2.heap.size + 1 = w.heap.size := by omega
          have d5AR : ¬ u2.heap.size + 1 = w.heap.size + 1 := by omega
          have d5AP : ¬ u2.heap.size + 1 = w.heap.size + 1 + 1 := by omega
          have d5AQ : ¬ u2.heap.size + 1 = w.heap.size + 1 + 1 + 1 := by omega
          have d5AT : ¬ u2.heap.size + 1 = u1.heap.size := by omega
          have d5AV : ¬ u2.heap.size + 1 = u1.heap.size + 1 := by omega
          have d5AD : ¬ u2.heap.size + 1 = u2.heap.size := by omega
          have d5AE : ¬ u2.heap.size + 1 = u3.heap.size := by omega
          have d5EC : ¬ u3.heap.size = w.heap.size := by omega
          have d5ER : ¬ u3.heap.size = w.heap.size + 1 := by omega
          have d5EP : ¬ u3.heap.size = w.heap.size + 1 + 1 := by omega
          have d5EQ : ¬ u3.heap.size = w.heap.size + 1 + 1 + 1 := by omega
          have d5ET : ¬ u3.heap.size = u1.heap.size := by omega
          have d5EV : ¬ u3.heap.size = u1.heap.size + 1 := by omega
          have d5ED : ¬ u3.heap.size = u2.heap.size := by omega
          have d5EA : ¬ u3.heap.size = u2.heap.size + 1 := by omega
          go_wp2_with fail
          refine (spec_ResponseMatches _ _ _ _ _ _ _).mono ?_
          rw [hb]
          rintro e u6 ⟨rfl, h6⟩
          have b6 := below_of_alloc h6
          clear h6 hb
          have NC : Hid (u6.heap[w.heap.size]? = some (.cells #[.int .i64 a, .int .i64 b, .int .i64 k, .int .i64 l] 30 (0, 0))) := Lib.hid (cells_of_below b6 (by (repeat (first | (with_reducible exact HC.out) | (with_reducible exact HR.out) | (with_reducible exact HP.out) | (with_reducible exact HQ.out) | (with_reducible exact HT.out) | (with_reducible exact HV.out) | (with_reducible exact HD.out) | (with_reducible exact HA.out) | (with_reducible exact HE.out) | ((with_reducible refine newBlk _ _ _ _ ?_); (simp; done)) | (with_reducible apply store4g) | (with_reducible apply store5g) | ((with_reducible refine store4ne ?_ ?_); (first | omega | (simp; omega))) | ((with_reducible refine store5ne ?_ ?_); (first | omega | (simp; omega)))  | (with_reducible refine drewBlk ?_) | (with_reducible refine oldBlk _ ?_)))))
          have NR : Hid (u6.heap[w.heap.size + 1]? = some (.cells #[.int .i64 a', .int .i64 b', .int .i64 k', .int .i64 s] 32 (0, 0))) := Lib.hid (cells_of_below b6 (by (repeat (first | (with_reducible exact HC.out) | (with_reducible exact HR.out) | (with_reducible exact HP.out) | (with_reducible exact HQ.out) | (with_reducible exact HT.out) | (with_reducible exact HV.out) | (with_reducible exact HD.out) | (with_reducible exact HA.out) | (with_reducible exact HE.out) | ((with_reducible refine newBlk _ _ _ _ ?_); (simp; done)) | (with_reducible apply store4g) | (with_reducible apply store5g) | ((with_reducible refine store4ne ?_ ?_); (first | omega | (simp; omega))) | ((with_reducible refine store5ne ?_ ?_); (first | omega | (simp; omega)))  | (with_reducible refine drewBlk ?_) | (with_reducible refine oldBlk _ ?_)))))
          have NP : Hid (u6.heap[w.heap.size + 1 + 1]? = some (.cells #[.int .i64 0, .int .i64 0, .int .i64 0, .int .i64 0] 30 (0, 0))) := Lib.hid (cells_of_below b6 (by (repeat (first | (with_reducible exact HC.out) | (with_reducible exact HR.out) | (with_reducible exact HP.out) | (with_reducible exact HQ.out) | (with_reducible exact HT.out) | (with_reducible exact HV.out) | (with_reducible exact HD.out) | (with_reducible exact HA.out) | (with_reducible exact HE.out) | ((with_reducible refine newBlk _ _ _ _ ?_); (simp; done)) | (with_reducible apply store4g) | (with_reducible apply store5g) | ((with_reducible refine store4ne ?_ ?_); (first | omega | (simp; omega))) | ((with_reducible refine store5ne ?_ ?_); (first | omega | (simp; omega)))  | (with_reducible refine drewBlk ?_) | (with_reducible refine oldBlk _ ?_)))))
          have NQ : Hid (u6.heap[w.heap.size + 1 + 1 + 1]? = some (.cells #[.int .i64 0, .int .i64 0, .int .i64 0, .int .i64 0] 32 (0, 0))) := Lib.hid (cells_of_below b6 (by (repeat (first | (with_reducible exact HC.out) | (with_reducible exact HR.out) | (with_reducible exact HP.out) | (with_reducible exact HQ.out) | (with_reducible exact HT.out) | (with_reducible exact HV.out) | (with_reducible exact HD.out) | (with_reducible exact HA.out) | (with_reducible exact HE.out) | ((with_reducible refine newBlk _ _ _ _ ?_); (simp; done)) | (with_reducible apply store4g) | (with_reducible apply store5g) | ((with_reducible refine store4ne ?_ ?_); (first | omega | (simp; omega))) | ((with_reducible refine store5ne ?_ ?_); (first | omega | (simp; omega)))  | (with_reducible refine drewBlk ?_) | (with_reducible refine oldBlk _ ?_)))))
          have NT : Hid (u6.heap[u1.heap.size]? = some (.cells #[.int .i64 a', .int .i64 b', .int .i64 k', .int .i64 s3] 32 (0, 0))) := Lib.hid (cells_of_below b6 (by (repeat (first | (with_reducible exact HC.out) | (with_reducible exact HR.out) | (with_reducible exact HP.out) | (with_reducible exact HQ.out) | (with_reducible exact HT.out) | (with_reducible exact HV.out) | (with_reducible exact HD.out) | (with_reducible exact HA.out) | (with_reducible exact HE.out) | ((with_reducible refine newBlk _ _ _ _ ?_); (simp; done)) | (with_reducible apply store4g) | (with_reducible apply store5g) | ((with_reducible refine store4ne ?_ ?_); (first | omega | (simp; omega))) | ((with_reducible refine store5ne ?_ ?_); (first | omega | (simp; omega)))  | (with_reducible refine drewBlk ?_) | (with_reducible refine oldBlk _ ?_)))))
          have NV : Hid (u6.heap[u1.heap.size + 1]? = some (.cells #[.int .i64 p0, .int .i64 p1, .int .i64 p2, .int .i64 p3, .int .i64 p4] 45 (0, 0))) := Lib.hid (cells_of_below b6 (by (repeat (first | (with_reducible exact HC.out) | (with_reducible exact HR.out) | (with_reducible exact HP.out) | (with_reducible exact HQ.out) | (with_reducible exact HT.out) | (with_reducible exact HV.out) | (with_reducible exact HD.out) | (with_reducible exact HA.out) | (with_reducible exact HE.out) | ((with_reducible refine newBlk _ _ _ _ ?_); (simp; done)) | (with_reducible apply store4g) | (with_reducible apply store5g) | ((with_reducible refine store4ne ?_ ?_); (first | omega | (simp; omega))) | ((with_reducible refine store5ne ?_ ?_); (first | omega | (simp; omega)))  | (with_reducible refine drewBlk ?_) | (with_reducible refine oldBlk _ ?_)))))
          have ND : Hid (u6.heap[u2.heap.size]? = some (.cells #[.int .i64 a, .int .i64 b, .int .i64 k, .int .i64 l2] 30 (0, 0))) := Lib.hid (cells_of_below b6 (by (repeat (first | (with_reducible exact HC.out) | (with_reducible exact HR.out) | (with_reducible exact HP.out) | (with_reducible exact HQ.out) | (with_reducible exact HT.out) | (with_reducible exact HV.out) | (with_reducible exact HD.out) | (with_reducible exact HA.out) | (with_reducible exact HE.out) | ((with_reducible refine newBlk _ _ _ _ ?_); (simp; done)) | (with_reducible apply store4g) | (with_reducible apply store5g) | ((with_reducible refine store4ne ?_ ?_); (first | omega | (simp; omega))) | ((with_reducible refine store5ne ?_ ?_); (first | omega | (simp; omega)))  | (with_reducible refine drewBlk ?_) | (with_reducible refine oldBlk _ ?_)))))
          have NA : Hid (u6.heap[u2.heap.size + 1]? = some (.cells #[.int .i64 0, .int .i64 e2, .int .i64 y2, .int .i64 t2] 48 (0, 0))) := Lib.hid (cells_of_below b6 (by (repeat (first | (with_reducible exact HC.out) | (with_reducible exact HR.out) | (with_reducible exact HP.out) | (with_reducible exact HQ.out) | (with_reducible exact HT.out) | (with_reducible exact HV.out) | (with_reducible exact HD.out) | (with_reducible exact HA.out) | (with_reducible exact HE.out) | ((with_reducible refine newBlk _ _ _ _ ?_); (simp; done)) | (with_reducible apply store4g) | (with_reducible apply store5g) | ((with_reducible refine store4ne ?_ ?_); (first | omega | (simp; omega))) | ((with_reducible refine store5ne ?_ ?_); (first | omega | (simp; omega)))  | (with_reducible refine drewBlk ?_) | (with_reducible refine oldBlk _ ?_)))))
          have NE : Hid (u6.heap[u3.heap.size]? = some (.cells #[.int .i64 a', .int .i64 b', .int .i64 k', .int .i64 s2] 32 (0, 0))) := Lib.hid (cells_of_below b6 (by (repeat (first | (with_reducible exact HC.out) | (with_reducible exact HR.out) | (with_reducible exact HP.out) | (with_reducible exact HQ.out) | (with_reducible exact HT.out) | (with_reducible exact HV.out) | (with_reducible exact HD.out) | (with_reducible exact HA.out) | (with_reducible exact HE.out) | ((with_reducible refine newBlk _ _ _ _ ?_); (simp; done)) | (with_reducible apply store4g) | (with_reducible apply store5g) | ((with_reducible refine store4ne ?_ ?_); (first | omega | (simp; omega))) | ((with_reducible refine store5ne ?_ ?_); (first | omega | (simp; omega)))  | (with_reducible refine drewBlk ?_) | (with_reducible refine oldBlk _ ?_)))))
          have NB : Below w.heap.size w u6 := Below.next (by (repeat (first | (with_reducible exact B0) | ((with_reducible refine store4below ?_ ?_); (first | omega | (simp; omega))) | ((with_reducible refine store5below ?_ ?_); (first | omega | (simp; omega))) | (with_reducible refine Below.drew ?_) | (with_reducible refine Below.al ?_ _)))) b6
          clear c5C0 c5C1 c5C2 c5C3 c5R0 c5R1 c5R2 c5R3 c5P0 c5P1 c5P2 c5P3 c5Q0 c5Q1 c5Q2 c5Q3 c5T0 c5T1 c5T2 c5T3 c5V0 c5V1 c5V2 c5V3 c5V4 c5D0 c5D1 c5D2 c5D3 c5A0 c5A1 c5A2 c5A3 c5E0 c5E1 c5E2 c5E3 frc5C frc5R frc5P frc5Q frc5T frc5V frc5D frc5A frc5E d5CR d5CP d5CQ d5CT d5CV d5CD d5CA d5CE d5RC d5RP d5RQ d5RT d5RV d5RD d5RA d5RE d5PC d5PR d5PQ d5PT d5PV d5PD d5PA d5PE d5QC d5QR d5QP d5QT d5QV d5QD d5QA d5QE d5TC d5TR d5TP d5TQ d5TV d5TD d5TA d5TE d5VC d5VR d5VP d5VQ d5VT d5VD d5VA d5VE d5DC d5DR d5DP d5DQ d5DT d5DV d5DA d5DE d5AC d5AR d5AP d5AQ d5AT d5AV d5AD d5AE d5EC d5ER d5EP d5EQ d5ET d5EV d5ED d5EA HC HR HP HQ HT HV HD HA HE B0 b6 cal fal sne
          have HC := NC
          have HR := NR
          have HP := NP
          have HQ := NQ
          have HT := NT
          have HV := NV
          have HD := ND
          have HA := NA
          have HE := NE
          have B0 := NB
          clear NC NR NP NQ NT NV ND NA NE NB
          have c6C0 := cell_of HC.out 0
          have c6C1 := cell_of HC.out 1
          have c6C2 := cell_of HC.out 2
          have c6C3 := cell_of HC.out 3
          have c6R0 := cell_of HR.out 0
          have c6R1 := cell_of HR.out 1
          have c6R2 := cell_of HR.out 2
          have c6R3 := cell_of HR.out 3
          have c6P0 := cell_of HP.out 0
          have c6P1 := cell_of HP.out 1
          have c6P2 := cell_of HP.out 2
          have c6P3 := cell_of HP.out 3
          have c6Q0 := cell_of HQ.out 0
          have c6Q1 := cell_of HQ.out 1
          have c6Q2 := cell_of HQ.out 2
          have c6Q3 := cell_of HQ.out 3
          have c6T0 := cell_of HT.out 0
          have c6T1 := cell_of HT.out 1
          have c6T2 := cell_of HT.out 2
          have c6T3 := cell_of HT.out 3
          have c6V0 := cell_of HV.out 0
          have c6V1 := cell_of HV.out 1
          have c6V2 := cell_of HV.out 2
          have c6V3 := cell_of HV.out 3
          have c6V4 := cell_of HV.out 4
          have c6D0 := cell_of HD.out 0
          have c6D1 := cell_of HD.out 1
          have c6D2 := cell_of HD.out 2
          have c6D3 := cell_of HD.out 3
          have c6A0 := cell_of HA.out 0
          have c6A1 := cell_of HA.out 1
          have c6A2 := cell_of HA.out 2
          have c6A3 := cell_of HA.out 3
          have c6E0 := cell_of HE.out 0
          have c6E1 := cell_of HE.out 1
          have c6E2 := cell_of HE.out 2
          have c6E3 := cell_of HE.out 3
          simp only [List.getElem?_toArray, List.getElem?_cons_zero, List.getElem?_cons_succ] at c6C0 c6C1 c6C2 c6C3 c6R0 c6R1 c6R2 c6R3 c6P0 c6P1 c6P2 c6P3 c6Q0 c6Q1 c6Q2 c6Q3 c6T0 c6T1 c6T2 c6T3 c6V0 c6V1 c6V2 c6V3 c6V4 c6D0 c6D1 c6D2 c6D3 c6A0 c6A1 c6A2 c6A3 c6E0 c6E1 c6E2 c6E3
          have frc6C := free_of HC.out
          have frc6R := free_of HR.out
          have frc6P := free_of HP.out
          have frc6Q := free_of HQ.out
          have frc6T := free_of HT.out
          have frc6V := free_of HV.out
          have frc6D := free_of HD.out
          have frc6A := free_of HA.out
          have frc6E := free_of HE.out
          go_wp2_with fail
          go_region
          all_goals go_wp2_with fail
          all_goals refine bodyPost_ret (v := .tuple #[.agg #[.int .i64 a, .int .i64 b, .int .i64 k, .int .i64 l2], .agg #[.int .i64 a', .int .i64 b', .int .i64 k', .int .i64 s3], .int .i64 y2]) (by simp [results, Try.results8, go_sem, *]) rfl ⟨rfl, ?_⟩
          all_goals exact (by repeat (first | (with_reducible exact B0) | (with_reducible refine Below.st ?_ _ _ _ (by omega)) | (with_reducible refine Below.al ?_ _) | (with_reducible refine Below.dn ?_ _) | (with_reducible refine Below.drew ?_)))
        · obtain rfl : kf = 0 := by rw [hkf0]; unfold endKey; rw [if_neg (fun h => hev h.2)]
          clear hkf0
          have hb : (e2 == p3) = false := by simpa using hev
          clear hev
          subst hz
          have c5C0 := cell_of HC.out 0
          have c5C1 := cell_of HC.out 1
          have c5C2 := cell_of HC.out 2
          have c5C3 := cell_of HC.out 3
          have c5R0 := cell_of HR.out 0
          have c5R1 := cell_of HR.out 1
          have c5R2 := cell_of HR.out 2
          have c5R3 := cell_of HR.out 3
          have c5P0 := cell_of HP.out 0
          have c5P1 := cell_of HP.out 1
          have c5P2 := cell_of HP.out 2
          have c5P3 := cell_of HP.out 3
          have c5Q0 := cell_of HQ.out 0
          have c5Q1 := cell_of HQ.out 1
          have c5Q2 := cell_of HQ.out 2
          have c5Q3 := cell_of HQ.out 3
          have c5T0 := cell_of HT.out 0
          have c5T1 := cell_of HT.out 1
          have c5T2 := cell_of HT.out 2
          have c5T3 := cell_of HT.out 3
          have c5V0 := cell_of HV.out 0
          have c5V1 := cell_of HV.out 1
          have c5V2 := cell_of HV.out 2
          have c5V3 := cell_of HV.out 3
          have c5V4 := cell_of HV.out 4
          have c5D0 := cell_of HD.out 0
          have c5D1 := cell_of HD.out 1
          have c5D2 := cell_of HD.out 2
          have c5D3 := cell_of HD.out 3
          have c5A0 := cell_of HA.out 0
          have c5A1 := cell_of HA.out 1
          have c5A2 := cell_of HA.out 2
          have c5A3 := cell_of HA.out 3
          have c5E0 := cell_of HE.out 0
          have c5E1 := cell_of HE.out 1
          have c5E2 := cell_of HE.out 2
          have c5E3 := cell_of HE.out 3
          simp only [List.getElem?_toArray, List.getElem?_cons_zero, List.getElem?_cons_succ] at c5C0 c5C1 c5C2 c5C3 c5R0 c5R1 c5R2 c5R3 c5P0 c5P1 c5P2 c5P3 c5Q0 c5Q1 c5Q2 c5Q3 c5T0 c5T1 c5T2 c5T3 c5V0 c5V1 c5V2 c5V3 c5V4 c5D0 c5D1 c5D2 c5D3 c5A0 c5A1 c5A2 c5A3 c5E0 c5E1 c5E2 c5E3
          have frc5C := free_of HC.out
          have frc5R := free_of HR.out
          have frc5P := free_of HP.out
          have frc5Q := free_of HQ.out
          have frc5T := free_of HT.out
          have frc5V := free_of HV.out
          have frc5D := free_of HD.out
          have frc5A := free_of HA.out
          have frc5E := free_of HE.out
          have d5CR : ¬ w.heap.size = w.heap.size + 1 := by omega
          have d5CP : ¬ w.heap.size = w.heap.size + 1 + 1 := by omega
          have d5CQ : ¬ w.heap.size = w.heap.size + 1 + 1 + 1 := by omega
          have d5CT : ¬ w.heap.size = u1.heap.size := by omega
          have d5CV : ¬ w.heap.size = u1.heap.size + 1 := by omega
          have d5CD : ¬ w.heap.size = u2.heap.size := by omega
          have d5CA : ¬ w.heap.size = u2.heap.size + 1 := by omega
          have d5CE : ¬ w.heap.size = u3.heap.size := by omega
          have d5RC : ¬ w.heap.size + 1 = w.heap.size := by omega
          have d5RP : ¬ w.heap.size + 1 = w.heap.size + 1 + 1 := by omega
          have d5RQ : ¬ w.heap.size + 1 = w.heap.size + 1 + 1 + 1 := by omega
          have d5RT : ¬ w.heap.size + 1 = u1.heap.size := by omega
          have d5RV : ¬ w.heap.size + 1 = u1.heap.size + 1 := by omega
          have d5RD : ¬ w.heap.size + 1 = u2.heap.size := by omega
          have d5RA : ¬ w.heap.size + 1 = u2.heap.size + 1 := by omega
          have d5RE : ¬ w.heap.size + 1 = u3.heap.size := by omega
          have d5PC : ¬ w.heap.size + 1 + 1 = w.heap.size := by omega
          have d5PR : ¬ w.heap.size + 1 + 1 = w.heap.size + 1 := by omega
          have d5PQ : ¬ w.heap.size + 1 + 1 = w.heap.size + 1 + 1 + 1 := by omega
          have d5PT : ¬ w.heap.size + 1 + 1 = u1.heap.size := by omega
          have d5PV : ¬ w.heap.size + 1 + 1 = u1.heap.size + 1 := by omega
          have d5PD : ¬ w.heap.size + 1 + 1 = u2.heap.size := by omega
          have d5PA : ¬ w.heap.size + 1 + 1 = u2.heap.size + 1 := by omega
          have d5PE : ¬ w.heap.size + 1 + 1 = u3.heap.size := by omega
          have d5QC : ¬ w.heap.size + 1 + 1 + 1 = w.heap.size := by omega
          have d5QR : ¬ w.heap.size + 1 + 1 + 1 = w.heap.size + 1 := by omega
          have d5QP : ¬ w.heap.size + 1 + 1 + 1 = w.heap.size + 1 + 1 := by omega
          have d5QT : ¬ w.heap.size + 1 + 1 + 1 = u1.heap.size := by omega
          have d5QV : ¬ w.heap.size + 1 + 1 + 1 = u1.heap.size + 1 := by omega
          have d5QD : ¬ w.heap.size + 1 + 1 + 1 = u2.heap.size := by omega
          have d5QA : ¬ w.heap.size + 1 + 1 + 1 = u2.heap.size + 1 := by omega
          have d5QE : ¬ w.heap.size + 1 + 1 + 1 = u3.heap.size := by omega
          have d5TC : ¬ u1.heap.size = w.heap.size := by omega
          have d5TR : ¬ u1.heap.size = w.heap.size + 1 := by omega
          have d5TP : ¬ u1.heap.size = w.heap.size + 1 + 1 := by omega
          have d5TQ : ¬ u1.heap.size = w.heap.size + 1 + 1 + 1 := by omega
          have d5TV : ¬ u1.heap.size = u1.heap.size + 1 := by omega
          have d5TD : ¬ u1.heap.size = u2.heap.size := by omega
          have d5TA : ¬ u1.heap.size = u2.heap.size + 1 := by omega
          have d5TE : ¬ u1.heap.size = u3.heap.size := by omega
          have d5VC : ¬ u1.heap.size + 1 = w.heap.size := by omega
          have d5VR : ¬ u1.heap.size + 1 = w.heap.size + 1 := by omega
          have d5VP : ¬ u1.heap.size + 1 = w.heap.size + 1 + 1 := by omega
          have d5VQ : ¬ u1.heap.size + 1 = w.heap.size + 1 + 1 + 1 := by omega
          have d5VT : ¬ u1.heap.size + 1 = u1.heap.size := by omega
          have d5VD : ¬ u1.heap.size + 1 = u2.heap.size := by omega
          have d5VA : ¬ u1.heap.size + 1 = u2.heap.size + 1 := by omega
          have d5VE : ¬ u1.heap.size + 1 = u3.heap.size := by omega
          have d5DC : ¬ u2.heap.size = w.heap.size := by omega
          have d5DR : ¬ u2.heap.size = w.heap.size + 1 := by omega
          have d5DP : ¬ u2.heap.size = w.heap.size + 1 + 1 := by omega
          have d5DQ : ¬ u2.heap.size = w.heap.size + 1 + 1 + 1 := by omega
          have d5DT : ¬ u2.heap.size = u1.heap.size := by omega
          have d5DV : ¬ u2.heap.size = u1.heap.size + 1 := by omega
          have d5DA : ¬ u2.heap.size = u2.heap.size + 1 := by omega
          have d5DE : ¬ u2.heap.size = u3.heap.size := by omega
          have d5AC : ¬ u2.heap.size + 1 = w.heap.size := by omega
          have d5AR : ¬ u2.heap.size + 1 = w.heap.size + 1 := by omega
          have d5AP : ¬ u2.heap.size + 1 = w.heap.size + 1 + 1 := by omega
          have d5AQ : ¬ u2.heap.size + 1 = w.heap.size + 1 + 1 + 1 := by omega
          have d5AT : ¬ u2.heap.size + 1 = u1.heap.size := by omega
          have d5AV : ¬ u2.heap.size + 1 = u1.heap.size + 1 := by omega
          have d5AD : ¬ u2.heap.size + 1 = u2.heap.size := by omega
          have d5AE : ¬ u2.heap.size + 1 = u3.heap.size := by omega
          have d5EC : ¬ u3.heap.size = w.heap.size := by omega
          have d5ER : ¬ u3.heap.size = w.heap.size + 1 := by omega
          have d5EP : ¬ u3.heap.size = w.heap.size + 1 + 1 := by omega
          have d5EQ : ¬ u3.heap.size = w.heap.size + 1 + 1 + 1 := by omega
          have d5ET : ¬ u3.heap.size = u1.heap.size := by omega
          have d5EV : ¬ u3.heap.size = u1.heap.size + 1 := by omega
          have d5ED : ¬ u3.heap.size = u2.heap.size := by omega
          have d5EA : ¬ u3.heap.size = u2.heap.size + 1 := by omega
          go_wp2_with fail
          refine (spec_ResponseMatches _ _ _ _ _ _ _).mono ?_
          rw [hb]
          rintro e u6 ⟨rfl, h6⟩
          have b6 := below_of_alloc h6
          clear h6 hb
          have NC : Hid (u6.heap[w.heap.size]? = some (.cells #[.int .i64 a, .int .i64 b, .int .i64 k, .int .i64 l] 30 (0, 0))) := Lib.hid (cells_of_below b6 (by (repeat (first | (with_reducible exact HC.out) | (with_reducible exact HR.out) | (with_reducible exact HP.out) | (with_reducible exact HQ.out) | (with_reducible exact HT.out) | (with_reducible exact HV.out) | (with_reducible exact HD.out) | (with_reducible exact HA.out) | (with_reducible exact HE.out) | ((with_reducible refine newBlk _ _ _ _ ?_); (simp; done)) | (with_reducible apply store4g) | (with_reducible apply store5g) | ((with_reducible refine store4ne ?_ ?_); (first | omega | (simp; omega))) | ((with_reducible refine store5ne ?_ ?_); (first | omega | (simp; omega)))  | (with_reducible refine drewBlk ?_) | (with_reducible refine oldBlk _ ?_)))))
          have NR : Hid (u6.heap[w.heap.size + 1]? = some (.cells #[.int .i64 a', .int .i64 b', .int .i64 k', .int .i64 s] 32 (0, 0))) := Lib.hid (cells_of_below b6 (by (repeat (first | (with_reducible exact HC.out) | (with_reducible exact HR.out) | (with_reducible exact HP.out) | (with_reducible exact HQ.out) | (with_reducible exact HT.out) | (with_reducible exact HV.out) | (with_reducible exact HD.out) | (with_reducible exact HA.out) | (with_reducible exact HE.out) | ((with_reducible refine newBlk _ _ _ _ ?_); (simp; done)) | (with_reducible apply store4g) | (with_reducible apply store5g) | ((with_reducible refine store4ne ?_ ?_); (first | omega | (simp; omega))) | ((with_reducible refine store5ne ?_ ?_); (first | omega | (simp; omega)))  | (with_reducible refine drewBlk ?_) | (with_reducible refine oldBlk _ ?_)))))
          have NP : Hid (u6.heap[w.heap.size + 1 + 1]? = some (.cells #[.int .i64 0, .int .i64 0, .int .i64 0, .int .i64 0] 30 (0, 0))) := Lib.hid (cells_of_below b6 (by (repeat (first | (with_reducible exact HC.out) | (with_reducible exact HR.out) | (with_reducible exact HP.out) | (with_reducible exact HQ.out) | (with_reducible exact HT.out) | (with_reducible exact HV.out) | (with_reducible exact HD.out) | (with_reducible exact HA.out) | (with_reducible exact HE.out) | ((with_reducible refine newBlk _ _ _ _ ?_); (simp; done)) | (with_reducible apply store4g) | (with_reducible apply store5g) | ((with_reducible refine store4ne ?_ ?_); (first | omega | (simp; omega))) | ((with_reducible refine store5ne ?_ ?_); (first | omega | (simp; omega)))  | (with_reducible refine drewBlk ?_) | (with_reducible refine oldBlk _ ?_)))))
          have NQ : Hid (u6.heap[w.heap.size + 1 + 1 + 1]? = some (.cells #[.int .i64 0, .int .i64 0, .int .i64 0, .int .i64 0] 32 (0, 0))) := Lib.hid (cells_of_below b6 (by (repeat (first | (with_reducible exact HC.out) | (with_reducible exact HR.out) | (with_reducible exact HP.out) | (with_reducible exact HQ.out) | (with_reducible exact HT.out) | (with_reducible exact HV.out) | (with_reducible exact HD.out) | (with_reducible exact HA.out) | (with_reducible exact HE.out) | ((with_reducible refine newBlk _ _ _ _ ?_); (simp; done)) | (with_reducible apply store4g) | (with_reducible apply store5g) | ((with_reducible refine store4ne ?_ ?_); (first | omega | (simp; omega))) | ((with_reducible refine store5ne ?_ ?_); (first | omega | (simp; omega)))  | (with_reducible refine drewBlk ?_) | (with_reducible refine oldBlk _ ?_)))))
          have NT : Hid (u6.heap[u1.heap.size]? = some (.cells #[.int .i64 a', .int .i64 b', .int .i64 k', .int .i64 s3] 32 (0, 0))) := Lib.hid (cells_of_below b6 (by (repeat (first | (with_reducible exact HC.out) | (with_reducible exact HR.out) | (with_reducible exact HP.out) | (with_reducible exact HQ.out) | (with_reducible exact HT.out) | (with_reducible exact HV.out) | (with_reducible exact HD.out) | (with_reducible exact HA.out) | (with_reducible exact HE.out) | ((with_reducible refine newBlk _ _ _ _ ?_); (simp; done)) | (with_reducible apply store4g) | (with_reducible apply store5g) | ((with_reducible refine store4ne ?_ ?_); (first | omega | (simp; omega))) | ((with_reducible refine store5ne ?_ ?_); (first | omega | (simp; omega)))  | (with_reducible refine drewBlk ?_) | (with_reducible refine oldBlk _ ?_)))))
          have NV : Hid (u6.heap[u1.heap.size + 1]? = some (.cells #[.int .i64 p0, .int .i64 p1, .int .i64 p2, .int .i64 p3, .int .i64 p4] 45 (0, 0))) := Lib.hid (cells_of_below b6 (by (repeat (first | (with_reducible exact HC.out) | (with_reducible exact HR.out) | (with_reducible exact HP.out) | (with_reducible exact HQ.out) | (with_reducible exact HT.out) | (with_reducible exact HV.out) | (with_reducible exact HD.out) | (with_reducible exact HA.out) | (with_reducible exact HE.out) | ((with_reducible refine newBlk _ _ _ _ ?_); (simp; done)) | (with_reducible apply store4g) | (with_reducible apply store5g) | ((with_reducible refine store4ne ?_ ?_); (first | omega | (simp; omega))) | ((with_reducible refine store5ne ?_ ?_); (first | omega | (simp; omega)))  | (with_reducible refine drewBlk ?_) | (with_reducible refine oldBlk _ ?_)))))
          have ND : Hid (u6.heap[u2.heap.size]? = some (.cells #[.int .i64 a, .int .i64 b, .int .i64 k, .int .i64 l2] 30 (0, 0))) := Lib.hid (cells_of_below b6 (by (repeat (first | (with_reducible exact HC.out) | (with_reducible exact HR.out) | (with_reducible exact HP.out) | (with_reducible exact HQ.out) | (with_reducible exact HT.out) | (with_reducible exact HV.out) | (with_reducible exact HD.out) | (with_reducible exact HA.out) | (with_reducible exact HE.out) | ((with_reducible refine newBlk _ _ _ _ ?_); (simp; done)) | (with_reducible apply store4g) | (with_reducible apply store5g) | ((with_reducible refine store4ne ?_ ?_); (first | omega | (simp; omega))) | ((with_reducible refine store5ne ?_ ?_); (first | omega | (simp; omega)))  | (with_reducible refine drewBlk ?_) | (with_reducible refine oldBlk _ ?_)))))
          have NA : Hid (u6.heap[u2.heap.size + 1]? = some (.cells #[.int .i64 0, .int .i64 e2, .int .i64 y2, .int .i64 t2] 48 (0, 0))) := Lib.hid (cells_of_below b6 (by (repeat (first | (with_reducible exact HC.out) | (with_reducible exact HR.out) | (with_reducible exact HP.out) | (with_reducible exact HQ.out) | (with_reducible exact HT.out) | (with_reducible exact HV.out) | (with_reducible exact HD.out) | (with_reducible exact HA.out) | (with_reducible exact HE.out) | ((with_reducible refine newBlk _ _ _ _ ?_); (simp; done)) | (with_reducible apply store4g) | (with_reducible apply store5g) | ((with_reducible refine store4ne ?_ ?_); (first | omega | (simp; omega))) | ((with_reducible refine store5ne ?_ ?_); (first | omega | (simp; omega)))  | (with_reducible refine drewBlk ?_) | (with_reducible refine oldBlk _ ?_)))))
          have NE : Hid (u6.heap[u3.heap.size]? = some (.cells #[.int .i64 a', .int .i64 b', .int .i64 k', .int .i64 s2] 32 (0, 0))) := Lib.hid (cells_of_below b6 (by (repeat (first | (with_reducible exact HC.out) | (with_reducible exact HR.out) | (with_reducible exact HP.out) | (with_reducible exact HQ.out) | (with_reducible exact HT.out) | (with_reducible exact HV.out) | (with_reducible exact HD.out) | (with_reducible exact HA.out) | (with_reducible exact HE.out) | ((with_reducible refine newBlk _ _ _ _ ?_); (simp; done)) | (with_reducible apply store4g) | (with_reducible apply store5g) | ((with_reducible refine store4ne ?_ ?_); (first | omega | (simp; omega))) | ((with_reducible refine store5ne ?_ ?_); (first | omega | (simp; omega)))  | (with_reducible refine drewBlk ?_) | (with_reducible refine oldBlk _ ?_)))))
          have NB : Below w.heap.size w u6 := Below.next (by (repeat (first | (with_reducible exact B0) | ((with_reducible refine store4below ?_ ?_); (first | omega | (simp; omega))) | ((with_reducible refine store5below ?_ ?_); (first | omega | (simp; omega))) | (with_reducible refine Below.drew ?_) | (with_reducible refine Below.al ?_ _)))) b6
          clear c5C0 c5C1 c5C2 c5C3 c5R0 c5R1 c5R2 c5R3 c5P0 c5P1 c5P2 c5P3 c5Q0 c5Q1 c5Q2 c5Q3 c5T0 c5T1 c5T2 c5T3 c5V0 c5V1 c5V2 c5V3 c5V4 c5D0 c5D1 c5D2 c5D3 c5A0 c5A1 c5A2 c5A3 c5E0 c5E1 c5E2 c5E3 frc5C frc5R frc5P frc5Q frc5T frc5V frc5D frc5A frc5E d5CR d5CP d5CQ d5CT d5CV d5CD d5CA d5CE d5RC d5RP d5RQ d5RT d5RV d5RD d5RA d5RE d5PC d5PR d5PQ d5PT d5PV d5PD d5PA d5PE d5QC d5QR d5QP d5QT d5QV d5QD d5QA d5QE d5TC d5TR d5TP d5TQ d5TV d5TD d5TA d5TE d5VC d5VR d5VP d5VQ d5VT d5VD d5VA d5VE d5DC d5DR d5DP d5DQ d5DT d5DV d5DA d5DE d5AC d5AR d5AP d5AQ d5AT d5AV d5AD d5AE d5EC d5ER d5EP d5EQ d5ET d5EV d5ED d5EA HC HR HP HQ HT HV HD HA HE B0 b6 cal fal sne
          have HC := NC
          have HR := NR
          have HP := NP
          have HQ := NQ
          have HT := NT
          have HV := NV
          have HD := ND
          have HA := NA
          have HE := NE
          have B0 := NB
          clear NC NR NP NQ NT NV ND NA NE NB
          have c6C0 := cell_of HC.out 0
          have c6C1 := cell_of HC.out 1
          have c6C2 := cell_of HC.out 2
          have c6C3 := cell_of HC.out 3
          have c6R0 := cell_of HR.out 0
          have c6R1 := cell_of HR.out 1
          have c6R2 := cell_of HR.out 2
          have c6R3 := cell_of HR.out 3
          have c6P0 := cell_of HP.out 0
          have c6P1 := cell_of HP.out 1
          have c6P2 := cell_of HP.out 2
          have c6P3 := cell_of HP.out 3
          have c6Q0 := cell_of HQ.out 0
          have c6Q1 := cell_of HQ.out 1
          have c6Q2 := cell_of HQ.out 2
          have c6Q3 := cell_of HQ.out 3
          have c6T0 := cell_of HT.out 0
          have c6T1 := cell_of HT.out 1
          have c6T2 := cell_of HT.out 2
          have c6T3 := cell_of HT.out 3
          have c6V0 := cell_of HV.out 0
          have c6V1 := cell_of HV.out 1
          have c6V2 := cell_of HV.out 2
          have c6V3 := cell_of HV.out 3
          have c6V4 := cell_of HV.out 4
          have c6D0 := cell_of HD.out 0
          have c6D1 := cell_of HD.out 1
          have c6D2 := cell_of HD.out 2
          have c6D3 := cell_of HD.out 3
          have c6A0 := cell_of HA.out 0
          have c6A1 := cell_of HA.out 1
          have c6A2 := cell_of HA.out 2
          have c6A3 := cell_of HA.out 3
          have c6E0 := cell_of HE.out 0
          have c6E1 := cell_of HE.out 1
          have c6E2 := cell_of HE.out 2
          have c6E3 := cell_of HE.out 3
          simp only [List.getElem?_toArray, List.getElem?_cons_zero, List.getElem?_cons_succ] at c6C0 c6C1 c6C2 c6C3 c6R0 c6R1 c6R2 c6R3 c6P0 c6P1 c6P2 c6P3 c6Q0 c6Q1 c6Q2 c6Q3 c6T0 c6T1 c6T2 c6T3 c6V0 c6V1 c6V2 c6V3 c6V4 c6D0 c6D1 c6D2 c6D3 c6A0 c6A1 c6A2 c6A3 c6E0 c6E1 c6E2 c6E3
          have frc6C := free_of HC.out
          have frc6R := free_of HR.out
          have frc6P := free_of HP.out
          have frc6Q := free_of HQ.out
          have frc6T := free_of HT.out
          have frc6V := free_of HV.out
          have frc6D := free_of HD.out
          have frc6A := free_of HA.out
          have frc6E := free_of HE.out
          go_wp2_with fail
          go_region
          all_goals go_wp2_with fail
          all_goals refine bodyPost_ret (v := .tuple #[.agg #[.int .i64 a, .int .i64 b, .int .i64 k, .int .i64 l2], .agg #[.int .i64 a', .int .i64 b', .int .i64 k', .int .i64 s3], .int .i64 0]) (by simp [results, Try.results8, go_sem, *]) rfl ⟨rfl, ?_⟩
          all_goals exact (by repeat (first | (with_reducible exact B0) | (with_reducible refine Below.st ?_ _ _ _ (by omega)) | (with_reducible refine Below.al ?_ _) | (with_reducible refine Below.dn ?_ _) | (with_reducible refine Below.drew ?_)))
      · obtain rfl : kf = 0 := by rw [hkf0]; unfold endKey; rw [if_neg (fun h => hz h.1)]
        clear hkf0
        have hb1 : (c2 != 0) = true := by simpa using hz
        have hb0 : (c2 == 0) = false := by simpa using hz
        have c5C0 := cell_of HC.out 0
        have c5C1 := cell_of HC.out 1
        have c5C2 := cell_of HC.out 2
        have c5C3 := cell_of HC.out 3
        have c5R0 := cell_of HR.out 0
        have c5R1 := cell_of HR.out 1
        have c5R2 := cell_of HR.out 2
        have c5R3 := cell_of HR.out 3
        have c5P0 := cell_of HP.out 0
        have c5P1 := cell_of HP.out 1
        have c5P2 := cell_of HP.out 2
        have c5P3 := cell_of HP.out 3
        have c5Q0 := cell_of HQ.out 0
        have c5Q1 := cell_of HQ.out 1
        have c5Q2 := cell_of HQ.out 2
        have c5Q3 := cell_of HQ.out 3
        have c5T0 := cell_of HT.out 0
        have c5T1 := cell_of HT.out 1
        have c5T2 := cell_of HT.out 2
        have c5T3 := cell_of HT.out 3
        have c5V0 := cell_of HV.out 0
        have c5V1 := cell_of HV.out 1
        have c5V2 := cell_of HV.out 2
        have c5V3 := cell_of HV.out 3
        have c5V4 := cell_of HV.out 4
        have c5D0 := cell_of HD.out 0
        have c5D1 := cell_of HD.out 1
        have c5D2 := cell_of HD.out 2
        have c5D3 := cell_of HD.out 3
        have c5A0 := cell_of HA.out 0
        have c5A1 := cell_of HA.out 1
        have c5A2 := cell_of HA.out 2
        have c5A3 := cell_of HA.out 3
        have c5E0 := cell_of HE.out 0
        have c5E1 := cell_of HE.out 1
        have c5E2 := cell_of HE.out 2
        have c5E3 := cell_of HE.out 3
        simp only [List.getElem?_toArray, List.getElem?_cons_zero, List.getElem?_cons_succ] at c5C0 c5C1 c5C2 c5C3 c5R0 c5R1 c5R2 c5R3 c5P0 c5P1 c5P2 c5P3 c5Q0 c5Q1 c5Q2 c5Q3 c5T0 c5T1 c5T2 c5T3 c5V0 c5V1 c5V2 c5V3 c5V4 c5D0 c5D1 c5D2 c5D3 c5A0 c5A1 c5A2 c5A3 c5E0 c5E1 c5E2 c5E3
        have frc5C := free_of HC.out
        have frc5R := free_of HR.out
        have frc5P := free_of HP.out
        have frc5Q := free_of HQ.out
        have frc5T := free_of HT.out
        have frc5V := free_of HV.out
        have frc5D := free_of HD.out
        have frc5A := free_of HA.out
        have frc5E := free_of HE.out
        have d5CR : ¬ w.heap.size = w.heap.size + 1 := by omega
        have d5CP : ¬ w.heap.size = w.heap.size + 1 + 1 := by omega
        have d5CQ : ¬ w.heap.size = w.heap.size + 1 + 1 + 1 := by omega
        have d5CT : ¬ w.heap.size = u1.heap.size := by omega
        have d5CV : ¬ w.heap.size = u1.heap.size + 1 := by omega
        have d5CD : ¬ w.heap.size = u2.heap.size := by omega
        have d5CA : ¬ w.heap.size = u2.heap.size + 1 := by omega
        have d5CE : ¬ w.heap.size = u3.heap.size := by omega
        have d5RC : ¬ w.heap.size + 1 = w.heap.size := by omega
        have d5RP : ¬ w.heap.size + 1 = w.heap.size + 1 + 1 := by omega
        have d5RQ : ¬ w.heap.size + 1 = w.heap.size + 1 + 1 + 1 := by omega
        have d5RT : ¬ w.heap.size + 1 = u1.heap.size := by omega
        have d5RV : ¬ w.heap.size + 1 = u1.heap.size + 1 := by omega
        have d5RD : ¬ w.heap.size + 1 = u2.heap.size := by omega
        have d5RA : ¬ w.heap.size + 1 = u2.heap.size + 1 := by omega
        have d5RE : ¬ w.heap.size + 1 = u3.heap.size := by omega
        have d5PC : ¬ w.heap.size + 1 + 1 = w.heap.size := by omega
        have d5PR : ¬ w.heap.size + 1 + 1 = w.heap.size + 1 := by omega
        have d5PQ : ¬ w.heap.size + 1 + 1 = w.heap.size + 1 + 1 + 1 := by omega
        have d5PT : ¬ w.heap.size + 1 + 1 = u1.heap.size := by omega
        have d5PV : ¬ w.heap.size + 1 + 1 = u1.heap.size + 1 := by omega
        have d5PD : ¬ w.heap.size + 1 + 1 = u2.heap.size := by omega
        have d5PA : ¬ w.heap.size + 1 + 1 = u2.heap.size + 1 := by omega
        have d5PE : ¬ w.heap.size + 1 + 1 = u3.heap.size := by omega
        have d5QC : ¬ w.heap.size + 1 + 1 + 1 = w.heap.size := by omega
        have d5QR : ¬ w.heap.size + 1 + 1 + 1 = w.heap.size + 1 := by omega
        have d5QP : ¬ w.heap.size + 1 + 1 + 1 = w.heap.size + 1 + 1 := by omega
        have d5QT : ¬ w.heap.size + 1 + 1 + 1 = u1.heap.size := by omega
        have d5QV : ¬ w.heap.size + 1 + 1 + 1 = u1.heap.size + 1 := by omega
        have d5QD : ¬ w.heap.size + 1 + 1 + 1 = u2.heap.size := by omega
        have d5QA : ¬ w.heap.size + 1 + 1 + 1 = u2.heap.size + 1 := by omega
        have d5QE : ¬ w.heap.size + 1 + 1 + 1 = u3.heap.size := by omega
        have d5TC : ¬ u1.heap.size = w.heap.size := by omega
        have d5TR : ¬ u1.heap.size = w.heap.size + 1 := by omega
        have d5TP : ¬ u1.heap.size = w.heap.size + 1 + 1 := by omega
        have d5TQ : ¬ u1.heap.size = w.heap.size + 1 + 1 + 1 := by omega
        have d5TV : ¬ u1.heap.size = u1.heap.size + 1 := by omega
        have d5TD : ¬ u1.heap.size = u2.heap.size := by omega
        have d5TA : ¬ u1.heap.size = u2.heap.size + 1 := by omega
        have d5TE : ¬ u1.heap.size = u3.heap.size := by omega
        have d5VC : ¬ u1.heap.size + 1 = w.heap.size := by omega
        have d5VR : ¬ u1.heap.size + 1 = w.heap.size + 1 := by omega
        have d5VP : ¬ u1.heap.size + 1 = w.heap.size + 1 + 1 := by omega
        have d5VQ : ¬ u1.heap.size + 1 = w.heap.size + 1 + 1 + 1 := by omega
        have d5VT : ¬ u1.heap.size + 1 = u1.heap.size := by omega
        have d5VD : ¬ u1.heap.size + 1 = u2.heap.size := by omega
        have d5VA : ¬ u1.heap.size + 1 = u2.heap.size + 1 := by omega
        have d5VE : ¬ u1.heap.size + 1 = u3.heap.size := by omega
        have d5DC : ¬ u2.heap.size = w.heap.size := by omega
        have d5DR : ¬ u2.heap.size = w.heap.size + 1 := by omega
        have d5DP : ¬ u2.heap.size = w.heap.size + 1 + 1 := by omega
        have d5DQ : ¬ u2.heap.size = w.heap.size + 1 + 1 + 1 := by omega
        have d5DT : ¬ u2.heap.size = u1.heap.size := by omega
        have d5DV : ¬ u2.heap.size = u1.heap.size + 1 := by omega
        have d5DA : ¬ u2.heap.size = u2.heap.size + 1 := by omega
        have d5DE : ¬ u2.heap.size = u3.heap.size := by omega
        have d5AC : ¬ u2.heap.size + 1 = w.heap.size := by omega
        have d5AR : ¬ u2.heap.size + 1 = w.heap.size + 1 := by omega
        have d5AP : ¬ u2.heap.size + 1 = w.heap.size + 1 + 1 := by omega
        have d5AQ : ¬ u2.heap.size + 1 = w.heap.size + 1 + 1 + 1 := by omega
        have d5AT : ¬ u2.heap.size + 1 = u1.heap.size := by omega
        have d5AV : ¬ u2.heap.size + 1 = u1.heap.size + 1 := by omega
        have d5AD : ¬ u2.heap.size + 1 = u2.heap.size := by omega
        have d5AE : ¬ u2.heap.size + 1 = u3.heap.size := by omega
        have d5EC : ¬ u3.heap.size = w.heap.size := by omega
        have d5ER : ¬ u3.heap.size = w.heap.size + 1 := by omega
        have d5EP : ¬ u3.heap.size = w.heap.size + 1 + 1 := by omega
        have d5EQ : ¬ u3.heap.size = w.heap.size + 1 + 1 + 1 := by omega
        have d5ET : ¬ u3.heap.size = u1.heap.size := by omega
        have d5EV : ¬ u3.heap.size = u1.heap.size + 1 := by omega
        have d5ED : ¬ u3.heap.size = u2.heap.size := by omega
        have d5EA : ¬ u3.heap.size = u2.heap.size + 1 := by omega
        go_wp2_with fail
        go_region
        all_goals go_wp2_with fail
        all_goals refine bodyPost_ret (v := .tuple #[.agg #[.int .i64 a, .int .i64 b, .int .i64 k, .int .i64 l2], .agg #[.int .i64 a', .int .i64 b', .int .i64 k', .int .i64 s3], .int .i64 0]) (by simp [results, Try.results8, go_sem, *]) rfl ⟨rfl, ?_⟩
        all_goals exact (by repeat (first | (with_reducible exact B0) | (with_reducible refine Below.st ?_ _ _ _ (by omega)) | (with_reducible refine Below.al ?_ _) | (with_reducible refine Below.dn ?_ _) | (with_reducible refine Below.drew ?_)))
  · obtain ⟨rfl, rfl, hkf0⟩ : l1 = lf ∧ s1 = sf ∧ kf = endKey c1 e1 v3 y1 := by have h := HF.out; rw [if_neg hc] at h; exact ⟨h.1.symm, h.2.1.symm, h.2.2⟩
    clear HF
    obtain ⟨hc2, hc3⟩ : ¬ c1 = 2 ∧ ¬ c1 = 3 := ⟨fun h => hc (.inl h), fun h => hc (.inr h)⟩
    clear hc
    have hcb2 : (c1 == 2) = false := by simpa using hc2
    have hcb3 : (c1 == 3) = false := by simpa using hc3
    by_cases hz : c1 = 0
    · by_cases hev : e1 = v3
      · obtain rfl : y1 = kf := by rw [hkf0]; unfold endKey; rw [if_pos ⟨hz, hev⟩]
        clear hkf0
        have hb : (e1 == v3) = true := by simpa using hev
        clear hev
        subst hz
        have c2C0 := cell_of HC.out 0
        have c2C1 := cell_of HC.out 1
        have c2C2 := cell_of HC.out 2
        have c2C3 := cell_of HC.out 3
        have c2R0 := cell_of HR.out 0
        have c2R1 := cell_of HR.out 1
        have c2R2 := cell_of HR.out 2
        have c2R3 := cell_of HR.out 3
        have c2P0 := cell_of HP.out 0
        have c2P1 := cell_of HP.out 1
        have c2P2 := cell_of HP.out 2
        have c2P3 := cell_of HP.out 3
        have c2Q0 := cell_of HQ.out 0
        have c2Q1 := cell_of HQ.out 1
        have c2Q2 := cell_of HQ.out 2
        have c2Q3 := cell_of HQ.out 3
        have c2T0 := cell_of HT.out 0
        have c2T1 := cell_of HT.out 1
        have c2T2 := cell_of HT.out 2
        have c2T3 := cell_of HT.out 3
        have c2V0 := cell_of HV.out 0
        have c2V1 := cell_of HV.out 1
        have c2V2 := cell_of HV.out 2
        have c2V3 := cell_of HV.out 3
        have c2V4 := cell_of HV.out 4
        simp only [List.getElem?_toArray, List.getElem?_cons_zero, List.getElem?_cons_succ] at c2C0 c2C1 c2C2 c2C3 c2R0 c2R1 c2R2 c2R3 c2P0 c2P1 c2P2 c2P3 c2Q0 c2Q1 c2Q2 c2Q3 c2T0 c2T1 c2T2 c2T3 c2V0 c2V1 c2V2 c2V3 c2V4
        have frc2C := free_of HC.out
        have frc2R := free_of HR.out
        have frc2P := free_of HP.out
        have frc2Q := free_of HQ.out
        have frc2T := free_of HT.out
        have frc2V := free_of HV.out
        have d2CR : ¬ w.heap.size = w.heap.size + 1 := by omega
        have d2CP : ¬ w.heap.size = w.heap.size + 1 + 1 := by omega
        have d2CQ : ¬ w.heap.size = w.heap.size + 1 + 1 + 1 := by omega
        have d2CT : ¬ w.heap.size = u1.heap.size := by omega
        have d2CV : ¬ w.heap.size = u1.heap.size + 1 := by omega
        have d2RC : ¬ w.heap.size + 1 = w.heap.size := by omega
        have d2RP : ¬ w.heap.size + 1 = w.heap.size + 1 + 1 := by omega
        have d2RQ : ¬ w.heap.size + 1 = w.heap.size + 1 + 1 + 1 := by omega
        have d2RT : ¬ w.heap.size + 1 = u1.heap.size := by omega
        have d2RV : ¬ w.heap.size + 1 = u1.heap.size + 1 := by omega
        have d2PC : ¬ w.heap.size + 1 + 1 = w.heap.size := by omega
        have d2PR : ¬ w.heap.size + 1 + 1 = w.heap.size + 1 := by omega
        have d2PQ : ¬ w.heap.size + 1 + 1 = w.heap.size + 1 + 1 + 1 := by omega
        have d2PT : ¬ w.heap.size + 1 + 1 = u1.heap.size := by omega
        have d2PV : ¬ w.heap.size + 1 + 1 = u1.heap.size + 1 := by omega
        have d2QC : ¬ w.heap.size + 1 + 1 + 1 = w.heap.size := by omega
        have d2QR : ¬ w.heap.size + 1 + 1 + 1 = w.heap.size + 1 := by omega
        have d2QP : ¬ w.heap.size + 1 + 1 + 1 = w.heap.size + 1 + 1 := by omega
        have d2QT : ¬ w.heap.size + 1 + 1 + 1 = u1.heap.size := by omega
        have d2QV : ¬ w.heap.size + 1 + 1 + 1 = u1.heap.size + 1 := by omega
        have d2TC : ¬ u1.heap.size = w.heap.size := by omega
        have d2TR : ¬ u1.heap.size = w.heap.size + 1 := by omega
        have d2TP : ¬ u1.heap.size = w.heap.size + 1 + 1 := by omega
        have d2TQ : ¬ u1.heap.size = w.heap.size + 1 + 1 + 1 := by omega
        have d2TV : ¬ u1.heap.size = u1.heap.size + 1 := by omega
        have d2VC : ¬ u1.heap.size + 1 = w.heap.size := by omega
        have d2VR : ¬ u1.heap.size + 1 = w.heap.size + 1 := by omega
        have d2VP : ¬ u1.heap.size + 1 = w.heap.size + 1 + 1 := by omega
        have d2VQ : ¬ u1.heap.size + 1 = w.heap.size + 1 + 1 + 1 := by omega
        have d2VT : ¬ u1.heap.size + 1 = u1.heap.size := by omega
        go_wp2_with fail
        refine (spec_ResponseMatches _ _ _ _ _ _ _).mono ?_
        rw [hb]
        rintro e u3 ⟨rfl, h3⟩
        have b3 := below_of_alloc h3
        clear h3 hb
        have NC : Hid (u3.heap[w.heap.size]? = some (.cells #[.int .i64 a, .int .i64 b, .int .i64 k, .int .i64 l] 30 (0, 0))) := Lib.hid (cells_of_below b3 (by (repeat (first | (with_reducible exact HC.out) | (with_reducible exact HR.out) | (with_reducible exact HP.out) | (with_reducible exact HQ.out) | (with_reducible exact HT.out) | (with_reducible exact HV.out) | ((with_reducible refine newBlk _ _ _ _ ?_); (simp; done)) | (with_reducible apply store4g) | (with_reducible apply store5g) | ((with_reducible refine store4ne ?_ ?_); (first | omega | (simp; omega))) | ((with_reducible refine store5ne ?_ ?_); (first | omega | (simp; omega)))  | (with_reducible refine drewBlk ?_) | (with_reducible refine oldBlk _ ?_)))))
        have NR : Hid (u3.heap[w.heap.size + 1]? = some (.cells #[.int .i64 a', .int .i64 b', .int .i64 k', .int .i64 s] 32 (0, 0))) := Lib.hid (cells_of_below b3 (by (repeat (first | (with_reducible exact HC.out) | (with_reducible exact HR.out) | (with_reducible exact HP.out) | (with_reducible exact HQ.out) | (with_reducible exact HT.out) | (with_reducible exact HV.out) | ((with_reducible refine newBlk _ _ _ _ ?_); (simp; done)) | (with_reducible apply store4g) | (with_reducible apply store5g) | ((with_reducible refine store4ne ?_ ?_); (first | omega | (simp; omega))) | ((with_reducible refine store5ne ?_ ?_); (first | omega | (simp; omega)))  | (with_reducible refine drewBlk ?_) | (with_reducible refine oldBlk _ ?_)))))
        have NP : Hid (u3.heap[w.heap.size + 1 + 1]? = some (.cells #[.int .i64 0, .int .i64 0, .int .i64 0, .int .i64 0] 30 (0, 0))) := Lib.hid (cells_of_below b3 (by (repeat (first | (with_reducible exact HC.out) | (with_reducible exact HR.out) | (with_reducible exact HP.out) | (with_reducible exact HQ.out) | (with_reducible exact HT.out) | (with_reducible exact HV.out) | ((with_reducible refine newBlk _ _ _ _ ?_); (simp; done)) | (with_reducible apply store4g) | (with_reducible apply store5g) | ((with_reducible refine store4ne ?_ ?_); (first | omega | (simp; omega))) | ((with_reducible refine store5ne ?_ ?_); (first | omega | (simp; omega)))  | (with_reducible refine drewBlk ?_) | (with_reducible refine oldBlk _ ?_)))))
        have NQ : Hid (u3.heap[w.heap.size + 1 + 1 + 1]? = some (.cells #[.int .i64 0, .int .i64 0, .int .i64 0, .int .i64 0] 32 (0, 0))) := Lib.hid (cells_of_below b3 (by (repeat (first | (with_reducible exact HC.out) | (with_reducible exact HR.out) | (with_reducible exact HP.out) | (with_reducible exact HQ.out) | (with_reducible exact HT.out) | (with_reducible exact HV.out) | ((with_reducible refine newBlk _ _ _ _ ?_); (simp; done)) | (with_reducible apply store4g) | (with_reducible apply store5g) | ((with_reducible refine store4ne ?_ ?_); (first | omega | (simp; omega))) | ((with_reducible refine store5ne ?_ ?_); (first | omega | (simp; omega)))  | (with_reducible refine drewBlk ?_) | (with_reducible refine oldBlk _ ?_)))))
        have NT : Hid (u3.heap[u1.heap.size]? = some (.cells #[.int .i64 a', .int .i64 b', .int .i64 k', .int .i64 s1] 32 (0, 0))) := Lib.hid (cells_of_below b3 (by (repeat (first | (with_reducible exact HC.out) | (with_reducible exact HR.out) | (with_reducible exact HP.out) | (with_reducible exact HQ.out) | (with_reducible exact HT.out) | (with_reducible exact HV.out) | ((with_reducible refine newBlk _ _ _ _ ?_); (simp; done)) | (with_reducible apply store4g) | (with_reducible apply store5g) | ((with_reducible refine store4ne ?_ ?_); (first | omega | (simp; omega))) | ((with_reducible refine store5ne ?_ ?_); (first | omega | (simp; omega)))  | (with_reducible refine drewBlk ?_) | (with_reducible refine oldBlk _ ?_)))))
        have NV : Hid (u3.heap[u1.heap.size + 1]? = some (.cells #[.int .i64 v0, .int .i64 v1, .int .i64 v2, .int .i64 v3, .int .i64 v4] 45 (0, 0))) := Lib.hid (cells_of_below b3 (by (repeat (first | (with_reducible exact HC.out) | (with_reducible exact HR.out) | (with_reducible exact HP.out) | (with_reducible exact HQ.out) | (with_reducible exact HT.out) | (with_reducible exact HV.out) | ((with_reducible refine newBlk _ _ _ _ ?_); (simp; done)) | (with_reducible apply store4g) | (with_reducible apply store5g) | ((with_reducible refine store4ne ?_ ?_); (first | omega | (simp; omega))) | ((with_reducible refine store5ne ?_ ?_); (first | omega | (simp; omega)))  | (with_reducible refine drewBlk ?_) | (with_reducible refine oldBlk _ ?_)))))
        have ND : Hid (u3.heap[u2.heap.size]? = some (.cells #[.int .i64 a, .int .i64 b, .int .i64 k, .int .i64 l1] 30 (0, 0))) := Lib.hid (cells_of_below b3 (by (repeat (first | (with_reducible exact HC.out) | (with_reducible exact HR.out) | (with_reducible exact HP.out) | (with_reducible exact HQ.out) | (with_reducible exact HT.out) | (with_reducible exact HV.out) | ((with_reducible refine newBlk _ _ _ _ ?_); (simp; done)) | (with_reducible apply store4g) | (with_reducible apply store5g) | ((with_reducible refine store4ne ?_ ?_); (first | omega | (simp; omega))) | ((with_reducible refine store5ne ?_ ?_); (first | omega | (simp; omega)))  | (with_reducible refine drewBlk ?_) | (with_reducible refine oldBlk _ ?_)))))
        have NA : Hid (u3.heap[u2.heap.size + 1]? = some (.cells #[.int .i64 0, .int .i64 e1, .int .i64 y1, .int .i64 t1] 48 (0, 0))) := Lib.hid (cells_of_below b3 (by (repeat (first | (with_reducible exact HC.out) | (with_reducible exact HR.out) | (with_reducible exact HP.out) | (with_reducible exact HQ.out) | (with_reducible exact HT.out) | (with_reducible exact HV.out) | ((with_reducible refine newBlk _ _ _ _ ?_); (simp; done)) | (with_reducible apply store4g) | (with_reducible apply store5g) | ((with_reducible refine store4ne ?_ ?_); (first | omega | (simp; omega))) | ((with_reducible refine store5ne ?_ ?_); (first | omega | (simp; omega)))  | (with_reducible refine drewBlk ?_) | (with_reducible refine oldBlk _ ?_)))))
        have NB : Below w.heap.size w u3 := Below.next (by (repeat (first | (with_reducible exact B0) | ((with_reducible refine store4below ?_ ?_); (first | omega | (simp; omega))) | ((with_reducible refine store5below ?_ ?_); (first | omega | (simp; omega))) | (with_reducible refine Below.drew ?_) | (with_reducible refine Below.al ?_ _)))) b3
        clear c2C0 c2C1 c2C2 c2C3 c2R0 c2R1 c2R2 c2R3 c2P0 c2P1 c2P2 c2P3 c2Q0 c2Q1 c2Q2 c2Q3 c2T0 c2T1 c2T2 c2T3 c2V0 c2V1 c2V2 c2V3 c2V4 frc2C frc2R frc2P frc2Q frc2T frc2V d2CR d2CP d2CQ d2CT d2CV d2RC d2RP d2RQ d2RT d2RV d2PC d2PR d2PQ d2PT d2PV d2QC d2QR d2QP d2QT d2QV d2TC d2TR d2TP d2TQ d2TV d2VC d2VR d2VP d2VQ d2VT HC HR HP HQ HT HV B0 b3 cal fal sne
        have HC := NC
        have HR := NR
        have HP := NP
        have HQ := NQ
        have HT := NT
        have HV := NV
        have HD := ND
        have HA := NA
        have B0 := NB
        clear NC NR NP NQ NT NV ND NA NB
        have c3C0 := cell_of HC.out 0
        have c3C1 := cell_of HC.out 1
        have c3C2 := cell_of HC.out 2
        have c3C3 := cell_of HC.out 3
        have c3R0 := cell_of HR.out 0
        have c3R1 := cell_of HR.out 1
        have c3R2 := cell_of HR.out 2
        have c3R3 := cell_of HR.out 3
        have c3P0 := cell_of HP.out 0
        have c3P1 := cell_of HP.out 1
        have c3P2 := cell_of HP.out 2
        have c3P3 := cell_of HP.out 3
        have c3Q0 := cell_of HQ.out 0
        have c3Q1 := cell_of HQ.out 1
        have c3Q2 := cell_of HQ.out 2
        have c3Q3 := cell_of HQ.out 3
        have c3T0 := cell_of HT.out 0
        have c3T1 := cell_of HT.out 1
        have c3T2 := cell_of HT.out 2
        have c3T3 := cell_of HT.out 3
        have c3V0 := cell_of HV.out 0
        have c3V1 := cell_of HV.out 1
        have c3V2 := cell_of HV.out 2
        have c3V3 := cell_of HV.out 3
        have c3V4 := cell_of HV.out 4
        have c3D0 := cell_of HD.out 0
        have c3D1 := cell_of HD.out 1
        have c3D2 := cell_of HD.out 2
        have c3D3 := cell_of HD.out 3
        have c3A0 := cell_of HA.out 0
        have c3A1 := cell_of HA.out 1
        have c3A2 := cell_of HA.out 2
        have c3A3 := cell_of HA.out 3
        simp only [List.getElem?_toArray, List.getElem?_cons_zero, List.getElem?_cons_succ] at c3C0 c3C1 c3C2 c3C3 c3R0 c3R1 c3R2 c3R3 c3P0 c3P1 c3P2 c3P3 c3Q0 c3Q1 c3Q2 c3Q3 c3T0 c3T1 c3T2 c3T3 c3V0 c3V1 c3V2 c3V3 c3V4 c3D0 c3D1 c3D2 c3D3 c3A0 c3A1 c3A2 c3A3
        have frc3C := free_of HC.out
        have frc3R := free_of HR.out
        have frc3P := free_of HP.out
        have frc3Q := free_of HQ.out
        have frc3T := free_of HT.out
        have frc3V := free_of HV.out
        have frc3D := free_of HD.out
        have frc3A := free_of HA.out
        go_wp2_with fail
        go_region
        all_goals go_wp2_with fail
        all_goals refine bodyPost_ret (v := .tuple #[.agg #[.int .i64 a, .int .i64 b, .int .i64 k, .int .i64 l1], .agg #[.int .i64 a', .int .i64 b', .int .i64 k', .int .i64 s1], .int .i64 y1]) (by simp [results, Try.results8, go_sem, *]) rfl ⟨rfl, ?_⟩
        all_goals exact (by repeat (first | (with_reducible exact B0) | (with_reducible refine Below.st ?_ _ _ _ (by omega)) | (with_reducible refine Below.al ?_ _) | (with_reducible refine Below.dn ?_ _) | (with_reducible refine Below.drew ?_)))
      · obtain rfl : kf = 0 := by rw [hkf0]; unfold endKey; rw [if_neg (fun h => hev h.2)]
        clear hkf0
        have hb : (e1 == v3) = false := by simpa using hev
        clear hev
        subst hz
        have c2C0 := cell_of HC.out 0
        have c2C1 := cell_of HC.out 1
        have c2C2 := cell_of HC.out 2
        have c2C3 := cell_of HC.out 3
        have c2R0 := cell_of HR.out 0
        have c2R1 := cell_of HR.out 1
        have c2R2 := cell_of HR.out 2
        have c2R3 := cell_of HR.out 3
        have c2P0 := cell_of HP.out 0
        have c2P1 := cell_of HP.out 1
        have c2P2 := cell_of HP.out 2
        have c2P3 := cell_of HP.out 3
        have c2Q0 := cell_of HQ.out 0
        have c2Q1 := cell_of HQ.out 1
        have c2Q2 := cell_of HQ.out 2
        have c2Q3 := cell_of HQ.out 3
        have c2T0 := cell_of HT.out 0
        have c2T1 := cell_of HT.out 1
        have c2T2 := cell_of HT.out 2
        have c2T3 := cell_of HT.out 3
        have c2V0 := cell_of HV.out 0
        have c2V1 := cell_of HV.out 1
        have c2V2 := cell_of HV.out 2
        have c2V3 := cell_of HV.out 3
        have c2V4 := cell_of HV.out 4
        simp only [List.getElem?_toArray, List.getElem?_cons_zero, List.getElem?_cons_succ] at c2C0 c2C1 c2C2 c2C3 c2R0 c2R1 c2R2 c2R3 c2P0 c2P1 c2P2 c2P3 c2Q0 c2Q1 c2Q2 c2Q3 c2T0 c2T1 c2T2 c2T3 c2V0 c2V1 c2V2 c2V3 c2V4
        have frc2C := free_of HC.out
        have frc2R := free_of HR.out
        have frc2P := free_of HP.out
        have frc2Q := free_of HQ.out
        have frc2T := free_of HT.out
        have frc2V := free_of HV.out
        have d2CR : ¬ w.heap.size = w.heap.size + 1 := by omega
        have d2CP : ¬ w.heap.size = w.heap.size + 1 + 1 := by omega
        have d2CQ : ¬ w.heap.size = w.heap.size + 1 + 1 + 1 := by omega
        have d2CT : ¬ w.heap.size = u1.heap.size := by omega
        have d2CV : ¬ w.heap.size = u1.heap.size + 1 := by omega
        have d2RC : ¬ w.heap.size + 1 = w.heap.size := by omega
        have d2RP : ¬ w.heap.size + 1 = w.heap.size + 1 + 1 := by omega
        have d2RQ : ¬ w.heap.size + 1 = w.heap.size + 1 + 1 + 1 := by omega
        have d2RT : ¬ w.heap.size + 1 = u1.heap.size := by omega
        have d2RV : ¬ w.heap.size + 1 = u1.heap.size + 1 := by omega
        have d2PC : ¬ w.heap.size + 1 + 1 = w.heap.size := by omega
        have d2PR : ¬ w.heap.size + 1 + 1 = w.heap.size + 1 := by omega
        have d2PQ : ¬ w.heap.size + 1 + 1 = w.heap.size + 1 + 1 + 1 := by omega
        have d2PT : ¬ w.heap.size + 1 + 1 = u1.heap.size := by omega
        have d2PV : ¬ w.heap.size + 1 + 1 = u1.heap.size + 1 := by omega
        have d2QC : ¬ w.heap.size + 1 + 1 + 1 = w.heap.size := by omega
        have d2QR : ¬ w.heap.size + 1 + 1 + 1 = w.heap.size + 1 := by omega
        have d2QP : ¬ w.heap.size + 1 + 1 + 1 = w.heap.size + 1 + 1 := by omega
        have d2QT : ¬ w.heap.size + 1 + 1 + 1 = u1.heap.size := by omega
        have d2QV : ¬ w.heap.size + 1 + 1 + 1 = u1.heap.size + 1 := by omega
        have d2TC : ¬ u1.heap.size = w.heap.size := by omega
        have d2TR : ¬ u1.heap.size = w.heap.size + 1 := by omega
        have d2TP : ¬ u1.heap.size = w.heap.size + 1 + 1 := by omega
        have d2TQ : ¬ u1.heap.size = w.heap.size + 1 + 1 + 1 := by omega
        have d2TV : ¬ u1.heap.size = u1.heap.size + 1 := by omega
        have d2VC : ¬ u1.heap.size + 1 = w.heap.size := by omega
        have d2VR : ¬ u1.heap.size + 1 = w.heap.size + 1 := by omega
        have d2VP : ¬ u1.heap.size + 1 = w.heap.size + 1 + 1 := by omega
        have d2VQ : ¬ u1.heap.size + 1 = w.heap.size + 1 + 1 + 1 := by omega
        have d2VT : ¬ u1.heap.size + 1 = u1.heap.size := by omega
        go_wp2_with fail
        refine (spec_ResponseMatches _ _ _ _ _ _ _).mono ?_
        rw [hb]
        rintro e u3 ⟨rfl, h3⟩
        have b3 := below_of_alloc h3
        clear h3 hb
        have NC : Hid (u3.heap[w.heap.size]? = some (.cells #[.int .i64 a, .int .i64 b, .int .i64 k, .int .i64 l] 30 (0, 0))) := Lib.hid (cells_of_below b3 (by (repeat (first | (with_reducible exact HC.out) | (with_reducible exact HR.out) | (with_reducible exact HP.out) | (with_reducible exact HQ.out) | (with_reducible exact HT.out) | (with_reducible exact HV.out) | ((with_reducible refine newBlk _ _ _ _ ?_); (simp; done)) | (with_reducible apply store4g) | (with_reducible apply store5g) | ((with_reducible refine store4ne ?_ ?_); (first | omega | (simp; omega))) | ((with_reducible refine store5ne ?_ ?_); (first | omega | (simp; omega)))  | (with_reducible refine drewBlk ?_) | (with_reducible refine oldBlk _ ?_)))))
        have NR : Hid (u3.heap[w.heap.size + 1]? = some (.cells #[.int .i64 a', .int .i64 b', .int .i64 k', .int .i64 s] 32 (0, 0))) := Lib.hid (cells_of_below b3 (by (repeat (first | (with_reducible exact HC.out) | (with_reducible exact HR.out) | (with_reducible exact HP.out) | (with_reducible exact HQ.out) | (with_reducible exact HT.out) | (with_reducible exact HV.out) | ((with_reducible refine newBlk _ _ _ _ ?_); (simp; done)) | (with_reducible apply store4g) | (with_reducible apply store5g) | ((with_reducible refine store4ne ?_ ?_); (first | omega | (simp; omega))) | ((with_reducible refine store5ne ?_ ?_); (first | omega | (simp; omega)))  | (with_reducible refine drewBlk ?_) | (with_reducible refine oldBlk _ ?_)))))
        have NP : Hid (u3.heap[w.heap.size + 1 + 1]? = some (.cells #[.int .i64 0, .int .i64 0, .int .i64 0, .int .i64 0] 30 (0, 0))) := Lib.hid (cells_of_below b3 (by (repeat (first | (with_reducible exact HC.out) | (with_reducible exact HR.out) | (with_reducible exact HP.out) | (with_reducible exact HQ.out) | (with_reducible exact HT.out) | (with_reducible exact HV.out) | ((with_reducible refine newBlk _ _ _ _ ?_); (simp; done)) | (with_reducible apply store4g) | (with_reducible apply store5g) | ((with_reducible refine store4ne ?_ ?_); (first | omega | (simp; omega))) | ((with_reducible refine store5ne ?_ ?_); (first | omega | (simp; omega)))  | (with_reducible refine drewBlk ?_) | (with_reducible refine oldBlk _ ?_)))))
        have NQ : Hid (u3.heap[w.heap.size + 1 + 1 + 1]? = some (.cells #[.int .i64 0, .int .i64 0, .int .i64 0, .int .i64 0] 32 (0, 0))) := Lib.hid (cells_of_below b3 (by (repeat (first | (with_reducible exact HC.out) | (with_reducible exact HR.out) | (with_reducible exact HP.out) | (with_reducible exact HQ.out) | (with_reducible exact HT.out) | (with_reducible exact HV.out) | ((with_reducible refine newBlk _ _ _ _ ?_); (simp; done)) | (with_reducible apply store4g) | (with_reducible apply store5g) | ((with_reducible refine store4ne ?_ ?_); (first | omega | (simp; omega))) | ((with_reducible refine store5ne ?_ ?_); (first | omega | (simp; omega)))  | (with_reducible refine drewBlk ?_) | (with_reducible refine oldBlk _ ?_)))))
        have NT : Hid (u3.heap[u1.heap.size]? = some (.cells #[.int .i64 a', .int .i64 b', .int .i64 k', .int .i64 s1] 32 (0, 0))) := Lib.hid (cells_of_below b3 (by (repeat (first | (with_reducible exact HC.out) | (with_reducible exact HR.out) | (with_reducible exact HP.out) | (with_reducible exact HQ.out) | (with_reducible exact HT.out) | (with_reducible exact HV.out) | ((with_reducible refine newBlk _ _ _ _ ?_); (simp; done)) | (with_reducible apply store4g) | (with_reducible apply store5g) | ((with_reducible refine store4ne ?_ ?_); (first | omega | (simp; omega))) | ((with_reducible refine store5ne ?_ ?_); (first | omega | (simp; omega)))  | (with_reducible refine drewBlk ?_) | (with_reducible refine oldBlk _ ?_)))))
        have NV : Hid (u3.heap[u1.heap.size + 1]? = some (.cells #[.int .i64 v0, .int .i64 v1, .int .i64 v2, .int .i64 v3, .int .i64 v4] 45 (0, 0))) := Lib.hid (cells_of_below b3 (by (repeat (first | (with_reducible exact HC.out) | (with_reducible exact HR.out) | (with_reducible exact HP.out) | (with_reducible exact HQ.out) | (with_reducible exact HT.out) | (with_reducible exact HV.out) | ((with_reducible refine newBlk _ _ _ _ ?_); (simp; done)) | (with_reducible apply store4g) | (with_reducible apply store5g) | ((with_reducible refine store4ne ?_ ?_); (first | omega | (simp; omega))) | ((with_reducible refine store5ne ?_ ?_); (first | omega | (simp; omega)))  | (with_reducible refine drewBlk ?_) | (with_reducible refine oldBlk _ ?_)))))
        have ND : Hid (u3.heap[u2.heap.size]? = some (.cells #[.int .i64 a, .int .i64 b, .int .i64 k, .int .i64 l1] 30 (0, 0))) := Lib.hid (cells_of_below b3 (by (repeat (first | (with_reducible exact HC.out) | (with_reducible exact HR.out) | (with_reducible exact HP.out) | (with_reducible exact HQ.out) | (with_reducible exact HT.out) | (with_reducible exact HV.out) | ((with_reducible refine newBlk _ _ _ _ ?_); (simp; done)) | (with_reducible apply store4g) | (with_reducible apply store5g) | ((with_reducible refine store4ne ?_ ?_); (first | omega | (simp; omega))) | ((with_reducible refine store5ne ?_ ?_); (first | omega | (simp; omega)))  | (with_reducible refine drewBlk ?_) | (with_reducible refine oldBlk _ ?_)))))
        have NA : Hid (u3.heap[u2.heap.size + 1]? = some (.cells #[.int .i64 0, .int .i64 e1, .int .i64 y1, .int .i64 t1] 48 (0, 0))) := Lib.hid (cells_of_below b3 (by (repeat (first | (with_reducible exact HC.out) | (with_reducible exact HR.out) | (with_reducible exact HP.out) | (with_reducible exact HQ.out) | (with_reducible exact HT.out) | (with_reducible exact HV.out) | ((with_reducible refine newBlk _ _ _ _ ?_); (simp; done)) | (with_reducible apply store4g) | (with_reducible apply store5g) | ((with_reducible refine store4ne ?_ ?_); (first | omega | (simp; omega))) | ((with_reducible refine store5ne ?_ ?_); (first | omega | (simp; omega)))  | (with_reducible refine drewBlk ?_) | (with_reducible refine oldBlk _ ?_)))))
        have NB : Below w.heap.size w u3 := Below.next (by (repeat (first | (with_reducible exact B0) | ((with_reducible refine store4below ?_ ?_); (first | omega | (simp; omega))) | ((with_reducible refine store5below ?_ ?_); (first | omega | (simp; omega))) | (with_reducible refine Below.drew ?_) | (with_reducible refine Below.al ?_ _)))) b3
        clear c2C0 c2C1 c2C2 c2C3 c2R0 c2R1 c2R2 c2R3 c2P0 c2P1 c2P2 c2P3 c2Q0 c2Q1 c2Q2 c2Q3 c2T0 c2T1 c2T2 c2T3 c2V0 c2V1 c2V2 c2V3 c2V4 frc2C frc2R frc2P frc2Q frc2T frc2V d2CR d2CP d2CQ d2CT d2CV d2RC d2RP d2RQ d2RT d2RV d2PC d2PR d2PQ d2PT d2PV d2QC d2QR d2QP d2QT d2QV d2TC d2TR d2TP d2TQ d2TV d2VC d2VR d2VP d2VQ d2VT HC HR HP HQ HT HV B0 b3 cal fal sne
        have HC := NC
        have HR := NR
        have HP := NP
        have HQ := NQ
        have HT := NT
        have HV := NV
        have HD := ND
        have HA := NA
        have B0 := NB
        clear NC NR NP NQ NT NV ND NA NB
        have c3C0 := cell_of HC.out 0
        have c3C1 := cell_of HC.out 1
        have c3C2 := cell_of HC.out 2
        have c3C3 := cell_of HC.out 3
        have c3R0 := cell_of HR.out 0
        have c3R1 := cell_of HR.out 1
        have c3R2 := cell_of HR.out 2
        have c3R3 := cell_of HR.out 3
        have c3P0 := cell_of HP.out 0
        have c3P1 := cell_of HP.out 1
        have c3P2 := cell_of HP.out 2
        have c3P3 := cell_of HP.out 3
        have c3Q0 := cell_of HQ.out 0
        have c3Q1 := cell_of HQ.out 1
        have c3Q2 := cell_of HQ.out 2
        have c3Q3 := cell_of HQ.out 3
        have c3T0 := cell_of HT.out 0
        have c3T1 := cell_of HT.out 1
        have c3T2 := cell_of HT.out 2
        have c3T3 := cell_of HT.out 3
        have c3V0 := cell_of HV.out 0
        have c3V1 := cell_of HV.out 1
        have c3V2 := cell_of HV.out 2
        have c3V3 := cell_of HV.out 3
        have c3V4 := cell_of HV.out 4
        have c3D0 := cell_of HD.out 0
        have c3D1 := cell_of HD.out 1
        have c3D2 := cell_of HD.out 2
        have c3D3 := cell_of HD.out 3
        have c3A0 := cell_of HA.out 0
        have c3A1 := cell_of HA.out 1
        have c3A2 := cell_of HA.out 2
        have c3A3 := cell_of HA.out 3
        simp only [List.getElem?_toArray, List.getElem?_cons_zero, List.getElem?_cons_succ] at c3C0 c3C1 c3C2 c3C3 c3R0 c3R1 c3R2 c3R3 c3P0 c3P1 c3P2 c3P3 c3Q0 c3Q1 c3Q2 c3Q3 c3T0 c3T1 c3T2 c3T3 c3V0 c3V1 c3V2 c3V3 c3V4 c3D0 c3D1 c3D2 c3D3 c3A0 c3A1 c3A2 c3A3
        have frc3C := free_of HC.out
        have frc3R := free_of HR.out
        have frc3P := free_of HP.out
        have frc3Q := free_of HQ.out
        have frc3T := free_of HT.out
        have frc3V := free_of HV.out
        have frc3D := free_of HD.out
        have frc3A := free_of HA.out
        go_wp2_with fail
        go_region
        all_goals go_wp2_with fail
        all_goals refine bodyPost_ret (v := .tuple #[.agg #[.int .i64 a, .int .i64 b, .int .i64 k, .int .i64 l1], .agg #[.int .i64 a', .int .i64 b', .int .i64 k', .int .i64 s1], .int .i64 0]) (by simp [results, Try.results8, go_sem, *]) rfl ⟨rfl, ?_⟩
        all_goals exact (by repeat (first | (with_reducible exact B0) | (with_reducible refine Below.st ?_ _ _ _ (by omega)) | (with_reducible refine Below.al ?_ _) | (with_reducible refine Below.dn ?_ _) | (with_reducible refine Below.drew ?_)))
    · obtain rfl : kf = 0 := by rw [hkf0]; unfold endKey; rw [if_neg (fun h => hz h.1)]
      clear hkf0
      have hb1 : (c1 != 0) = true := by simpa using hz
      have hb0 : (c1 == 0) = false := by simpa using hz
      have c2C0 := cell_of HC.out 0
      have c2C1 := cell_of HC.out 1
      have c2C2 := cell_of HC.out 2
      have c2C3 := cell_of HC.out 3
      have c2R0 := cell_of HR.out 0
      have c2R1 := cell_of HR.out 1
      have c2R2 := cell_of HR.out 2
      have c2R3 := cell_of HR.out 3
      have c2P0 := cell_of HP.out 0
      have c2P1 := cell_of HP.out 1
      have c2P2 := cell_of HP.out 2
      have c2P3 := cell_of HP.out 3
      have c2Q0 := cell_of HQ.out 0
      have c2Q1 := cell_of HQ.out 1
      have c2Q2 := cell_of HQ.out 2
      have c2Q3 := cell_of HQ.out 3
      have c2T0 := cell_of HT.out 0
      have c2T1 := cell_of HT.out 1
      have c2T2 := cell_of HT.out 2
      have c2T3 := cell_of HT.out 3
      have c2V0 := cell_of HV.out 0
      have c2V1 := cell_of HV.out 1
      have c2V2 := cell_of HV.out 2
      have c2V3 := cell_of HV.out 3
      have c2V4 := cell_of HV.out 4
      simp only [List.getElem?_toArray, List.getElem?_cons_zero, List.getElem?_cons_succ] at c2C0 c2C1 c2C2 c2C3 c2R0 c2R1 c2R2 c2R3 c2P0 c2P1 c2P2 c2P3 c2Q0 c2Q1 c2Q2 c2Q3 c2T0 c2T1 c2T2 c2T3 c2V0 c2V1 c2V2 c2V3 c2V4
      have frc2C := free_of HC.out
      have frc2R := free_of HR.out
      have frc2P := free_of HP.out
      have frc2Q := free_of HQ.out
      have frc2T := free_of HT.out
      have frc2V := free_of HV.out
      have d2CR : ¬ w.heap.size = w.heap.size + 1 := by omega
      have d2CP : ¬ w.heap.size = w.heap.size + 1 + 1 := by omega
      have d2CQ : ¬ w.heap.size = w.heap.size + 1 + 1 + 1 := by omega
      have d2CT : ¬ w.heap.size = u1.heap.size := by omega
      have d2CV : ¬ w.heap.size = u1.heap.size + 1 := by omega
      have d2RC : ¬ w.heap.size + 1 = w.heap.size := by omega
      have d2RP : ¬ w.heap.size + 1 = w.heap.size + 1 + 1 := by omega
      have d2RQ : ¬ w.heap.size + 1 = w.heap.size + 1 + 1 + 1 := by omega
      have d2RT : ¬ w.heap.size + 1 = u1.heap.size := by omega
      have d2RV : ¬ w.heap.size + 1 = u1.heap.size + 1 := by omega
      have d2PC : ¬ w.heap.size + 1 + 1 = w.heap.size := by omega
      have d2PR : ¬ w.heap.size + 1 + 1 = w.heap.size + 1 := by omega
      have d2PQ : ¬ w.heap.size + 1 + 1 = w.heap.size + 1 + 1 + 1 := by omega
      have d2PT : ¬ w.heap.size + 1 + 1 = u1.heap.size := by omega
      have d2PV : ¬ w.heap.size + 1 + 1 = u1.heap.size + 1 := by omega
      have d2QC : ¬ w.heap.size + 1 + 1 + 1 = w.heap.size := by omega
      have d2QR : ¬ w.heap.size + 1 + 1 + 1 = w.heap.size + 1 := by omega
      have d2QP : ¬ w.heap.size + 1 + 1 + 1 = w.heap.size + 1 + 1 := by omega
      have d2QT : ¬ w.heap.size + 1 + 1 + 1 = u1.heap.size := by omega
      have d2QV : ¬ w.heap.size + 1 + 1 + 1 = u1.heap.size + 1 := by omega
      have d2TC : ¬ u1.heap.size = w.heap.size := by omega
      have d2TR : ¬ u1.heap.size = w.heap.size + 1 := by omega
      have d2TP : ¬ u1.heap.size = w.heap.size + 1 + 1 := by omega
      have d2TQ : ¬ u1.heap.size = w.heap.size + 1 + 1 + 1 := by omega
      have d2TV : ¬ u1.heap.size = u1.heap.size + 1 := by omega
      have d2VC : ¬ u1.heap.size + 1 = w.heap.size := by omega
      have d2VR : ¬ u1.heap.size + 1 = w.heap.size + 1 := by omega
      have d2VP : ¬ u1.heap.size + 1 = w.heap.size + 1 + 1 := by omega
      have d2VQ : ¬ u1.heap.size + 1 = w.heap.size + 1 + 1 + 1 := by omega
      have d2VT : ¬ u1.heap.size + 1 = u1.heap.size := by omega
      go_wp2_with fail
      go_region
      all_goals go_wp2_with fail
      all_goals refine bodyPost_ret (v := .tuple #[.agg #[.int .i64 a, .int .i64 b, .int .i64 k, .int .i64 l1], .agg #[.int .i64 a', .int .i64 b', .int .i64 k', .int .i64 s1], .int .i64 0]) (by simp [results, Try.results8, go_sem, *]) rfl ⟨rfl, ?_⟩
      all_goals exact (by repeat (first | (with_reducible exact B0) | (with_reducible refine Below.st ?_ _ _ _ (by omega)) | (with_reducible refine Below.al ?_ _) | (with_reducible refine Below.dn ?_ _) | (with_reducible refine Below.drew ?_)))

end Go.Proofs.Ytfenmicakmjelaa
