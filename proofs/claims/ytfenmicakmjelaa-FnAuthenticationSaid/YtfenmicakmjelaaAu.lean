/-
  Contracts: a card and a record authenticate each other, by the program and by the reference.
-/
import Derived.Test.YtfenmicakmjelaaChalS
import Derived.RegionTactic
import Derived.BigRegion
namespace Go.Proofs.Ytfenmicakmjelaa
open Go.RowKit

theorem cell_al (W : World) (o : Obj) (k i : Nat) (h : k < W.heap.size) : (W.alloc o).cell? ⟨k, i, none⟩ = W.cell? ⟨k, i, none⟩ := (Below.al (Below.refl W.heap.size W) o).cell (p := ⟨k, i, none⟩) h
theorem froz_al (W : World) (o : Obj) (k i : Nat) (h : k < W.heap.size) : (W.alloc o).frozen? ⟨k, i, none⟩ = W.frozen? ⟨k, i, none⟩ := (Below.al (Below.refl W.heap.size W) o).frozen (p := ⟨k, i, none⟩) h
theorem set_lo (W : World) (g i k j : Nat) (v : Value) (h : g < k) : (W.setCell ⟨g, i, none⟩ v).cell? ⟨k, j, none⟩ = W.cell? ⟨k, j, none⟩ := set_far _ _ _ _ _ _ (by omega)
theorem set_hi (W : World) (g i k j : Nat) (v : Value) (h : k < g) : (W.setCell ⟨g, i, none⟩ v).cell? ⟨k, j, none⟩ = W.cell? ⟨k, j, none⟩ := set_far _ _ _ _ _ _ (by omega)
theorem set_ne (W : World) (g i k j : Nat) (v : Value) (h : ¬ g = k) : (W.setCell ⟨g, i, none⟩ v).cell? ⟨k, j, none⟩ = W.cell? ⟨k, j, none⟩ := set_far _ _ _ _ _ _ h
theorem alloc_sz (W : World) (o : Obj) : (W.alloc o).heap.size = W.heap.size + 1 := by simp
theorem drew_sz (W : World) : W.drew.heap.size = W.heap.size := rfl
theorem set_sz (W : World) (p : Addr) (v : Value) : (W.setCell p v).heap.size = W.heap.size := by simp
/-- A struct of four numbers stored in its box. -/
theorem store4 {W : World} {g : Nat} {v0 v1 v2 v3 : Value} {t : TypeId} (h : W.heap[g]? = some (.cells #[.int .i64 0, .int .i64 0, .int .i64 0, .int .i64 0] t (0, 0))) :
    ((((W.setCell ⟨g, 0, none⟩ v0).setCell ⟨g, 1, none⟩ v1).setCell ⟨g, 2, none⟩ v2).setCell ⟨g, 3, none⟩ v3).heap[g]? = some (.cells #[v0, v1, v2, v3] t (0, 0)) :=
  setBlk (setBlk (setBlk (setBlk h 0 v0 rfl) 1 v1 rfl) 2 v2 rfl) 3 v3 rfl
theorem store4ne {W : World} {g g' : Nat} {v0 v1 v2 v3 : Value} {x : Option Obj} (hn : g' ≠ g) (h : W.heap[g]? = x) :
    ((((W.setCell ⟨g', 0, none⟩ v0).setCell ⟨g', 1, none⟩ v1).setCell ⟨g', 2, none⟩ v2).setCell ⟨g', 3, none⟩ v3).heap[g]? = x := by
  have key : ∀ (u : World) (i : Nat) (v : Value), (u.setCell ⟨g', i, none⟩ v).heap[g]? = u.heap[g]? := fun u i v => heap_setCell_other u ⟨g', i, none⟩ g v (fun e => hn e.symm)
  rw [key, key, key, key]; exact h
theorem store4below {W w : World} {g' : Nat} {v0 v1 v2 v3 : Value} (hg : w.heap.size ≤ g') (h : Below w.heap.size w W) :
    Below w.heap.size w ((((W.setCell ⟨g', 0, none⟩ v0).setCell ⟨g', 1, none⟩ v1).setCell ⟨g', 2, none⟩ v2).setCell ⟨g', 3, none⟩ v3) := Below.st (Below.st (Below.st (Below.st h _ _ _ hg) _ _ _ hg) _ _ _ hg) _ _ _ hg

theorem store4g {W : World} {g : Nat} {o0 o1 o2 o3 v0 v1 v2 v3 : Value} {t : TypeId} (h : W.heap[g]? = some (.cells #[o0, o1, o2, o3] t (0, 0))) :
    ((((W.setCell ⟨g, 0, none⟩ v0).setCell ⟨g, 1, none⟩ v1).setCell ⟨g, 2, none⟩ v2).setCell ⟨g, 3, none⟩ v3).heap[g]? = some (.cells #[v0, v1, v2, v3] t (0, 0)) :=
  setBlk (setBlk (setBlk (setBlk h 0 v0 rfl) 1 v1 rfl) 2 v2 rfl) 3 v3 rfl
theorem store5g {W : World} {g : Nat} {o0 o1 o2 o3 o4 v0 v1 v2 v3 v4 : Value} {t : TypeId} (h : W.heap[g]? = some (.cells #[o0, o1, o2, o3, o4] t (0, 0))) :
    (((((W.setCell ⟨g, 0, none⟩ v0).setCell ⟨g, 1, none⟩ v1).setCell ⟨g, 2, none⟩ v2).setCell ⟨g, 3, none⟩ v3).setCell ⟨g, 4, none⟩ v4).heap[g]? = some (.cells #[v0, v1, v2, v3, v4] t (0, 0)) :=
  setBlk (setBlk (setBlk (setBlk (setBlk h 0 v0 rfl) 1 v1 rfl) 2 v2 rfl) 3 v3 rfl) 4 v4 rfl
theorem store5ne {W : World} {g g' : Nat} {v0 v1 v2 v3 v4 : Value} {x : Option Obj} (hn : g' ≠ g) (h : W.heap[g]? = x) :
    (((((W.setCell ⟨g', 0, none⟩ v0).setCell ⟨g', 1, none⟩ v1).setCell ⟨g', 2, none⟩ v2).setCell ⟨g', 3, none⟩ v3).setCell ⟨g', 4, none⟩ v4).heap[g]? = x := by
  have key : ∀ (u : World) (i : Nat) (v : Value), (u.setCell ⟨g', i, none⟩ v).heap[g]? = u.heap[g]? := fun u i v => heap_setCell_other u ⟨g', i, none⟩ g v (fun e => hn e.symm)
  rw [key, key, key, key, key]; exact h
theorem store5below {W w : World} {g' : Nat} {v0 v1 v2 v3 v4 : Value} (hg : w.heap.size ≤ g') (h : Below w.heap.size w W) :
    Below w.heap.size w (((((W.setCell ⟨g', 0, none⟩ v0).setCell ⟨g', 1, none⟩ v1).setCell ⟨g', 2, none⟩ v2).setCell ⟨g', 3, none⟩ v3).setCell ⟨g', 4, none⟩ v4) := Below.st (Below.st (Below.st (Below.st (Below.st h _ _ _ hg) _ _ _ hg) _ _ _ hg) _ _ _ hg) _ _ _ hg
theorem na_wf (a b c x r : Int) (hr : (Lit.int .i64 r).wf = true) : (Lit.int .i64 (M.na0 a b c x r)).wf = true ∧ (Lit.int .i64 (M.na1 a b c x r)).wf = true := by
  have h := M.mask_bd c r
  refine ⟨?_, ?_⟩
  · unfold M.na0 M.nv0; split
    · split
      · exact hr
      · decide
    · decide
  · unfold M.na1 M.nv1; split
    · split
      · exact WalkArith.wf_i64 (by omega)
      · decide
    · decide
theorem tok_wf (c k l r : Int) : (Lit.int .i64 (M.rcTok c k l r)).wf = true := by
  have h := M.token_bd k r l
  unfold M.rcTok; split
  · exact WalkArith.wf_i64 (by omega)
  · decide
/-- What one try leaves: the card's and the record's numbers, the vector, the answer. -/
structure Try1 (a b k l a' b' k' s r : Int) (s1 v0 v1 v2 v3 v4 c1 l1 e1 y1 t1 : Int) : Prop where
  hs : s1 = M.nSeq a' b' k' s
  h0 : v0 = M.na0 a' b' k' s r
  h1 : v1 = M.na1 a' b' k' s r
  h2 : v2 = M.na2 a' b' k' s r
  h3 : v3 = M.na3 a' b' k' s r
  h4 : v4 = M.na4 a' b' k' s r
  hc : c1 = M.rcCode a b k l v0 v1 v2
  hl : l1 = M.rcLast c1 k l v0 v1
  he : e1 = M.rcRes c1 k v0
  hy : y1 = M.rcKey c1 k v0 v1
  ht : t1 = M.rcTok c1 k l v0
def endKey (c e v y : Int) : Int := if c = 0 ∧ e = v then y else 0

set_option maxRecDepth 100000 in
set_option maxHeartbeats 16000000 in
theorem impl_Authenticate (a b k l a' b' k' s r : Int) (w : World) (hk : (Lit.int .i64 k').wf = true) (hr : (Lit.int .i64 r).wf = true)
    (s1 v0 v1 v2 v3 v4 c1 l1 e1 y1 t1 s2 s3 p0 p1 p2 p3 p4 c2 l2 e2 y2 t2 lf sf kf : Int) (h1 : Try1 a b k l a' b' k' s r s1 v0 v1 v2 v3 v4 c1 l1 e1 y1 t1) (hs2 : s2 = M.rsSeq k' s1 r t1) (h2 : Try1 a b k l1 a' b' k' s2 (wrap64 (r + 1)) s3 p0 p1 p2 p3 p4 c2 l2 e2 y2 t2)
    (hf : if c1 = 2 ∨ c1 = 3 then lf = l2 ∧ sf = s3 ∧ kf = endKey c2 e2 p3 y2 else lf = l1 ∧ sf = s1 ∧ kf = endKey c1 e1 v3 y1) :
    Calls Try.prog 11 #[.agg #[.int .i64 a, .int .i64 b, .int .i64 k, .int .i64 l], .agg #[.int .i64 a', .int .i64 b', .int .i64 k', .int .i64 s], .int .i64 r] w fun e w' => e = .returned (.tuple #[.agg #[.int .i64 a, .int .i64 b, .int .i64 k, .int .i64 lf], .agg #[.int .i64 a', .int .i64 b', .int .i64 k', .int .i64 sf], .int .i64 kf]) ∧ Below w.heap.size w w' := by
  obtain ⟨g1, g2, g3, g4, g5, g6, g7, g8, g9, g10, g11⟩ := h1
  obtain ⟨i1, i2, i3, i4, i5, i6, i7, i8, i9, i10, i11⟩ := h2
  obtain ⟨wv0, wv1⟩ := na_wf a' b' k' s r hr
  rw [← g2] at wv0
  rw [← g3] at wv1
  have hr1 : (Lit.int .i64 (wrap64 (r + 1))).wf = true := wrap64_wf _
  obtain ⟨wp0, wp1⟩ := na_wf a' b' k' s2 (wrap64 (r + 1)) hr1
  rw [← i2] at wp0
  rw [← i3] at wp1
  have wt1 := tok_wf c1 k l v0
  rw [← g11] at wt1
  have G1 := Lib.hid g1
  have G2 := Lib.hid g2
  have G3 := Lib.hid g3
  have G4 := Lib.hid g4
  have G5 := Lib.hid g5
  have G6 := Lib.hid g6
  have G7 := Lib.hid g7
  have G8 := Lib.hid g8
  have G9 := Lib.hid g9
  have G10 := Lib.hid g10
  have G11 := Lib.hid g11
  have I1 := Lib.hid i1
  have I2 := Lib.hid i2
  have I3 := Lib.hid i3
  have I4 := Lib.hid i4
  have I5 := Lib.hid i5
  have I6 := Lib.hid i6
  have I7 := Lib.hid i7
  have I8 := Lib.hid i8
  have I9 := Lib.hid i9
  have I10 := Lib.hid i10
  have I11 := Lib.hid i11
  have HS2 := Lib.hid hs2
  clear g1 g2 g3 g4 g5 g6 g7 g8 g9 g10 g11 i1 i2 i3 i4 i5 i6 i7 i8 i9 i10 i11 hs2
  have HF := Lib.hid hf
  clear hf
  have HC : Hid (((((w.alloc (.cells #[.int .i64 a, .int .i64 b, .int .i64 k, .int .i64 l] 30)).alloc (.cells #[.int .i64 a', .int .i64 b', .int .i64 k', .int .i64 s] 32)).alloc (.cells #[.int .i64 0, .int .i64 0, .int .i64 0, .int .i64 0] 30)).alloc (.cells #[.int .i64 0, .int .i64 0, .int .i64 0, .int .i64 0] 32)).heap[w.heap.size]? = some (.cells #[.int .i64 a, .int .i64 b, .int .i64 k, .int .i64 l] 30 (0, 0))) := Lib.hid (by (repeat (first  | ((with_reducible refine newBlk _ _ _ _ ?_); (simp; done)) | (with_reducible apply store4g) | (with_reducible apply store5g) | ((with_reducible refine store4ne ?_ ?_); (first | omega | (simp; omega))) | ((with_reducible refine store5ne ?_ ?_); (first | omega | (simp; omega)))  | (with_reducible refine drewBlk ?_) | (with_reducible refine oldBlk _ ?_))))
  have HR : Hid (((((w.alloc (.cells #[.int .i64 a, .int .i64 b, .int .i64 k, .int .i64 l] 30)).alloc (.cells #[.int .i64 a', .int .i64 b', .int .i64 k', .int .i64 s] 32)).alloc (.cells #[.int .i64 0, .int .i64 0, .int .i64 0, .int .i64 0] 30)).alloc (.cells #[.int .i64 0, .int .i64 0, .int .i64 0, .int .i64 0] 32)).heap[w.heap.size + 1]? = some (.cells #[.int .i64 a', .int .i64 b', .int .i64 k', .int .i64 s] 32 (0, 0))) := Lib.hid (by (repeat (first  | ((with_reducible refine newBlk _ _ _ _ ?_); (simp; done)) | (with_reducible apply store4g) | (with_reducible apply store5g) | ((with_reducible refine store4ne ?_ ?_); (first | omega | (simp; omega))) | ((with_reducible refine store5ne ?_ ?_); (first | omega | (simp; omega)))  | (with_reducible refine drewBlk ?_) | (with_reducible refine oldBlk _ ?_))))
  have HP : Hid (((((w.alloc (.cells #[.int .i64 a, .int .i64 b, .int .i64 k, .int .i64 l] 30)).alloc (.cells #[.int .i64 a', .int .i64 b', .int .i64 k', .int .i64 s] 32)).alloc (.cells #[.int .i64 0, .int .i64 0, .int .i64 0, .int .i64 0] 30)).alloc (.cells #[.int .i64 0, .int .i64 0, .int .i64 0, .int .i64 0] 32)).heap[w.heap.size + 1 + 1]? = some (.cells #[.int .i64 0, .int .i64 0, .int .i64 0, .int .i64 0] 30 (0, 0))) := Lib.hid (by (repeat (first  | ((with_reducible refine newBlk _ _ _ _ ?_); (simp; done)) | (with_reducible apply store4g) | (with_reducible apply store5g) | ((with_reducible refine store4ne ?_ ?_); (first | omega | (simp; omega))) | ((with_reducible refine store5ne ?_ ?_); (first | omega | (simp; omega)))  | (with_reducible refine drewBlk ?_) | (with_reducible refine oldBlk _ ?_))))
  have HQ : Hid (((((w.alloc (.cells #[.int .i64 a, .int .i64 b, .int .i64 k, .int .i64 l] 30)).alloc (.cells #[.int .i64 a', .int .i64 b', .int .i64 k', .int .i64 s] 32)).alloc (.cells #[.int .i64 0, .int .i64 0, .int .i64 0, .int .i64 0] 30)).alloc (.cells #[.int .i64 0, .int .i64 0, .int .i64 0, .int .i64 0] 32)).heap[w.heap.size + 1 + 1 + 1]? = some (.cells #[.int .i64 0, .int .i64 0, .int .i64 0, .int .i64 0] 32 (0, 0))) := Lib.hid (by (repeat (first  | ((with_reducible refine newBlk _ _ _ _ ?_); (simp; done)) | (with_reducible apply store4g) | (with_reducible apply store5g) | ((with_reducible refine store4ne ?_ ?_); (first | omega | (simp; omega))) | ((with_reducible refine store5ne ?_ ?_); (first | omega | (simp; omega)))  | (with_reducible refine drewBlk ?_) | (with_reducible refine oldBlk _ ?_))))
  have B0 : Below w.heap.size w ((((w.alloc (.cells #[.int .i64 a, .int .i64 b, .int .i64 k, .int .i64 l] 30)).alloc (.cells #[.int .i64 a', .int .i64 b', .int .i64 k', .int .i64 s] 32)).alloc (.cells #[.int .i64 0, .int .i64 0, .int .i64 0, .int .i64 0] 30)).alloc (.cells #[.int .i64 0, .int .i64 0, .int .i64 0, .int .i64 0] 32)) := Below.al (Below.al (Below.al (Below.al (Below.refl _ _) _) _) _) _
  go_enter Try.func11, Try.ntmps11
  have cal := cell_al
  have fal := froz_al
  have sne := set_ne
  have c0C0 := cell_of HC.out 0
  have c0C1 := cell_of HC.out 1
  have c0C2 := cell_of HC.out 2
  have c0C3 := cell_of HC.out 3
  have c0R0 := cell_of HR.out 0
  have c0R1 := cell_of HR.out 1
  have c0R2 := cell_of HR.out 2
  have c0R3 := cell_of HR.out 3
  have c0P0 := cell_of HP.out 0
  have c0P1 := cell_of HP.out 1
  have c0P2 := cell_of HP.out 2
  have c0P3 := cell_of HP.out 3
  have c0Q0 := cell_of HQ.out 0
  have c0Q1 := cell_of HQ.out 1
  have c0Q2 := cell_of HQ.out 2
  have c0Q3 := cell_of HQ.out 3
  simp only [List.getElem?_toArray, List.getElem?_cons_zero, List.getElem?_cons_succ] at c0C0 c0C1 c0C2 c0C3 c0R0 c0R1 c0R2 c0R3 c0P0 c0P1 c0P2 c0P3 c0Q0 c0Q1 c0Q2 c0Q3
  have frc0C := free_of HC.out
  have frc0R := free_of HR.out
  have frc0P := free_of HP.out
  have frc0Q := free_of HQ.out
  have d0CR : ¬ w.heap.size = w.heap.size + 1 := by omega
  have d0CP : ¬ w.heap.size = w.heap.size + 1 + 1 := by omega
  have d0CQ : ¬ w.heap.size = w.heap.size + 1 + 1 + 1 := by omega
  have d0RC : ¬ w.heap.size + 1 = w.heap.size := by omega
  have d0RP : ¬ w.heap.size + 1 = w.heap.size + 1 + 1 := by omega
  have d0RQ : ¬ w.heap.size + 1 = w.heap.size + 1 + 1 + 1 := by omega
  have d0PC : ¬ w.heap.size + 1 + 1 = w.heap.size := by omega
  have d0PR : ¬ w.heap.size + 1 + 1 = w.heap.size + 1 := by omega
  have d0PQ : ¬ w.heap.size + 1 + 1 = w.heap.size + 1 + 1 + 1 := by omega
  have d0QC : ¬ w.heap.size + 1 + 1 + 1 = w.heap.size := by omega
  have d0QR : ¬ w.heap.size + 1 + 1 + 1 = w.heap.size + 1 := by omega
  have d0QP : ¬ w.heap.size + 1 + 1 + 1 = w.heap.size + 1 + 1 := by omega
  go_wp2_with fail
  refine (impl_NextAuthVector a' b' k' s r _ hr).mono ?_
  rw [← G1.out, ← G2.out, ← G3.out, ← G4.out, ← G5.out, ← G6.out]
  rintro e u1 ⟨rfl, b1⟩
  have NC : Hid (u1.heap[w.heap.size]? = some (.cells #[.int .i64 a, .int .i64 b, .int .i64 k, .int .i64 l] 30 (0, 0))) := Lib.hid (cells_of_below b1 (by (repeat (first | (with_reducible exact HC.out) | (with_reducible exact HR.out) | (with_reducible exact HP.out) | (with_reducible exact HQ.out) | ((with_reducible refine newBlk _ _ _ _ ?_); (simp; done)) | (with_reducible apply store4g) | (with_reducible apply store5g) | ((with_reducible refine store4ne ?_ ?_); (first | omega | (simp; omega))) | ((with_reducible refine store5ne ?_ ?_); (first | omega | (simp; omega)))  | (with_reducible refine drewBlk ?_) | (with_reducible refine oldBlk _ ?_)))))
  have NR : Hid (u1.heap[w.heap.size + 1]? = some (.cells #[.int .i64 a', .int .i64 b', .int .i64 k', .int .i64 s] 32 (0, 0))) := Lib.hid (cells_of_below b1 (by (repeat (first | (with_reducible exact HC.out) | (with_reducible exact HR.out) | (with_reducible exact HP.out) | (with_reducible exact HQ.out) | ((with_reducible refine newBlk _ _ _ _ ?_); (simp; done)) | (with_reducible apply store4g) | (with_reducible apply store5g) | ((with_reducible refine store4ne ?_ ?_); (first | omega | (simp; omega))) | ((with_reducible refine store5ne ?_ ?_); (first | omega | (simp; omega)))  | (with_reducible refine drewBlk ?_) | (with_reducible refine oldBlk _ ?_)))))
  have NP : Hid (u1.heap[w.heap.size + 1 + 1]? = some (.cells #[.int .i64 0, .int .i64 0, .int .i64 0, .int .i64 0] 30 (0, 0))) := Lib.hid (cells_of_below b1 (by (repeat (first | (with_reducible exact HC.out) | (with_reducible exact HR.out) | (with_reducible exact HP.out) | (with_reducible exact HQ.out) | ((with_reducible refine newBlk _ _ _ _ ?_); (simp; done)) | (with_reducible apply store4g) | (with_reducible apply store5g) | ((with_reducible refine store4ne ?_ ?_); (first | omega | (simp; omega))) | ((with_reducible refine store5ne ?_ ?_); (first | omega | (simp; omega)))  | (with_reducible refine drewBlk ?_) | (with_reducible refine oldBlk _ ?_)))))
  have NQ : Hid (u1.heap[w.heap.size + 1 + 1 + 1]? = some (.cells #[.int .i64 0, .int .i64 0, .int .i64 0, .int .i64 0] 32 (0, 0))) := Lib.hid (cells_of_below b1 (by (repeat (first | (with_reducible exact HC.out) | (with_reducible exact HR.out) | (with_reducible exact HP.out) | (with_reducible exact HQ.out) | ((with_reducible refine newBlk _ _ _ _ ?_); (simp; done)) | (with_reducible apply store4g) | (with_reducible apply store5g) | ((with_reducible refine store4ne ?_ ?_); (first | omega | (simp; omega))) | ((with_reducible refine store5ne ?_ ?_); (first | omega | (simp; omega)))  | (with_reducible refine drewBlk ?_) | (with_reducible refine oldBlk _ ?_)))))
  have NB : Below w.heap.size w u1 := Below.next (by (repeat (first | (with_reducible exact B0) | ((with_reducible refine store4below ?_ ?_); (first | omega | (simp; omega))) | ((with_reducible refine store5below ?_ ?_); (first | omega | (simp; omega))) | (with_reducible refine Below.drew ?_) | (with_reducible refine Below.al ?_ _)))) b1
  clear c0C0 c0C1 c0C2 c0C3 c0R0 c0R1 c0R2 c0R3 c0P0 c0P1 c0P2 c0P3 c0Q0 c0Q1 c0Q2 c0Q3 frc0C frc0R frc0P frc0Q d0CR d0CP d0CQ d0RC d0RP d0RQ d0PC d0PR d0PQ d0QC d0QR d0QP HC HR HP HQ B0 b1
  have HC := NC
  have HR := NR
  have HP := NP
  have HQ := NQ
  have B0 := NB
  clear NC NR NP NQ NB
  have zC1 := (Array.getElem?_eq_some_iff.1 HC.out).1
  have zR1 := (Array.getElem?_eq_some_iff.1 HR.out).1
  have zP1 := (Array.getElem?_eq_some_iff.1 HP.out).1
  have zQ1 := (Array.getElem?_eq_some_iff.1 HQ.out).1
  have zy1 := B0.size
  have c1C0 := cell_of HC.out 0
  have c1C1 := cell_of HC.out 1
  have c1C2 := cell_of HC.out 2
  have c1C3 := cell_of HC.out 3
  have c1R0 := cell_of HR.out 0
  have c1R1 := cell_of HR.out 1
  have c1R2 := cell_of HR.out 2
  have c1R3 := cell_of HR.out 3
  have c1P0 := cell_of HP.out 0
  have c1P1 := cell_of HP.out 1
  have c1P2 := cell_of HP.out 2
  have c1P3 := cell_of HP.out 3
  have c1Q0 := cell_of HQ.out 0
  have c1Q1 := cell_of HQ.out 1
  have c1Q2 := cell_of HQ.out 2
  have c1Q3 := cell_of HQ.out 3
  simp only [List.getElem?_toArray, List.getElem?_cons_zero, List.getElem?_cons_succ] at c1C0 c1C1 c1C2 c1C3 c1R0 c1R1 c1R2 c1R3 c1P0 c1P1 c1P2 c1P3 c1Q0 c1Q1 c1Q2 c1Q3
  have frc1C := free_of HC.out
  have frc1R := free_of HR.out
  have frc1P := free_of HP.out
  have frc1Q := free_of HQ.out
  have d1CR : ¬ w.heap.size = w.heap.size + 1 := by omega
  have d1CP : ¬ w.heap.size = w.heap.size + 1 + 1 := by omega
  have d1CQ : ¬ w.heap.size = w.heap.size + 1 + 1 + 1 := by omega
  have d1RC : ¬ w.heap.size + 1 = w.heap.size := by omega
  have d1RP : ¬ w.heap.size + 1 = w.heap.size + 1 + 1 := by omega
  have d1RQ : ¬ w.heap.size + 1 = w.heap.size + 1 + 1 + 1 := by omega
  have d1PC : ¬ w.heap.size + 1 + 1 = w.heap.size := by omega
  have d1PR : ¬ w.heap.size + 1 + 1 = w.heap.size + 1 := by omega
  have d1PQ : ¬ w.heap.size + 1 + 1 = w.heap.size + 1 + 1 + 1 := by omega
  have d1QC : ¬ w.heap.size + 1 + 1 + 1 = w.heap.size := by omega
  have d1QR : ¬ w.heap.size + 1 + 1 + 1 = w.heap.size + 1 := by omega
  have d1QP : ¬ w.heap.size + 1 + 1 + 1 = w.heap.size + 1 + 1 := by omega
  go_wp2_with fail
  refine (impl_RespondToChallenge a b k l v0 v1 v2 v3 v4 _ wv0 wv1).mono ?_
  rw [← G7.out, ← G8.out, ← G9.out, ← G10.out, ← G11.out]
  rintro e u2 ⟨rfl, b2⟩
  have NC : Hid (u2.heap[w.heap.size]? = some (.cells #[.int .i64 a, .int .i64 b, .int .i64 k, .int .i64 l] 30 (0, 0))) := Lib.hid (cells_of_below b2 (by (repeat (first | (with_reducible exact HC.out) | (with_reducible exact HR.out) | (with_reducible exact HP.out) | (with_reducible exact HQ.out) | ((with_reducible refine newBlk _ _ _ _ ?_); (simp; done)) | (with_reducible apply store4g) | (with_reducible apply store5g) | ((with_reducible refine store4ne ?_ ?_); (first | omega | (simp; omega))) | ((with_reducible refine store5ne ?_ ?_); (first | omega | (simp; omega)))  | (with_reducible refine drewBlk ?_) | (with_reducible refine oldBlk _ ?_)))))
  have NR : Hid (u2.heap[w.heap.size + 1]? = some (.cells #[.int .i64 a', .int .i64 b', .int .i64 k', .int .i64 s1] 32 (0, 0))) := Lib.hid (cells_of_below b2 (by (repeat (first | (with_reducible exact HC.out) | (with_reducible exact HR.out) | (with_reducible exact HP.out) | (with_reducible exact HQ.out) | ((with_reducible refine newBlk _ _ _ _ ?_); (simp; done)) | (with_reducible apply store4g) | (with_reducible apply store5g) | ((with_reducible refine store4ne ?_ ?_); (first | omega | (simp; omega))) | ((with_reducible refine store5ne ?_ ?_); (first | omega | (simp; omega)))  | (with_reducible refine drewBlk ?_) | (with_reducible refine oldBlk _ ?_)))))
  have NP : Hid (u2.heap[w.heap.size + 1 + 1]? = some (.cells #[.int .i64 0, .int .i64 0, .int .i64 0, .int .i64 0] 30 (0, 0))) := Lib.hid (cells_of_below b2 (by (repeat (first | (with_reducible exact HC.out) | (with_reducible exact HR.out) | (with_reducible exact HP.out) | (with_reducible exact HQ.out) | ((with_reducible refine newBlk _ _ _ _ ?_); (simp; done)) | (with_reducible apply store4g) | (with_reducible apply store5g) | ((with_reducible refine store4ne ?_ ?_); (first | omega | (simp; omega))) | ((with_reducible refine store5ne ?_ ?_); (first | omega | (simp; omega)))  | (with_reducible refine drewBlk ?_) | (with_reducible refine oldBlk _ ?_)))))
  have NQ : Hid (u2.heap[w.heap.size + 1 + 1 + 1]? = some (.cells #[.int .i64 0, .int .i64 0, .int .i64 0, .int .i64 0] 32 (0, 0))) := Lib.hid (cells_of_below b2 (by (repeat (first | (with_reducible exact HC.out) | (with_reducible exact HR.out) | (with_reducible exact HP.out) | (with_reducible exact HQ.out) | ((with_reducible refine newBlk _ _ _ _ ?_); (simp; done)) | (with_reducible apply store4g) | (with_reducible apply store5g) | ((with_reducible refine store4ne ?_ ?_); (first | omega | (simp; omega))) | ((with_reducible refine store5ne ?_ ?_); (first | omega | (simp; omega)))  | (with_reducible refine drewBlk ?_) | (with_reducible refine oldBlk _ ?_)))))
  have NV : Hid (u2.heap[u1.heap.size]? = some (.cells #[.int .i64 v0, .int .i64 v1, .int .i64 v2, .int .i64 v3, .int .i64 v4] 45 (0, 0))) := Lib.hid (cells_of_below b2 (by (repeat (first | (with_reducible exact HC.out) | (with_reducible exact HR.out) | (with_reducible exact HP.out) | (with_reducible exact HQ.out) | ((with_reducible refine newBlk _ _ _ _ ?_); (simp; done)) | (with_reducible apply store4g) | (with_reducible apply store5g) | ((with_reducible refine store4ne ?_ ?_); (first | omega | (simp; omega))) | ((with_reducible refine store5ne ?_ ?_); (first | omega | (simp; omega)))  | (with_reducible refine drewBlk ?_) | (with_reducible refine oldBlk _ ?_)))))
  have NB : Below w.heap.size w u2 := Below.next (by (repeat (first | (with_reducible exact B0) | ((with_reducible refine store4below ?_ ?_); (first | omega | (simp; omega))) | ((with_reducible refine store5below ?_ ?_); (first | omega | (simp; omega))) | (with_reducible refine Below.drew ?_) | (with_reducible refine Below.al ?_ _)))) b2
  clear c1C0 c1C1 c1C2 c1C3 c1R0 c1R1 c1R2 c1R3 c1P0 c1P1 c1P2 c1P3 c1Q0 c1Q1 c1Q2 c1Q3 frc1C frc1R frc1P frc1Q d1CR d1CP d1CQ d1RC d1RP d1RQ d1PC d1PR d1PQ d1QC d1QR d1QP HC HR HP HQ B0 b2
  have HC := NC
  have HR := NR
  have HP := NP
  have HQ := NQ
  have HV := NV
  have B0 := NB
  clear NC NR NP NQ NV NB
  have zC2 := (Array.getElem?_eq_some_iff.1 HC.out).1
  have zR2 := (Array.getElem?_eq_some_iff.1 HR.out).1
  have zP2 := (Array.getElem?_eq_some_iff.1 HP.out).1
  have zQ2 := (Array.getElem?_eq_some_iff.1 HQ.out).1
  have zV2 := (Array.getElem?_eq_some_iff.1 HV.out).1
  have zy2 := B0.size
  by_cases hc : c1 = 2 ∨ c1 = 3
  · obtain ⟨rfl, rfl, hkf0⟩ : l2 = lf ∧ s3 = sf ∧ kf = endKey c2 e2 p3 y2 := by have h := HF.out; rw [if_pos hc] at h; exact ⟨h.1.symm, h.2.1.symm, h.2.2⟩
    clear HF
    have hcc : (c1 == 2) = true ∨ ((c1 == 2) = false ∧ (c1 == 3) = true) := by
      rcases hc with rfl | rfl
      · exact .inl rfl
      · exact .inr ⟨rfl, rfl⟩
    clear hc
    rcases hcc with hb2 | ⟨hb2, hb3⟩
    all_goals
      have c2C0 := cell_of HC.out 0
      have c2C1 := cell_of HC.out 1
      have c2C2 := cell_of HC.out 2
      have c2C3 := cell_of HC.out 3
      have c2R0 := cell_of HR.out 0
      have c2R1 := cell_of HR.out 1
      have c2R2 := cell_of HR.out 2
      have c2R3 := cell_of HR.out 3
      have c2P0 := cell_of HP.out 0
      have c2P1 := cell_of HP.out 1
      have c2P2 := cell_of HP.out 2
      have c2P3 := cell_of HP.out 3
      have c2Q0 := cell_of HQ.out 0
      have c2Q1 := cell_of HQ.out 1
      have c2Q2 := cell_of HQ.out 2
      have c2Q3 := cell_of HQ.out 3
      have c2V0 := cell_of HV.out 0
      have c2V1 := cell_of HV.out 1
      have c2V2 := cell_of HV.out 2
      have c2V3 := cell_of HV.out 3
      have c2V4 := cell_of HV.out 4
      simp only [List.getElem?_toArray, List.getElem?_cons_zero, List.getElem?_cons_succ] at c2C0 c2C1 c2C2 c2C3 c2R0 c2R1 c2R2 c2R3 c2P0 c2P1 c2P2 c2P3 c2Q0 c2Q1 c2Q2 c2Q3 c2V0 c2V1 c2V2 c2V3 c2V4
      have frc2C := free_of HC.out
      have frc2R := free_of HR.out
      have frc2P := free_of HP.out
      have frc2Q := free_of HQ.out
      have frc2V := free_of HV.out
      have d2CR : ¬ w.heap.size = w.heap.size + 1 := by omega
      have d2CP : ¬ w.heap.size = w.heap.size + 1 + 1 := by omega
      have d2CQ : ¬ w.heap.size = w.heap.size + 1 + 1 + 1 := by omega
      have d2CV : ¬ w.heap.size = u1.heap.size := by omega
      have d2RC : ¬ w.heap.size + 1 = w.heap.size := by omega
      have d2RP : ¬ w.heap.size + 1 = w.heap.size + 1 + 1 := by omega
      have d2RQ : ¬ w.heap.size + 1 = w.heap.size + 1 + 1 + 1 := by omega
      have d2RV : ¬ w.heap.size + 1 = u1.heap.size := by omega
      have d2PC : ¬ w.heap.size + 1 + 1 = w.heap.size := by omega
      have d2PR : ¬ w.heap.size + 1 + 1 = w.heap.size + 1 := by omega
      have d2PQ : ¬ w.heap.size + 1 + 1 = w.heap.size + 1 + 1 + 1 := by omega
      have d2PV : ¬ w.heap.size + 1 + 1 = u1.heap.size := by omega
      have d2QC : ¬ w.heap.size + 1 + 1 + 1 = w.heap.size := by omega
      have d2QR : ¬ w.heap.size + 1 + 1 + 1 = w.heap.size + 1 := by omega
      have d2QP : ¬ w.heap.size + 1 + 1 + 1 = w.heap.size + 1 + 1 := by omega
      have d2QV : ¬ w.heap.size + 1 + 1 + 1 = u1.heap.size := by omega
      have d2VC : ¬ u1.heap.size = w.heap.size := by omega
      have d2VR : ¬ u1.heap.size = w.heap.size + 1 := by omega
      have d2VP : ¬ u1.heap.size = w.heap.size + 1 + 1 := by omega
      have d2VQ : ¬ u1.heap.size = w.heap.size + 1 + 1 + 1 := by omega
      go_wp2_with fail
      refine (impl_Resynchronize a' b' k' s1 r t1 _ hk hr wt1).mono ?_
      rw [← HS2.out]
      rintro e u3 ⟨rfl, b3⟩
      have NC : Hid (u3.heap[w.heap.size]? = some (.cells #[.int .i64 a, .int .i64 b, .int .i64 k, .int .i64 l1] 30 (0, 0))) := Lib.hid (cells_of_below b3 (by (repeat (first | (with_reducible exact HC.out) | (with_reducible exact HR.out) | (with_reducible exact HP.out) | (with_reducible exact HQ.out) | (with_reducible exact HV.out) | ((with_reducible refine newBlk _ _ _ _ ?_); (simp; done)) | (with_reducible apply store4g) | (with_reducible apply store5g) | ((with_reducible refine store4ne ?_ ?_); (first | omega | (simp; omega))) | ((with_reducible refine store5ne ?_ ?_); (first | omega | (simp; omega)))  | (with_reducible refine drewBlk ?_) | (with_reducible refine oldBlk _ ?_)))))
      have NR : Hid (u3.heap[w.heap.size + 1]? = some (.cells #[.int .i64 a', .int .i64 b', .int .i64 k', .int .i64 s1] 32 (0, 0))) := Lib.hid (cells_of_below b3 (by (repeat (first | (with_reducible exact HC.out) | (with_reducible exact HR.out) | (with_reducible exact HP.out) | (with_reducible exact HQ.out) | (with_reducible exact HV.out) | ((with_reducible refine newBlk _ _ _ _ ?_); (simp; done)) | (with_reducible apply store4g) | (with_reducible apply store5g) | ((with_reducible refine store4ne ?_ ?_); (first | omega | (simp; omega))) | ((with_reducible refine store5ne ?_ ?_); (first | omega | (simp; omega)))  | (with_reducible refine drewBlk ?_) | (with_reducible refine oldBlk _ ?_)))))
      have NP : Hid (u3.heap[w.heap.size + 1 + 1]? = some (.cells #[.int .i64 0, .int .i64 0, .int .i64 0, .int .i64 0] 30 (0, 0))) := Lib.hid (cells_of_below b3 (by (repeat (first | (with_reducible exact HC.out) | (with_reducible exact HR.out) | (with_reducible exact HP.out) | (with_reducible exact HQ.out) | (with_reducible exact HV.out) | ((with_reducible refine newBlk _ _ _ _ ?_); (simp; done)) | (with_reducible apply store4g) | (with_reducible apply store5g) | ((with_reducible refine store4ne ?_ ?_); (first | omega | (simp; omega))) | ((with_reducible refine store5ne ?_ ?_); (first | omega | (simp; omega)))  | (with_reducible refine drewBlk ?_) | (with_reducible refine oldBlk _ ?_)))))
      have NQ : Hid (u3.heap[w.heap.size + 1 + 1 + 1]? = some (.cells #[.int .i64 0, .int .i64 0, .int .i64 0, .int .i64 0] 32 (0, 0))) := Lib.hid (cells_of_below b3 (by (repeat (first | (with_reducible exact HC.out) | (with_reducible exact HR.out) | (with_reducible exact HP.out) | (with_reducible exact HQ.out) | (with_reducible exact HV.out) | ((with_reducible refine newBlk _ _ _ _ ?_); (simp; done)) | (with_reducible apply store4g) | (with_reducible apply store5g) | ((with_reducible refine store4ne ?_ ?_); (first | omega | (simp; omega))) | ((with_reducible refine store5ne ?_ ?_); (first | omega | (simp; omega)))  | (with_reducible refine drewBlk ?_) | (with_reducible refine oldBlk _ ?_)))))
      have NV : Hid (u3.heap[u1.heap.size]? = some (.cells #[.int .i64 v0, .int .i64 v1, .int .i64 v2, .int .i64 v3, .int .i64 v4] 45 (0, 0))) := Lib.hid (cells_of_below b3 (by (repeat (first | (with_reducible exact HC.out) | (with_reducible exact HR.out) | (with_reducible exact HP.out) | (with_reducible exact HQ.out) | (with_reducible exact HV.out) | ((with_reducible refine newBlk _ _ _ _ ?_); (simp; done)) | (with_reducible apply store4g) | (with_reducible apply store5g) | ((with_reducible refine store4ne ?_ ?_); (first | omega | (simp; omega))) | ((with_reducible refine store5ne ?_ ?_); (first | omega | (simp; omega)))  | (with_reducible refine drewBlk ?_) | (with_reducible refine oldBlk _ ?_)))))
      have NA : Hid (u3.heap[u2.heap.size]? = some (.cells #[.int .i64 c1, .int .i64 e1, .int .i64 y1, .int .i64 t1] 48 (0, 0))) := Lib.hid (cells_of_below b3 (by (repeat (first | (with_reducible exact HC.out) | (with_reducible exact HR.out) | (with_reducible exact HP.out) | (with_reducible exact HQ.out) | (with_reducible exact HV.out) | ((with_reducible refine newBlk _ _ _ _ ?_); (simp; done)) | (with_reducible apply store4g) | (with_reducible apply store5g) | ((with_reducible refine store4ne ?_ ?_); (first | omega | (simp; omega))) | ((with_reducible refine store5ne ?_ ?_); (first | omega | (simp; omega)))  | (with_reducible refine drewBlk ?_) | (with_reducible refine oldBlk _ ?_)))))
      have NB : Below w.heap.size w u3 := Below.next (by (repeat (first | (with_reducible exact B0) | ((with_reducible refine store4below ?_ ?_); (first | omega | (simp; omega))) | ((with_reducible refine store5below ?_ ?_); (first | omega | (simp; omega))) | (with_reducible refine Below.drew ?_) | (with_reducible refine Below.al ?_ _)))) b3
      clear c2C0 c2C1 c2C2 c2C3 c2R0 c2R1 c2R2 c2R3 c2P0 c2P1 c2P2 c2P3 c2Q0 c2Q1 c2Q2 c2Q3 c2V0 c2V1 c2V2 c2V3 c2V4 frc2C frc2R frc2P frc2Q frc2V d2CR d2CP d2CQ d2CV d2RC d2RP d2RQ d2RV d2PC d2PR d2PQ d2PV d2QC d2QR d2QP d2QV d2VC d2VR d2VP d2VQ HC HR HP HQ HV B0 b3
      have HC := NC
      have HR := NR
      have HP := NP
      have HQ := NQ
      have HV := NV
      have HA := NA
      have B0 := NB
      clear NC NR NP NQ NV NA NB
      have zC3 := (Array.getElem?_eq_some_iff.1 HC.out).1
      have zR3 := (Array.getElem?_eq_some_iff.1 HR.out).1
      have zP3 := (Array.getElem?_eq_some_iff.1 HP.out).1
      have zQ3 := (Array.getElem?_eq_some_iff.1 HQ.out).1
      have zV3 := (Array.getElem?_eq_some_iff.1 HV.out).1
      have zA3 := (Array.getElem?_eq_some_iff.1 HA.out).1
      have zy3 := B0.size
      have c3C0 := cell_of HC.out 0
      have c3C1 := cell_of HC.out 1
      have c3C2 := cell_of HC.out 2
      have c3C3 := cell_of HC.out 3
      have c3R0 := cell_of HR.out 0
      have c3R1 := cell_of HR.out 1
      have c3R2 := cell_of HR.out 2
      have c3R3 := cell_of HR.out 3
      have c3P0 := cell_of HP.out 0
      have c3P1 := cell_of HP.out 1
      have c3P2 := cell_of HP.out 2
      have c3P3 := cell_of HP.out 3
      have c3Q0 := cell_of HQ.out 0
      have c3Q1 := cell_of HQ.out 1
      have c3Q2 := cell_of HQ.out 2
      have c3Q3 := cell_of HQ.out 3
      have c3V0 := cell_of HV.out 0
      have c3V1 := cell_of HV.out 1
      have c3V2 := cell_of HV.out 2
      have c3V3 := cell_of HV.out 3
      have c3V4 := cell_of HV.out 4
      have c3A0 := cell_of HA.out 0
      have c3A1 := cell_of HA.out 1
      have c3A2 := cell_of HA.out 2
      have c3A3 := cell_of HA.out 3
      simp only [List.getElem?_toArray, List.getElem?_cons_zero, List.getElem?_cons_succ] at c3C0 c3C1 c3C2 c3C3 c3R0 c3R1 c3R2 c3R3 c3P0 c3P1 c3P2 c3P3 c3Q0 c3Q1 c3Q2 c3Q3 c3V0 c3V1 c3V2 c3V3 c3V4 c3A0 c3A1 c3A2 c3A3
      have frc3C := free_of HC.out
      have frc3R := free_of HR.out
      have frc3P := free_of HP.out
      have frc3Q := free_of HQ.out
      have frc3V := free_of HV.out
      have frc3A := free_of HA.out
      have d3CR : ¬ w.heap.size = w.heap.size + 1 := by omega
      have d3CP : ¬ w.heap.size = w.heap.size + 1 + 1 := by omega
      have d3CQ : ¬ w.heap.size = w.heap.size + 1 + 1 + 1 := by omega
      have d3CV : ¬ w.heap.size = u1.heap.size := by omega
      have d3CA : ¬ w.heap.size = u2.heap.size := by omega
      have d3RC : ¬ w.heap.size + 1 = w.heap.size := by omega
      have d3RP : ¬ w.heap.size + 1 = w.heap.size + 1 + 1 := by omega
      have d3RQ : ¬ w.heap.size + 1 = w.heap.size + 1 + 1 + 1 := by omega
      have d3RV : ¬ w.heap.size + 1 = u1.heap.size := by omega
      have d3RA : ¬ w.heap.size + 1 = u2.heap.size := by omega
      have d3PC : ¬ w.heap.size + 1 + 1 = w.heap.size := by omega
      have d3PR : ¬ w.heap.size + 1 + 1 = w.heap.size + 1 := by omega
      have d3PQ : ¬ w.heap.size + 1 + 1 = w.heap.size + 1 + 1 + 1 := by omega
      have d3PV : ¬ w.heap.size + 1 + 1 = u1.heap.size := by omega
      have d3PA : ¬ w.heap.size + 1 + 1 = u2.heap.size := by omega
      have d3QC : ¬ w.heap.size + 1 + 1 + 1 = w.heap.size := by omega
      have d3QR : ¬ w.heap.size + 1 + 1 + 1 = w.heap.size + 1 := by omega
      have d3QP : ¬ w.heap.size + 1 + 1 + 1 = w.heap.size + 1 + 1 := by omega
      have d3QV : ¬ w.heap.size + 1 + 1 + 1 = u1.heap.size := by omega
      have d3QA : ¬ w.heap.size + 1 + 1 + 1 = u2.heap.size := by omega
      have d3VC : ¬ u1.heap.size = w.heap.size := by omega
      have d3VR : ¬ u1.heap.size = w.heap.size + 1 := by omega
      have d3VP : ¬ u1.heap.size = w.heap.size + 1 + 1 := by omega
      have d3VQ : ¬ u1.heap.size = w.heap.size + 1 + 1 + 1 := by omega
      have d3VA : ¬ u1.heap.size = u2.heap.size := by omega
      have d3AC : ¬ u2.heap.size = w.heap.size := by omega
      have d3AR : ¬ u2.heap.size = w.heap.size + 1 := by omega
      have d3AP : ¬ u2.heap.size = w.heap.size + 1 + 1 := by omega
      have d3AQ : ¬ u2.heap.size = w.heap.size + 1 + 1 + 1 := by omega
      have d3AV : ¬ u2.heap.size = u1.heap.size := by omega
      go_wp2_with fail
      refine (impl_NextAuthVector a' b' k' s2 (wrap64 (r + 1)) _ hr1).mono ?_
      rw [← I1.out, ← I2.out, ← I3.out, ← I4.out, ← I5.out, ← I6.out]
      rintro e u4 ⟨rfl, b4⟩
      have NC : Hid (u4.heap[w.heap.size]? = some (.cells #[.int .i64 a, .int .i64 b, .int .i64 k, .int .i64 l1] 30 (0, 0))) := Lib.hid (cells_of_below b4 (by (repeat (first | (with_reducible exact HC.out) | (with_reducible exact HR.out) | (with_reducible exact HP.out) | (with_reducible exact HQ.out) | (with_reducible exact HV.out) | (with_reducible exact HA.out) | ((with_reducible refine newBlk _ _ _ _ ?_); (simp; done)) | (with_reducible apply store4g) | (with_reducible apply store5g) | ((with_reducible refine store4ne ?_ ?_); (first | omega | (simp; omega))) | ((with_reducible refine store5ne ?_ ?_); (first | omega | (simp; omega)))  | (with_reducible refine drewBlk ?_) | (with_reducible refine oldBlk _ ?_)))))
      have NR : Hid (u4.heap[w.heap.size + 1]? = some (.cells #[.int .i64 a', .int .i64 b', .int .i64 k', .int .i64 s2] 32 (0, 0))) := Lib.hid (cells_of_below b4 (by (repeat (first | (with_reducible exact HC.out) | (with_reducible exact HR.out) | (with_reducible exact HP.out) | (with_reducible exact HQ.out) | (with_reducible exact HV.out) | (with_reducible exact HA.out) | ((with_reducible refine newBlk _ _ _ _ ?_); (simp; done)) | (with_reducible apply store4g) | (with_reducible apply store5g) | ((with_reducible refine store4ne ?_ ?_); (first | omega | (simp; omega))) | ((with_reducible refine store5ne ?_ ?_); (first | omega | (simp; omega)))  | (with_reducible refine drewBlk ?_) | (with_reducible refine oldBlk _ ?_)))))
      have NP : Hid (u4.heap[w.heap.size + 1 + 1]? = some (.cells #[.int .i64 0, .int .i64 0, .int .i64 0, .int .i64 0] 30 (0, 0))) := Lib.hid (cells_of_below b4 (by (repeat (first | (with_reducible exact HC.out) | (with_reducible exact HR.out) | (with_reducible exact HP.out) | (with_reducible exact HQ.out) | (with_reducible exact HV.out) | (with_reducible exact HA.out) | ((with_reducible refine newBlk _ _ _ _ ?_); (simp; done)) | (with_reducible apply store4g) | (with_reducible apply store5g) | ((with_reducible refine store4ne ?_ ?_); (first | omega | (simp; omega))) | ((with_reducible refine store5ne ?_ ?_); (first | omega | (simp; omega)))  | (with_reducible refine drewBlk ?_) | (with_reducible refine oldBlk _ ?_)))))
      have NQ : Hid (u4.heap[w.heap.size + 1 + 1 + 1]? = some (.cells #[.int .i64 0, .int .i64 0, .int .i64 0, .int .i64 0] 32 (0, 0))) := Lib.hid (cells_of_below b4 (by (repeat (first | (with_reducible exact HC.out) | (with_reducible exact HR.out) | (with_reducible exact HP.out) | (with_reducible exact HQ.out) | (with_reducible exact HV.out) | (with_reducible exact HA.out) | ((with_reducible refine newBlk _ _ _ _ ?_); (simp; done)) | (with_reducible apply store4g) | (with_reducible apply store5g) | ((with_reducible refine store4ne ?_ ?_); (first | omega | (simp; omega))) | ((with_reducible refine store5ne ?_ ?_); (first | omega | (simp; omega)))  | (with_reducible refine drewBlk ?_) | (with_reducible refine oldBlk _ ?_)))))
      have NV : Hid (u4.heap[u1.heap.size]? = some (.cells #[.int .i64 v0, .int .i64 v1, .int .i64 v2, .int .i64 v3, .int .i64 v4] 45 (0, 0))) := Lib.hid (cells_of_below b4 (by (repeat (first | (with_reducible exact HC.out) | (with_reducible exact HR.out) | (with_reducible exact HP.out) | (with_reducible exact HQ.out) | (with_reducible exact HV.out) | (with_reducible exact HA.out) | ((with_reducible refine newBlk _ _ _ _ ?_); (simp; done)) | (with_reducible apply store4g) | (with_reducible apply store5g) | ((with_reducible refine store4ne ?_ ?_); (first | omega | (simp; omega))) | ((with_reducible refine store5ne ?_ ?_); (first | omega | (simp; omega)))  | (with_reducible refine drewBlk ?_) | (with_reducible refine oldBlk _ ?_)))))
      have NA : Hid (u4.heap[u2.heap.size]? = some (.cells #[.int .i64 c1, .int .i64 e1, .int .i64 y1, .int .i64 t1] 48 (0, 0))) := Lib.hid (cells_of_below b4 (by (repeat (first | (with_reducible exact HC.out) | (with_reducible exact HR.out) | (with_reducible exact HP.out) | (with_reducible exact HQ.out) | (with_reducible exact HV.out) | (with_reducible exact HA.out) | ((with_reducible refine newBlk _ _ _ _ ?_); (simp; done)) | (with_reducible apply store4g) | (with_reducible apply store5g) | ((with_reducible refine store4ne ?_ ?_); (first | omega | (simp; omega))) | ((with_reducible refine store5ne ?_ ?_); (first | omega | (simp; omega)))  | (with_reducible refine drewBlk ?_) | (with_reducible refine oldBlk _ ?_)))))
      have NB : Below w.heap.size w u4 := Below.next (by (repeat (first | (with_reducible exact B0) | ((with_reducible refine store4below ?_ ?_); (first | omega | (simp; omega))) | ((with_reducible refine store5below ?_ ?_); (first | omega | (simp; omega))) | (with_reducible refine Below.drew ?_) | (with_reducible refine Below.al ?_ _)))) b4
      clear c3C0 c3C1 c3C2 c3C3 c3R0 c3R1 c3R2 c3R3 c3P0 c3P1 c3P2 c3P3 c3Q0 c3Q1 c3Q2 c3Q3 c3V0 c3V1 c3V2 c3V3 c3V4 c3A0 c3A1 c3A2 c3A3 frc3C frc3R frc3P frc3Q frc3V frc3A d3CR d3CP d3CQ d3CV d3CA d3RC d3RP d3RQ d3RV d3RA d3PC d3PR d3PQ d3PV d3PA d3QC d3QR d3QP d3QV d3QA d3VC d3VR d3VP d3VQ d3VA d3AC d3AR d3AP d3AQ d3AV HC HR HP HQ HV HA B0 b4
      have HC := NC
      have HR := NR
      have HP := NP
      have HQ := NQ
      have HV := NV
      have HA := NA
      have B0 := NB
      clear NC NR NP NQ NV NA NB
      have zC4 := (Array.getElem?_eq_some_iff.1 HC.out).1
      have zR4 := (Array.getElem?_eq_some_iff.1 HR.out).1
      have zP4 := (Array.getElem?_eq_some_iff.1 HP.out).1
      have zQ4 := (Array.getElem?_eq_some_iff.1 HQ.out).1
      have zV4 := (Array.getElem?_eq_some_iff.1 HV.out).1
      have zA4 := (Array.getElem?_eq_some_iff.1 HA.out).1
      have zy4 := B0.size
      have c4C0 := cell_of HC.out 0
      have c4C1 := cell_of HC.out 1
      have c4C2 := cell_of HC.out 2
      have c4C3 := cell_of HC.out 3
      have c4R0 := cell_of HR.out 0
      have c4R1 := cell_of HR.out 1
      have c4R2 := cell_of HR.out 2
      have c4R3 := cell_of HR.out 3
      have c4P0 := cell_of HP.out 0
      have c4P1 := cell_of HP.out 1
      have c4P2 := cell_of HP.out 2
      have c4P3 := cell_of HP.out 3
      have c4Q0 := cell_of HQ.out 0
      have c4Q1 := cell_of HQ.out 1
      have c4Q2 := cell_of HQ.out 2
      have c4Q3 := cell_of HQ.out 3
      have c4V0 := cell_of HV.out 0
      have c4V1 := cell_of HV.out 1
      have c4V2 := cell_of HV.out 2
      have c4V3 := cell_of HV.out 3
      have c4V4 := cell_of HV.out 4
      have c4A0 := cell_of HA.out 0
      have c4A1 := cell_of HA.out 1
      have c4A2 := cell_of HA.out 2
      have c4A3 := cell_of HA.out 3
      simp only [List.getElem?_toArray, List.getElem?_cons_zero, List.getElem?_cons_succ] at c4C0 c4C1 c4C2 c4C3 c4R0 c4R1 c4R2 c4R3 c4P0 c4P1 c4P2 c4P3 c4Q0 c4Q1 c4Q2 c4Q3 c4V0 c4V1 c4V2 c4V3 c4V4 c4A0 c4A1 c4A2 c4A3
      have frc4C := free_of HC.out
      have frc4R := free_of HR.out
      have frc4P := free_of HP.out
      have frc4Q := free_of HQ.out
      have frc4V := free_of HV.out
      have frc4A := free_of HA.out
      have d4CR : ¬ w.heap.size = w.heap.size + 1 := by omega
      have d4CP : ¬ w.heap.size = w.heap.size + 1 + 1 := by omega
      have d4CQ : ¬ w.heap.size = w.heap.size + 1 + 1 + 1 := by omega
      have d4CV : ¬ w.heap.size = u1.heap.size := by omega
      have d4CA : ¬ w.heap.size = u2.heap.size := by omega
      have d4RC : ¬ w.heap.size + 1 = w.heap.size := by omega
      have d4RP : ¬ w.heap.size + 1 = w.heap.size + 1 + 1 := by omega
      have d4RQ : ¬ w.heap.size + 1 = w.heap.size + 1 + 1 + 1 := by omega
      have d4RV : ¬ w.heap.size + 1 = u1.heap.size := by omega
      have d4RA : ¬ w.heap.size + 1 = u2.heap.size := by omega
      have d4PC : ¬ w.heap.size + 1 + 1 = w.heap.size := by omega
      have d4PR : ¬ w.heap.size + 1 + 1 = w.heap.size + 1 := by omega
      have d4PQ : ¬ w.heap.size + 1 + 1 = w.heap.size + 1 + 1 + 1 := by omega
      have d4PV : ¬ w.heap.size + 1 + 1 = u1.heap.size := by omega
      have d4PA : ¬ w.heap.size + 1 + 1 = u2.heap.size := by omega
      have d4QC : ¬ w.heap.size + 1 + 1 + 1 = w.heap.size := by omega
      have d4QR : ¬ w.heap.size + 1 + 1 + 1 = w.heap.size + 1 := by omega
      have d4QP : ¬ w.heap.size + 1 + 1 + 1 = w.heap.size + 1 + 1 := by omega
      have d4QV : ¬ w.heap.size + 1 + 1 + 1 = u1.heap.size := by omega
      have d4QA : ¬ w.heap.size + 1 + 1 + 1 = u2.heap.size := by omega
      have d4VC : ¬ u1.heap.size = w.heap.size := by omega
      have d4VR : ¬ u1.heap.size = w.heap.size + 1 := by omega
      have d4VP : ¬ u1.heap.size = w.heap.size + 1 + 1 := by omega
      have d4VQ : ¬ u1.heap.size = w.heap.size + 1 + 1 + 1 := by omega
      have d4VA : ¬ u1.heap.size = u2.heap.size := by omega
      have d4AC : ¬ u2.heap.size = w.heap.size := by omega
      have d4AR : ¬ u2.heap.size = w.heap.size + 1 := by omega
      have d4AP : ¬ u2.heap.size = w.heap.size + 1 + 1 := by omega
      have d4AQ : ¬ u2.heap.size = w.heap.size + 1 + 1 + 1 := by omega
      have d4AV : ¬ u2.heap.size = u1.heap.size := by omega
      go_wp2_with fail
      refine (impl_RespondToChallenge a b k l1 p0 p1 p2 p3 p4 _ wp0 wp1).mono ?_
      rw [← I7.out, ← I8.out, ← I9.out, ← I10.out, ← I11.out]
      rintro e u5 ⟨rfl, b5⟩
      have NC : Hid (u5.heap[w.heap.size]? = some (.cells #[.int .i64 a, .int .i64 b, .int .i64 k, .int .i64 l1] 30 (0, 0))) := Lib.hid (cells_of_below b5 (by (repeat (first | (with_reducible exact HC.out) | (with_reducible exact HR.out) | (with_reducible exact HP.out) | (with_reducible exact HQ.out) | (with_reducible exact HV.out) | (with_reducible exact HA.out) | ((with_reducible refine newBlk _ _ _ _ ?_); (simp; done)) | (with_reducible apply store4g) | (with_reducible apply store5g) | ((with_reducible refine store4ne ?_ ?_); (first | omega | (simp; omega))) | ((with_reducible refine store5ne ?_ ?_); (first | omega | (simp; omega)))  | (with_reducible refine drewBlk ?_) | (with_reducible refine oldBlk _ ?_)))))
      have NR : Hid (u5.heap[w.heap.size + 1]? = some (.cells #[.int .i64 a', .int .i64 b', .int .i64 k', .int .i64 s3] 32 (0, 0))) := Lib.hid (cells_of_below b5 (by (repeat (first | (with_reducible exact HC.out) | (with_reducible exact HR.out) | (with_reducible exact HP.out) | (with_reducible exact HQ.out) | (with_reducible exact HV.out) | (with_reducible exact HA.out) | ((with_reducible refine newBlk _ _ _ _ ?_); (simp; done)) | (with_reducible apply store4g) | (with_reducible apply store5g) | ((with_reducible refine store4ne ?_ ?_); (first | omega | (simp; omega))) | ((with_reducible refine store5ne ?_ ?_); (first | omega | (simp; omega)))  | (with_reducible refine drewBlk ?_) | (with_reducible refine oldBlk _ ?_)))))
      have NP : Hid (u5.heap[w.heap.size + 1 + 1]? = some (.cells #[.int .i64 0, .int .i64 0, .int .i64 0, .int .i64 0] 30 (0, 0))) := Lib.hid (cells_of_below b5 (by (repeat (first | (with_reducible exact HC.out) | (with_reducible exact HR.out) | (with_reducible exact HP.out) | (with_reducible exact HQ.out) | (with_reducible exact HV.out) | (with_reducible exact HA.out) | ((with_reducible refine newBlk _ _ _ _ ?_); (simp; done)) | (with_reducible apply store4g) | (with_reducible apply store5g) | ((with_reducible refine store4ne ?_ ?_); (first | omega | (simp; omega))) | ((with_reducible refine store5ne ?_ ?_); (first | omega | (simp; omega)))  | (with_reducible refine drewBlk ?_) | (with_reducible refine oldBlk _ ?_)))))
      have NQ : Hid (u5.heap[w.heap.size + 1 + 1 + 1]? = some (.cells #[.int .i64 0, .int .i64 0, .int .i64 0, .int .i64 0] 32 (0, 0))) := Lib.hid (cells_of_below b5 (by (repeat (first | (with_reducible exact HC.out) | (with_reducible exact HR.out) | (with_reducible exact HP.out) | (with_reducible exact HQ.out) | (with_reducible exact HV.out) | (with_reducible exact HA.out) | ((with_reducible refine newBlk _ _ _ _ ?_); (simp; done)) | (with_reducible apply store4g) | (with_reducible apply store5g) | ((with_reducible refine store4ne ?_ ?_); (first | omega | (simp; omega))) | ((with_reducible refine store5ne ?_ ?_); (first | omega | (simp; omega)))  | (with_reducible refine drewBlk ?_) | (with_reducible refine oldBlk _ ?_)))))
      have NV : Hid (u5.heap[u1.heap.size]? = some (.cells #[.int .i64 p0, .int .i64 p1, .int .i64 p2, .int .i64 p3, .int .i64 p4] 45 (0, 0))) := Lib.hid (cells_of_below b5 (by (repeat (first | (with_reducible exact HC.out) | (with_reducible exact HR.out) | (with_reducible exact HP.out) | (with_reducible exact HQ.out) | (with_reducible exact HV.out) | (with_reducible exact HA.out) | ((with_reducible refine newBlk _ _ _ _ ?_); (simp; done)) | (with_reducible apply store4g) | (with_reducible apply store5g) | ((with_reducible refine store4ne ?_ ?_); (first | omega | (simp; omega))) | ((with_reducible refine store5ne ?_ ?_); (first | omega | (simp; omega)))  | (with_reducible refine drewBlk ?_) | (with_reducible refine oldBlk _ ?_)))))
      have NA : Hid (u5.heap[u2.heap.size]? = some (.cells #[.int .i64 c1, .int .i64 e1, .int .i64 y1, .int .i64 t1] 48 (0, 0))) := Lib.hid (cells_of_below b5 (by (repeat (first | (with_reducible exact HC.out) | (with_reducible exact HR.out) | (with_reducible exact HP.out) | (with_reducible exact HQ.out) | (with_reducible exact HV.out) | (with_reducible exact HA.out) | ((with_reducible refine newBlk _ _ _ _ ?_); (simp; done)) | (with_reducible apply store4g) | (with_reducible apply store5g) | ((with_reducible refine store4ne ?_ ?_); (first | omega | (simp; omega))) | ((with_reducible refine store5ne ?_ ?_); (first | omega | (simp; omega)))  | (with_reducible refine drewBlk ?_) | (with_reducible refine oldBlk _ ?_)))))
      have NB : Below w.heap.size w u5 := Below.next (by (repeat (first | (with_reducible exact B0) | ((with_reducible refine store4below ?_ ?_); (first | omega | (simp; omega))) | ((with_reducible refine store5below ?_ ?_); (first | omega | (simp; omega))) | (with_reducible refine Below.drew ?_) | (with_reducible refine Below.al ?_ _)))) b5
      clear c4C0 c4C1 c4C2 c4C3 c4R0 c4R1 c4R2 c4R3 c4P0 c4P1 c4P2 c4P3 c4Q0 c4Q1 c4Q2 c4Q3 c4V0 c4V1 c4V2 c4V3 c4V4 c4A0 c4A1 c4A2 c4A3 frc4C frc4R frc4P frc4Q frc4V frc4A d4CR d4CP d4CQ d4CV d4CA d4RC d4RP d4RQ d4RV d4RA d4PC d4PR d4PQ d4PV d4PA d4QC d4QR d4QP d4QV d4QA d4VC d4VR d4VP d4VQ d4VA d4AC d4AR d4AP d4AQ d4AV HC HR HP HQ HV HA B0 b5
      have HC := NC
      have HR := NR
      have HP := NP
      have HQ := NQ
      have HV := NV
      have HA := NA
      have B0 := NB
      clear NC NR NP NQ NV NA NB
      have zC5 := (Array.getElem?_eq_some_iff.1 HC.out).1
      have zR5 := (Array.getElem?_eq_some_iff.1 HR.out).1
      have zP5 := (Array.getElem?_eq_some_iff.1 HP.out).1
      have zQ5 := (Array.getElem?_eq_some_iff.1 HQ.out).1
      have zV5 := (Array.getElem?_eq_some_iff.1 HV.out).1
      have zA5 := (Array.getElem?_eq_some_iff.1 HA.out).1
      have zy5 := B0.size
      by_cases hz : c2 = 0
      · by_cases hev : e2 = p3
        · obtain rfl : y2 = kf := by rw [hkf0]; unfold endKey; rw [if_pos ⟨hz, hev⟩]
          clear hkf0
          have hb : (e2 == p3) = true := by simpa using hev
          clear hev
          subst hz
          have c5C0 := cell_of HC.out 0
          have c5C1 := cell_of HC.out 1
          have c5C2 := cell_of HC.out 2
          have c5C3 := cell_of HC.out 3
          have c5R0 := cell_of HR.out 0
          have c5R1 := cell_of HR.out 1
          have c5R2 := cell_of HR.out 2
          have c5R3 := cell_of HR.out 3
          have c5P0 := cell_of HP.out 0
          have c5P1 := cell_of HP.out 1
          have c5P2 := cell_of HP.out 2
          have c5P3 := cell_of HP.out 3
          have c5Q0 := cell_of HQ.out 0
          have c5Q1 := cell_of HQ.out 1
          have c5Q2 := cell_of HQ.out 2
          have c5Q3 := cell_of HQ.out 3
          have c5V0 := cell_of HV.out 0
          have c5V1 := cell_of HV.out 1
          have c5V2 := cell_of HV.out 2
          have c5V3 := cell_of HV.out 3
          have c5V4 := cell_of HV.out 4
          have c5A0 := cell_of HA.out 0
          have c5A1 := cell_of HA.out 1
          have c5A2 := cell_of HA.out 2
          have c5A3 := cell_of HA.out 3
          simp only [List.getElem?_toArray, List.getElem?_cons_zero, List.getElem?_cons_succ] at c5C0 c5C1 c5C2 c5C3 c5R0 c5R1 c5R2 c5R3 c5P0 c5P1 c5P2 c5P3 c5Q0 c5Q1 c5Q2 c5Q3 c5V0 c5V1 c5V2 c5V3 c5V4 c5A0 c5A1 c5A2 c5A3
          have frc5C := free_of HC.out
          have frc5R := free_of HR.out
          have frc5P := free_of HP.out
          have frc5Q := free_of HQ.out
          have frc5V := free_of HV.out
          have frc5A := free_of HA.out
          have d5CR : ¬ w.heap.size = w.heap.size + 1 := by omega
          have d5CP : ¬ w.heap.size = w.heap.size + 1 + 1 := by omega
          have d5CQ : ¬ w.heap.size = w.heap.size + 1 + 1 + 1 := by omega
          have d5CV : ¬ w.heap.size = u1.heap.size := by omega
          have d5CA : ¬ w.heap.size = u2.heap.size := by omega
          have d5RC : ¬ w.heap.size + 1 = w.heap.size := by omega
          have d5RP : ¬ w.heap.size + 1 = w.heap.size + 1 + 1 := by omega
          have d5RQ : ¬ w.heap.size + 1 = w.heap.size + 1 + 1 + 1 := by omega
          have d5RV : ¬ w.heap.size + 1 = u1.heap.size := by omega
          have d5RA : ¬ w.heap.size + 1 = u2.heap.size := by omega
          have d5PC : ¬ w.heap.size + 1 + 1 = w.heap.size := by omega
          have d5PR : ¬ w.heap.size + 1 + 1 = w.heap.size + 1 := by omega
          have d5PQ : ¬ w.heap.size + 1 + 1 = w.heap.size + 1 + 1 + 1 := by omega
          have d5PV : ¬ w.heap.size + 1 + 1 = u1.heap.size := by omega
          have d5PA : ¬ w.heap.size + 1 + 1 = u2.heap.size := by omega
          have d5QC : ¬ w.heap.size + 1 + 1 + 1 = w.heap.size := by omega
          have d5QR : ¬ w.heap.size + 1 + 1 + 1 = w.heap.size + 1 := by omega
          have d5QP : ¬ w.heap.size + 1 + 1 + 1 = w.heap.size + 1 + 1 := by omega
          have d5QV : ¬ w.heap.size + 1 + 1 + 1 = u1.heap.size := by omega
          have d5QA : ¬ w.heap.size + 1 + 1 + 1 = u2.heap.size := by omega
          have d5VC : ¬ u1.heap.size = w.heap.size := by omega
          have d5VR : ¬ u1.heap.size = w.heap.size + 1 := by omega
          have d5VP : ¬ u1.heap.size = w.heap.size + 1 + 1 := by omega
          have d5VQ : ¬ u1.heap.size = w.heap.size + 1 + 1 + 1 := by omega
          have d5VA : ¬ u1.heap.size = u2.heap.size := by omega
          have d5AC : ¬ u2.heap.size = w.heap.size := by omega
          have d5AR : ¬ u2.heap.size = w.heap.size + 1 := by omega
          have d5AP : ¬ u2.heap.size = w.heap.size + 1 + 1 := by omega
          have d5AQ : ¬ u2.heap.size = w.heap.size + 1 + 1 + 1 := by omega
          have d5AV : ¬ u2.heap.size = u1.heap.size := by omega
          go_wp2_with fail
          refine (impl_ResponseMatches _ _ _ _ _ _ _).mono ?_
          rw [hb]
          rintro e u6 ⟨rfl, h6⟩
          have b6 := below_of_alloc h6
          clear h6 hb
          have NC : Hid (u6.heap[w.heap.size]? = some (.cells #[.int .i64 a, .int .i64 b, .int .i64 k, .int .i64 l2] 30 (0, 0))) := Lib.hid (cells_of_below b6 (by (repeat (first | (with_reducible exact HC.out) | (with_reducible exact HR.out) | (with_reducible exact HP.out) | (with_reducible exact HQ.out) | (with_reducible exact HV.out) | (with_reducible exact HA.out) | ((with_reducible refine newBlk _ _ _ _ ?_); (simp; done)) | (with_reducible apply store4g) | (with_reducible apply store5g) | ((with_reducible refine store4ne ?_ ?_); (first | omega | (simp; omega))) | ((with_reducible refine store5ne ?_ ?_); (first | omega | (simp; omega)))  | (with_reducible refine drewBlk ?_) | (with_reducible refine oldBlk _ ?_)))))
          have NR : Hid (u6.heap[w.heap.size + 1]? = some (.cells #[.int .i64 a', .int .i64 b', .int .i64 k', .int .i64 s3] 32 (0, 0))) := Lib.hid (cells_of_below b6 (by (repeat (first | (with_reducible exact HC.out) | (with_reducible exact HR.out) | (with_reducible exact HP.out) | (with_reducible exact HQ.out) | (with_reducible exact HV.out) | (with_reducible exact HA.out) | ((with_reducible refine newBlk _ _ _ _ ?_); (simp; done)) | (with_reducible apply store4g) | (with_reducible apply store5g) | ((with_reducible refine store4ne ?_ ?_); (first | omega | (simp; omega))) | ((with_reducible refine store5ne ?_ ?_); (first | omega | (simp; omega)))  | (with_reducible refine drewBlk ?_) | (with_reducible refine oldBlk _ ?_)))))
          have NP : Hid (u6.heap[w.heap.size + 1 + 1]? = some (.cells #[.int .i64 0, .int .i64 0, .int .i64 0, .int .i64 0] 30 (0, 0))) := Lib.hid (cells_of_below b6 (by (repeat (first | (with_reducible exact HC.out) | (with_reducible exact HR.out) | (with_reducible exact HP.out) | (with_reducible exact HQ.out) | (with_reducible exact HV.out) | (with_reducible exact HA.out) | ((with_reducible refine newBlk _ _ _ _ ?_); (simp; done)) | (with_reducible apply store4g) | (with_reducible apply store5g) | ((with_reducible refine store4ne ?_ ?_); (first | omega | (simp; omega))) | ((with_reducible refine store5ne ?_ ?_); (first | omega | (simp; omega)))  | (with_reducible refine drewBlk ?_) | (with_reducible refine oldBlk _ ?_)))))
          have NQ : Hid (u6.heap[w.heap.size + 1 + 1 + 1]? = some (.cells #[.int .i64 0, .int .i64 0, .int .i64 0, .int .i64 0] 32 (0, 0))) := Lib.hid (cells_of_below b6 (by (repeat (first | (with_reducible exact HC.out) | (with_reducible exact HR.out) | (with_reducible exact HP.out) | (with_reducible exact HQ.out) | (with_reducible exact HV.out) | (with_reducible exact HA.out) | ((with_reducible refine newBlk _ _ _ _ ?_); (simp; done)) | (with_reducible apply store4g) | (with_reducible apply store5g) | ((with_reducible refine store4ne ?_ ?_); (first | omega | (simp; omega))) | ((with_reducible refine store5ne ?_ ?_); (first | omega | (simp; omega)))  | (with_reducible refine drewBlk ?_) | (with_reducible refine oldBlk _ ?_)))))
          have NV : Hid (u6.heap[u1.heap.size]? = some (.cells #[.int .i64 p0, .int .i64 p1, .int .i64 p2, .int .i64 p3, .int .i64 p4] 45 (0, 0))) := Lib.hid (cells_of_below b6 (by (repeat (first | (with_reducible exact HC.out) | (with_reducible exact HR.out) | (with_reducible exact HP.out) | (with_reducible exact HQ.out) | (with_reducible exact HV.out) | (with_reducible exact HA.out) | ((with_reducible refine newBlk _ _ _ _ ?_); (simp; done)) | (with_reducible apply store4g) | (with_reducible apply store5g) | ((with_reducible refine store4ne ?_ ?_); (first | omega | (simp; omega))) | ((with_reducible refine store5ne ?_ ?_); (first | omega | (simp; omega)))  | (with_reducible refine drewBlk ?_) | (with_reducible refine oldBlk _ ?_)))))
          have NA : Hid (u6.heap[u2.heap.size]? = some (.cells #[.int .i64 0, .int .i64 e2, .int .i64 y2, .int .i64 t2] 48 (0, 0))) := Lib.hid (cells_of_below b6 (by (repeat (first | (with_reducible exact HC.out) | (with_reducible exact HR.out) | (with_reducible exact HP.out) | (with_reducible exact HQ.out) | (with_reducible exact HV.out) | (with_reducible exact HA.out) | ((with_reducible refine newBlk _ _ _ _ ?_); (simp; done)) | (with_reducible apply store4g) | (with_reducible apply store5g) | ((with_reducible refine store4ne ?_ ?_); (first | omega | (simp; omega))) | ((with_reducible refine store5ne ?_ ?_); (first | omega | (simp; omega)))  | (with_reducible refine drewBlk ?_) | (with_reducible refine oldBlk _ ?_)))))
          have NB : Below w.heap.size w u6 := Below.next (by (repeat (first | (with_reducible exact B0) | ((with_reducible refine store4below ?_ ?_); (first | omega | (simp; omega))) | ((with_reducible refine store5below ?_ ?_); (first | omega | (simp; omega))) | (with_reducible refine Below.drew ?_) | (with_reducible refine Below.al ?_ _)))) b6
          clear c5C0 c5C1 c5C2 c5C3 c5R0 c5R1 c5R2 c5R3 c5P0 c5P1 c5P2 c5P3 c5Q0 c5Q1 c5Q2 c5Q3 c5V0 c5V1 c5V2 c5V3 c5V4 c5A0 c5A1 c5A2 c5A3 frc5C frc5R frc5P frc5Q frc5V frc5A d5CR d5CP d5CQ d5CV d5CA d5RC d5RP d5RQ d5RV d5RA d5PC d5PR d5PQ d5PV d5PA d5QC d5QR d5QP d5QV d5QA d5VC d5VR d5VP d5VQ d5VA d5AC d5AR d5AP d5AQ d5AV HC HR HP HQ HV HA B0 b6 cal fal sne
          have HC := NC
          have HR := NR
          have HP := NP
          have HQ := NQ
          have HV := NV
          have HA := NA
          have B0 := NB
          clear NC NR NP NQ NV NA NB
          have c6C0 := cell_of HC.out 0
          have c6C1 := cell_of HC.out 1
          have c6C2 := cell_of HC.out 2
          have c6C3 := cell_of HC.out 3
          have c6R0 := cell_of HR.out 0
          have c6R1 := cell_of HR.out 1
          have c6R2 := cell_of HR.out 2
          have c6R3 := cell_of HR.out 3
          have c6P0 := cell_of HP.out 0
          have c6P1 := cell_of HP.out 1
          have c6P2 := cell_of HP.out 2
          have c6P3 := cell_of HP.out 3
          have c6Q0 := cell_of HQ.out 0
          have c6Q1 := cell_of HQ.out 1
          have c6Q2 := cell_of HQ.out 2
          have c6Q3 := cell_of HQ.out 3
          have c6V0 := cell_of HV.out 0
          have c6V1 := cell_of HV.out 1
          have c6V2 := cell_of HV.out 2
          have c6V3 := cell_of HV.out 3
          have c6V4 := cell_of HV.out 4
          have c6A0 := cell_of HA.out 0
          have c6A1 := cell_of HA.out 1
          have c6A2 := cell_of HA.out 2
          have c6A3 := cell_of HA.out 3
          simp only [List.getElem?_toArray, List.getElem?_cons_zero, List.getElem?_cons_succ] at c6C0 c6C1 c6C2 c6C3 c6R0 c6R1 c6R2 c6R3 c6P0 c6P1 c6P2 c6P3 c6Q0 c6Q1 c6Q2 c6Q3 c6V0 c6V1 c6V2 c6V3 c6V4 c6A0 c6A1 c6A2 c6A3
          have frc6C := free_of HC.out
          have frc6R := free_of HR.out
          have frc6P := free_of HP.out
          have frc6Q := free_of HQ.out
          have frc6V := free_of HV.out
          have frc6A := free_of HA.out
          go_wp2_with fail
          go_region
          all_goals go_wp2_with fail
          all_goals refine bodyPost_ret (v := .tuple #[.agg #[.int .i64 a, .int .i64 b, .int .i64 k, .int .i64 l2], .agg #[.int .i64 a', .int .i64 b', .int .i64 k', .int .i64 s3], .int .i64 y2]) (by simp [results, Try.results11, go_sem, *]) rfl ⟨rfl, ?_⟩
          all_goals exact (by repeat (first | (with_reducible exact B0) | (with_reducible refine Below.st ?_ _ _ _ (by omega)) | (with_reducible refine Below.al ?_ _) | (with_reducible refine Below.dn ?_ _) | (with_reducible refine Below.drew ?_)))
        · obtain rfl : kf = 0 := by rw [hkf0]; unfold endKey; rw [if_neg (fun h => hev h.2)]
          clear hkf0
          have hb : (e2 == p3) = false := by simpa using hev
          clear hev
          subst hz
          have c5C0 := cell_of HC.out 0
          have c5C1 := cell_of HC.out 1
          have c5C2 := cell_of HC.out 2
          have c5C3 := cell_of HC.out 3
          have c5R0 := cell_of HR.out 0
          have c5R1 := cell_of HR.out 1
          have c5R2 := cell_of HR.out 2
          have c5R3 := cell_of HR.out 3
          have c5P0 := cell_of HP.out 0
          have c5P1 := cell_of HP.out 1
          have c5P2 := cell_of HP.out 2
          have c5P3 := cell_of HP.out 3
          have c5Q0 := cell_of HQ.out 0
          have c5Q1 := cell_of HQ.out 1
          have c5Q2 := cell_of HQ.out 2
          have c5Q3 := cell_of HQ.out 3
          have c5V0 := cell_of HV.out 0
          have c5V1 := cell_of HV.out 1
          have c5V2 := cell_of HV.out 2
          have c5V3 := cell_of HV.out 3
          have c5V4 := cell_of HV.out 4
          have c5A0 := cell_of HA.out 0
          have c5A1 := cell_of HA.out 1
          have c5A2 := cell_of HA.out 2
          have c5A3 := cell_of HA.out 3
          simp only [List.getElem?_toArray, List.getElem?_cons_zero, List.getElem?_cons_succ] at c5C0 c5C1 c5C2 c5C3 c5R0 c5R1 c5R2 c5R3 c5P0 c5P1 c5P2 c5P3 c5Q0 c5Q1 c5Q2 c5Q3 c5V0 c5V1 c5V2 c5V3 c5V4 c5A0 c5A1 c5A2 c5A3
          have frc5C := free_of HC.out
          have frc5R := free_of HR.out
          have frc5P := free_of HP.out
          have frc5Q := free_of HQ.out
          have frc5V := free_of HV.out
          have frc5A := free_of HA.out
          have d5CR : ¬ w.heap.size = w.heap.size + 1 := by omega
          have d5CP : ¬ w.heap.size = w.heap.size + 1 + 1 := by omega
          have d5CQ : ¬ w.heap.size = w.heap.size + 1 + 1 + 1 := by omega
          have d5CV : ¬ w.heap.size = u1.heap.size := by omega
          have d5CA : ¬ w.heap.size = u2.heap.size := by omega
          have d5RC : ¬ w.heap.size + 1 = w.heap.size := by omega
          have d5RP : ¬ w.heap.size + 1 = w.heap.size + 1 + 1 := by omega
          have d5RQ : ¬ w.heap.size + 1 = w.heap.size + 1 + 1 + 1 := by omega
          have d5RV : ¬ w.heap.size + 1 = u1.heap.size := by omega
          have d5RA : ¬ w.heap.size + 1 = u2.heap.size := by omega
          have d5PC : ¬ w.heap.size + 1 + 1 = w.heap.size := by omega
          have d5PR : ¬ w.heap.size + 1 + 1 = w.heap.size + 1 := by omega
          have d5PQ : ¬ w.heap.size + 1 + 1 = w.heap.size + 1 + 1 + 1 := by omega
          have d5PV : ¬ w.heap.size + 1 + 1 = u1.heap.size := by omega
          have d5PA : ¬ w.heap.size + 1 + 1 = u2.heap.size := by omega
          have d5QC : ¬ w.heap.size + 1 + 1 + 1 = w.heap.size := by omega
          have d5QR : ¬ w.heap.size + 1 + 1 + 1 = w.heap.size + 1 := by omega
          have d5QP : ¬ w.heap.size + 1 + 1 + 1 = w.heap.size + 1 + 1 := by omega
          have d5QV : ¬ w.heap.size + 1 + 1 + 1 = u1.heap.size := by omega
          have d5QA : ¬ w.heap.size + 1 + 1 + 1 = u2.heap.size := by omega
          have d5VC : ¬ u1.heap.size = w.heap.size := by omega
          have d5VR : ¬ u1.heap.size = w.heap.size + 1 := by omega
          have d5VP : ¬ u1.heap.size = w.heap.size + 1 + 1 := by omega
          have d5VQ : ¬ u1.heap.size = w.heap.size + 1 + 1 + 1 := by omega
          have d5VA : ¬ u1.heap.size = u2.heap.size := by omega
          have d5AC : ¬ u2.heap.size = w.heap.size := by omega
          have d5AR : ¬ u2.heap.size = w.heap.size + 1 := by omega
          have d5AP : ¬ u2.heap.size = w.heap.size + 1 + 1 := by omega
          have d5AQ : ¬ u2.heap.size = w.heap.size + 1 + 1 + 1 := by omega
          have d5AV : ¬ u2.heap.size = u1.heap.size := by omega
          go_wp2_with fail
          refine (impl_ResponseMatches _ _ _ _ _ _ _).mono ?_
          rw [hb]
          rintro e u6 ⟨rfl, h6⟩
          have b6 := below_of_alloc h6
          clear h6 hb
          have NC : Hid (u6.heap[w.heap.size]? = some (.cells #[.int .i64 a, .int .i64 b, .int .i64 k, .int .i64 l2] 30 (0, 0))) := Lib.hid (cells_of_below b6 (by (repeat (first | (with_reducible exact HC.out) | (with_reducible exact HR.out) | (with_reducible exact HP.out) | (with_reducible exact HQ.out) | (with_reducible exact HV.out) | (with_reducible exact HA.out) | ((with_reducible refine newBlk _ _ _ _ ?_); (simp; done)) | (with_reducible apply store4g) | (with_reducible apply store5g) | ((with_reducible refine store4ne ?_ ?_); (first | omega | (simp; omega))) | ((with_reducible refine store5ne ?_ ?_); (first | omega | (simp; omega)))  | (with_reducible refine drewBlk ?_) | (with_reducible refine oldBlk _ ?_)))))
          have NR : Hid (u6.heap[w.heap.size + 1]? = some (.cells #[.int .i64 a', .int .i64 b', .int .i64 k', .int .i64 s3] 32 (0, 0))) := Lib.hid (cells_of_below b6 (by (repeat (first | (with_reducible exact HC.out) | (with_reducible exact HR.out) | (with_reducible exact HP.out) | (with_reducible exact HQ.out) | (with_reducible exact HV.out) | (with_reducible exact HA.out) | ((with_reducible refine newBlk _ _ _ _ ?_); (simp; done)) | (with_reducible apply store4g) | (with_reducible apply store5g) | ((with_reducible refine store4ne ?_ ?_); (first | omega | (simp; omega))) | ((with_reducible refine store5ne ?_ ?_); (first | omega | (simp; omega)))  | (with_reducible refine drewBlk ?_) | (with_reducible refine oldBlk _ ?_)))))
          have NP : Hid (u6.heap[w.heap.size + 1 + 1]? = some (.cells #[.int .i64 0, .int .i64 0, .int .i64 0, .int .i64 0] 30 (0, 0))) := Lib.hid (cells_of_below b6 (by (repeat (first | (with_reducible exact HC.out) | (with_reducible exact HR.out) | (with_reducible exact HP.out) | (with_reducible exact HQ.out) | (with_reducible exact HV.out) | (with_reducible exact HA.out) | ((with_reducible refine newBlk _ _ _ _ ?_); (simp; done)) | (with_reducible apply store4g) | (with_reducible apply store5g) | ((with_reducible refine store4ne ?_ ?_); (first | omega | (simp; omega))) | ((with_reducible refine store5ne ?_ ?_); (first | omega | (simp; omega)))  | (with_reducible refine drewBlk ?_) | (with_reducible refine oldBlk _ ?_)))))
          have NQ : Hid (u6.heap[w.heap.size + 1 + 1 + 1]? = some (.cells #[.int .i64 0, .int .i64 0, .int .i64 0, .int .i64 0] 32 (0, 0))) := Lib.hid (cells_of_below b6 (by (repeat (first | (with_reducible exact HC.out) | (with_reducible exact HR.out) | (with_reducible exact HP.out) | (with_reducible exact HQ.out) | (with_reducible exact HV.out) | (with_reducible exact HA.out) | ((with_reducible refine newBlk _ _ _ _ ?_); (simp; done)) | (with_reducible apply store4g) | (with_reducible apply store5g) | ((with_reducible refine store4ne ?_ ?_); (first | omega | (simp; omega))) | ((with_reducible refine store5ne ?_ ?_); (first | omega | (simp; omega)))  | (with_reducible refine drewBlk ?_) | (with_reducible refine oldBlk _ ?_)))))
          have NV : Hid (u6.heap[u1.heap.size]? = some (.cells #[.int .i64 p0, .int .i64 p1, .int .i64 p2, .int .i64 p3, .int .i64 p4] 45 (0, 0))) := Lib.hid (cells_of_below b6 (by (repeat (first | (with_reducible exact HC.out) | (with_reducible exact HR.out) | (with_reducible exact HP.out) | (with_reducible exact HQ.out) | (with_reducible exact HV.out) | (with_reducible exact HA.out) | ((with_reducible refine newBlk _ _ _ _ ?_); (simp; done)) | (with_reducible apply store4g) | (with_reducible apply store5g) | ((with_reducible refine store4ne ?_ ?_); (first | omega | (simp; omega))) | ((with_reducible refine store5ne ?_ ?_); (first | omega | (simp; omega)))  | (with_reducible refine drewBlk ?_) | (with_reducible refine oldBlk _ ?_)))))
          have NA : Hid (u6.heap[u2.heap.size]? = some (.cells #[.int .i64 0, .int .i64 e2, .int .i64 y2, .int .i64 t2] 48 (0, 0))) := Lib.hid (cells_of_below b6 (by (repeat (first | (with_reducible exact HC.out) | (with_reducible exact HR.out) | (with_reducible exact HP.out) | (with_reducible exact HQ.out) | (with_reducible exact HV.out) | (with_reducible exact HA.out) | ((with_reducible refine newBlk _ _ _ _ ?_); (simp; done)) | (with_reducible apply store4g) | (with_reducible apply store5g) | ((with_reducible refine store4ne ?_ ?_); (first | omega | (simp; omega))) | ((with_reducible refine store5ne ?_ ?_); (first | omega | (simp; omega)))  | (with_reducible refine drewBlk ?_) | (with_reducible refine oldBlk _ ?_)))))
          have NB : Below w.heap.size w u6 := Below.next (by (repeat (first | (with_reducible exact B0) | ((with_reducible refine store4below ?_ ?_); (first | omega | (simp; omega))) | ((with_reducible refine store5below ?_ ?_); (first | omega | (simp; omega))) | (with_reducible refine Below.drew ?_) | (with_reducible refine Below.al ?_ _)))) b6
          clear c5C0 c5C1 c5C2 c5C3 c5R0 c5R1 c5R2 c5R3 c5P0 c5P1 c5P2 c5P3 c5Q0 c5Q1 c5Q2 c5Q3 c5V0 c5V1 c5V2 c5V3 c5V4 c5A0 c5A1 c5A2 c5A3 frc5C frc5R frc5P frc5Q frc5V frc5A d5CR d5CP d5CQ d5CV d5CA d5RC d5RP d5RQ d5RV d5RA d5PC d5PR d5PQ d5PV d5PA d5QC d5QR d5QP d5QV d5QA d5VC d5VR d5VP d5VQ d5VA d5AC d5AR d5AP d5AQ d5AV HC HR HP HQ HV HA B0 b6 cal fal sne
          have HC := NC
          have HR := NR
          have HP := NP
          have HQ := NQ
          have HV := NV
          have HA := NA
          have B0 := NB
          clear NC NR NP NQ NV NA NB
          have c6C0 := cell_of HC.out 0
          have c6C1 := cell_of HC.out 1
          have c6C2 := cell_of HC.out 2
          have c6C3 := cell_of HC.out 3
          have c6R0 := cell_of HR.out 0
          have c6R1 := cell_of HR.out 1
          have c6R2 := cell_of HR.out 2
          have c6R3 := cell_of HR.out 3
          have c6P0 := cell_of HP.out 0
          have c6P1 := cell_of HP.out 1
          have c6P2 := cell_of HP.out 2
          have c6P3 := cell_of HP.out 3
          have c6Q0 := cell_of HQ.out 0
          have c6Q1 := cell_of HQ.out 1
          have c6Q2 := cell_of HQ.out 2
          have c6Q3 := cell_of HQ.out 3
          have c6V0 := cell_of HV.out 0
          have c6V1 := cell_of HV.out 1
          have c6V2 := cell_of HV.out 2
          have c6V3 := cell_of HV.out 3
          have c6V4 := cell_of HV.out 4
          have c6A0 := cell_of HA.out 0
          have c6A1 := cell_of HA.out 1
          have c6A2 := cell_of HA.out 2
          have c6A3 := cell_of HA.out 3
          simp only [List.getElem?_toArray, List.getElem?_cons_zero, List.getElem?_cons_succ] at c6C0 c6C1 c6C2 c6C3 c6R0 c6R1 c6R2 c6R3 c6P0 c6P1 c6P2 c6P3 c6Q0 c6Q1 c6Q2 c6Q3 c6V0 c6V1 c6V2 c6V3 c6V4 c6A0 c6A1 c6A2 c6A3
          have frc6C := free_of HC.out
          have frc6R := free_of HR.out
          have frc6P := free_of HP.out
          have frc6Q := free_of HQ.out
          have frc6V := free_of HV.out
          have frc6A := free_of HA.out
          go_wp2_with fail
          go_region
          all_goals go_wp2_with fail
          all_goals refine bodyPost_ret (v := .tuple #[.agg #[.int .i64 a, .int .i64 b, .int .i64 k, .int .i64 l2], .agg #[.int .i64 a', .int .i64 b', .int .i64 k', .int .i64 s3], .int .i64 0]) (by simp [results, Try.results11, go_sem, *]) rfl ⟨rfl, ?_⟩
          all_goals exact (by repeat (first | (with_reducible exact B0) | (with_reducible refine Below.st ?_ _ _ _ (by omega)) | (with_reducible refine Below.al ?_ _) | (with_reducible refine Below.dn ?_ _) | (with_reducible refine Below.drew ?_)))
      · obtain rfl : kf = 0 := by rw [hkf0]; unfold endKey; rw [if_neg (fun h => hz h.1)]
        clear hkf0
        have hb1 : (c2 != 0) = true := by simpa using hz
        have hb0 : (c2 == 0) = false := by simpa using hz
        have c5C0 := cell_of HC.out 0
        have c5C1 := cell_of HC.out 1
        have c5C2 := cell_of HC.out 2
        have c5C3 := cell_of HC.out 3
        have c5R0 := cell_of HR.out 0
        have c5R1 := cell_of HR.out 1
        have c5R2 := cell_of HR.out 2
        have c5R3 := cell_of HR.out 3
        have c5P0 := cell_of HP.out 0
        have c5P1 := cell_of HP.out 1
        have c5P2 := cell_of HP.out 2
        have c5P3 := cell_of HP.out 3
        have c5Q0 := cell_of HQ.out 0
        have c5Q1 := cell_of HQ.out 1
        have c5Q2 := cell_of HQ.out 2
        have c5Q3 := cell_of HQ.out 3
        have c5V0 := cell_of HV.out 0
        have c5V1 := cell_of HV.out 1
        have c5V2 := cell_of HV.out 2
        have c5V3 := cell_of HV.out 3
        have c5V4 := cell_of HV.out 4
        have c5A0 := cell_of HA.out 0
        have c5A1 := cell_of HA.out 1
        have c5A2 := cell_of HA.out 2
        have c5A3 := cell_of HA.out 3
        simp only [List.getElem?_toArray, List.getElem?_cons_zero, List.getElem?_cons_succ] at c5C0 c5C1 c5C2 c5C3 c5R0 c5R1 c5R2 c5R3 c5P0 c5P1 c5P2 c5P3 c5Q0 c5Q1 c5Q2 c5Q3 c5V0 c5V1 c5V2 c5V3 c5V4 c5A0 c5A1 c5A2 c5A3
        have frc5C := free_of HC.out
        have frc5R := free_of HR.out
        have frc5P := free_of HP.out
        have frc5Q := free_of HQ.out
        have frc5V := free_of HV.out
        have frc5A := free_of HA.out
        have d5CR : ¬ w.heap.size = w.heap.size + 1 := by omega
        have d5CP : ¬ w.heap.size = w.heap.size + 1 + 1 := by omega
        have d5CQ : ¬ w.heap.size = w.heap.size + 1 + 1 + 1 := by omega
        have d5CV : ¬ w.heap.size = u1.heap.size := by omega
        have d5CA : ¬ w.heap.size = u2.heap.size := by omega
        have d5RC : ¬ w.heap.size + 1 = w.heap.size := by omega
        have d5RP : ¬ w.heap.size + 1 = w.heap.size + 1 + 1 := by omega
        have d5RQ : ¬ w.heap.size + 1 = w.heap.size + 1 + 1 + 1 := by omega
        have d5RV : ¬ w.heap.size + 1 = u1.heap.size := by omega
        have d5RA : ¬ w.heap.size + 1 = u2.heap.size := by omega
        have d5PC : ¬ w.heap.size + 1 + 1 = w.heap.size := by omega
        have d5PR : ¬ w.heap.size + 1 + 1 = w.heap.size + 1 := by omega
        have d5PQ : ¬ w.heap.size + 1 + 1 = w.heap.size + 1 + 1 + 1 := by omega
        have d5PV : ¬ w.heap.size + 1 + 1 = u1.heap.size := by omega
        have d5PA : ¬ w.heap.size + 1 + 1 = u2.heap.size := by omega
        have d5QC : ¬ w.heap.size + 1 + 1 + 1 = w.heap.size := by omega
        have d5QR : ¬ w.heap.size + 1 + 1 + 1 = w.heap.size + 1 := by omega
        have d5QP : ¬ w.heap.size + 1 + 1 + 1 = w.heap.size + 1 + 1 := by omega
        have d5QV : ¬ w.heap.size + 1 + 1 + 1 = u1.heap.size := by omega
        have d5QA : ¬ w.heap.size + 1 + 1 + 1 = u2.heap.size := by omega
        have d5VC : ¬ u1.heap.size = w.heap.size := by omega
        have d5VR : ¬ u1.heap.size = w.heap.size + 1 := by omega
        have d5VP : ¬ u1.heap.size = w.heap.size + 1 + 1 := by omega
        have d5VQ : ¬ u1.heap.size = w.heap.size + 1 + 1 + 1 := by omega
        have d5VA : ¬ u1.heap.size = u2.heap.size := by omega
        have d5AC : ¬ u2.heap.size = w.heap.size := by omega
        have d5AR : ¬ u2.heap.size = w.heap.size + 1 := by omega
        have d5AP : ¬ u2.heap.size = w.heap.size + 1 + 1 := by omega
        have d5AQ : ¬ u2.heap.size = w.heap.size + 1 + 1 + 1 := by omega
        have d5AV : ¬ u2.heap.size = u1.heap.size := by omega
        go_wp2_with fail
        go_region
        all_goals go_wp2_with fail
        all_goals refine bodyPost_ret (v := .tuple #[.agg #[.int .i64 a, .int .i64 b, .int .i64 k, .int .i64 l2], .agg #[.int .i64 a', .int .i64 b', .int .i64 k', .int .i64 s3], .int .i64 0]) (by simp [results, Try.results11, go_sem, *]) rfl ⟨rfl, ?_⟩
        all_goals exact (by repeat (first | (with_reducible exact B0) | (with_reducible refine Below.st ?_ _ _ _ (by omega)) | (with_reducible refine Below.al ?_ _) | (with_reducible refine Below.dn ?_ _) | (with_reducible refine Below.drew ?_)))
  · obtain ⟨rfl, rfl, hkf0⟩ : l1 = lf ∧ s1 = sf ∧ kf = endKey c1 e1 v3 y1 := by have h := HF.out; rw [if_neg hc] at h; exact ⟨h.1.symm, h.2.1.symm, h.2.2⟩
    clear HF
    obtain ⟨hc2, hc3⟩ : ¬ c1 = 2 ∧ ¬ c1 = 3 := ⟨fun h => hc (.inl h), fun h => hc (.inr h)⟩
    clear hc
    have hcb2 : (c1 == 2) = false := by simpa using hc2
    have hcb3 : (c1 == 3) = false := by simpa using hc3
    by_cases hz : c1 = 0
    · by_cases hev : e1 = v3
      · obtain rfl : y1 = kf := by rw [hkf0]; unfold endKey; rw [if_pos ⟨hz, hev⟩]
        clear hkf0
        have hb : (e1 == v3) = true := by simpa using hev
        clear hev
        subst hz
        have c2C0 := cell_of HC.out 0
        have c2C1 := cell_of HC.out 1
        have c2C2 := cell_of HC.out 2
        have c2C3 := cell_of HC.out 3
        have c2R0 := cell_of HR.out 0
        have c2R1 := cell_of HR.out 1
        have c2R2 := cell_of HR.out 2
        have c2R3 := cell_of HR.out 3
        have c2P0 := cell_of HP.out 0
        have c2P1 := cell_of HP.out 1
        have c2P2 := cell_of HP.out 2
        have c2P3 := cell_of HP.out 3
        have c2Q0 := cell_of HQ.out 0
        have c2Q1 := cell_of HQ.out 1
        have c2Q2 := cell_of HQ.out 2
        have c2Q3 := cell_of HQ.out 3
        have c2V0 := cell_of HV.out 0
        have c2V1 := cell_of HV.out 1
        have c2V2 := cell_of HV.out 2
        have c2V3 := cell_of HV.out 3
        have c2V4 := cell_of HV.out 4
        simp only [List.getElem?_toArray, List.getElem?_cons_zero, List.getElem?_cons_succ] at c2C0 c2C1 c2C2 c2C3 c2R0 c2R1 c2R2 c2R3 c2P0 c2P1 c2P2 c2P3 c2Q0 c2Q1 c2Q2 c2Q3 c2V0 c2V1 c2V2 c2V3 c2V4
        have frc2C := free_of HC.out
        have frc2R := free_of HR.out
        have frc2P := free_of HP.out
        have frc2Q := free_of HQ.out
        have frc2V := free_of HV.out
        have d2CR : ¬ w.heap.size = w.heap.size + 1 := by omega
        have d2CP : ¬ w.heap.size = w.heap.size + 1 + 1 := by omega
        have d2CQ : ¬ w.heap.size = w.heap.size + 1 + 1 + 1 := by omega
        have d2CV : ¬ w.heap.size = u1.heap.size := by omega
        have d2RC : ¬ w.heap.size + 1 = w.heap.size := by omega
        have d2RP : ¬ w.heap.size + 1 = w.heap.size + 1 + 1 := by omega
        have d2RQ : ¬ w.heap.size + 1 = w.heap.size + 1 + 1 + 1 := by omega
        have d2RV : ¬ w.heap.size + 1 = u1.heap.size := by omega
        have d2PC : ¬ w.heap.size + 1 + 1 = w.heap.size := by omega
        have d2PR : ¬ w.heap.size + 1 + 1 = w.heap.size + 1 := by omega
        have d2PQ : ¬ w.heap.size + 1 + 1 = w.heap.size + 1 + 1 + 1 := by omega
        have d2PV : ¬ w.heap.size + 1 + 1 = u1.heap.size := by omega
        have d2QC : ¬ w.heap.size + 1 + 1 + 1 = w.heap.size := by omega
        have d2QR : ¬ w.heap.size + 1 + 1 + 1 = w.heap.size + 1 := by omega
        have d2QP : ¬ w.heap.size + 1 + 1 + 1 = w.heap.size + 1 + 1 := by omega
        have d2QV : ¬ w.heap.size + 1 + 1 + 1 = u1.heap.size := by omega
        have d2VC : ¬ u1.heap.size = w.heap.size := by omega
        have d2VR : ¬ u1.heap.size = w.heap.size + 1 := by omega
        have d2VP : ¬ u1.heap.size = w.heap.size + 1 + 1 := by omega
        have d2VQ : ¬ u1.heap.size = w.heap.size + 1 + 1 + 1 := by omega
        go_wp2_with fail
        refine (impl_ResponseMatches _ _ _ _ _ _ _).mono ?_
        rw [hb]
        rintro e u3 ⟨rfl, h3⟩
        have b3 := below_of_alloc h3
        clear h3 hb
        have NC : Hid (u3.heap[w.heap.size]? = some (.cells #[.int .i64 a, .int .i64 b, .int .i64 k, .int .i64 l1] 30 (0, 0))) := Lib.hid (cells_of_below b3 (by (repeat (first | (with_reducible exact HC.out) | (with_reducible exact HR.out) | (with_reducible exact HP.out) | (with_reducible exact HQ.out) | (with_reducible exact HV.out) | ((with_reducible refine newBlk _ _ _ _ ?_); (simp; done)) | (with_reducible apply store4g) | (with_reducible apply store5g) | ((with_reducible refine store4ne ?_ ?_); (first | omega | (simp; omega))) | ((with_reducible refine store5ne ?_ ?_); (first | omega | (simp; omega)))  | (with_reducible refine drewBlk ?_) | (with_reducible refine oldBlk _ ?_)))))
        have NR : Hid (u3.heap[w.heap.size + 1]? = some (.cells #[.int .i64 a', .int .i64 b', .int .i64 k', .int .i64 s1] 32 (0, 0))) := Lib.hid (cells_of_below b3 (by (repeat (first | (with_reducible exact HC.out) | (with_reducible exact HR.out) | (with_reducible exact HP.out) | (with_reducible exact HQ.out) | (with_reducible exact HV.out) | ((with_reducible refine newBlk _ _ _ _ ?_); (simp; done)) | (with_reducible apply store4g) | (with_reducible apply store5g) | ((with_reducible refine store4ne ?_ ?_); (first | omega | (simp; omega))) | ((with_reducible refine store5ne ?_ ?_); (first | omega | (simp; omega)))  | (with_reducible refine drewBlk ?_) | (with_reducible refine oldBlk _ ?_)))))
        have NP : Hid (u3.heap[w.heap.size + 1 + 1]? = some (.cells #[.int .i64 0, .int .i64 0, .int .i64 0, .int .i64 0] 30 (0, 0))) := Lib.hid (cells_of_below b3 (by (repeat (first | (with_reducible exact HC.out) | (with_reducible exact HR.out) | (with_reducible exact HP.out) | (with_reducible exact HQ.out) | (with_reducible exact HV.out) | ((with_reducible refine newBlk _ _ _ _ ?_); (simp; done)) | (with_reducible apply store4g) | (with_reducible apply store5g) | ((with_reducible refine store4ne ?_ ?_); (first | omega | (simp; omega))) | ((with_reducible refine store5ne ?_ ?_); (first | omega | (simp; omega)))  | (with_reducible refine drewBlk ?_) | (with_reducible refine oldBlk _ ?_)))))
        have NQ : Hid (u3.heap[w.heap.size + 1 + 1 + 1]? = some (.cells #[.int .i64 0, .int .i64 0, .int .i64 0, .int .i64 0] 32 (0, 0))) := Lib.hid (cells_of_below b3 (by (repeat (first | (with_reducible exact HC.out) | (with_reducible exact HR.out) | (with_reducible exact HP.out) | (with_reducible exact HQ.out) | (with_reducible exact HV.out) | ((with_reducible refine newBlk _ _ _ _ ?_); (simp; done)) | (with_reducible apply store4g) | (with_reducible apply store5g) | ((with_reducible refine store4ne ?_ ?_); (first | omega | (simp; omega))) | ((with_reducible refine store5ne ?_ ?_); (first | omega | (simp; omega)))  | (with_reducible refine drewBlk ?_) | (with_reducible refine oldBlk _ ?_)))))
        have NV : Hid (u3.heap[u1.heap.size]? = some (.cells #[.int .i64 v0, .int .i64 v1, .int .i64 v2, .int .i64 v3, .int .i64 v4] 45 (0, 0))) := Lib.hid (cells_of_below b3 (by (repeat (first | (with_reducible exact HC.out) | (with_reducible exact HR.out) | (with_reducible exact HP.out) | (with_reducible exact HQ.out) | (with_reducible exact HV.out) | ((with_reducible refine newBlk _ _ _ _ ?_); (simp; done)) | (with_reducible apply store4g) | (with_reducible apply store5g) | ((with_reducible refine store4ne ?_ ?_); (first | omega | (simp; omega))) | ((with_reducible refine store5ne ?_ ?_); (first | omega | (simp; omega)))  | (with_reducible refine drewBlk ?_) | (with_reducible refine oldBlk _ ?_)))))
        have NA : Hid (u3.heap[u2.heap.size]? = some (.cells #[.int .i64 0, .int .i64 e1, .int .i64 y1, .int .i64 t1] 48 (0, 0))) := Lib.hid (cells_of_below b3 (by (repeat (first | (with_reducible exact HC.out) | (with_reducible exact HR.out) | (with_reducible exact HP.out) | (with_reducible exact HQ.out) | (with_reducible exact HV.out) | ((with_reducible refine newBlk _ _ _ _ ?_); (simp; done)) | (with_reducible apply store4g) | (with_reducible apply store5g) | ((with_reducible refine store4ne ?_ ?_); (first | omega | (simp; omega))) | ((with_reducible refine store5ne ?_ ?_); (first | omega | (simp; omega)))  | (with_reducible refine drewBlk ?_) | (with_reducible refine oldBlk _ ?_)))))
        have NB : Below w.heap.size w u3 := Below.next (by (repeat (first | (with_reducible exact B0) | ((with_reducible refine store4below ?_ ?_); (first | omega | (simp; omega))) | ((with_reducible refine store5below ?_ ?_); (first | omega | (simp; omega))) | (with_reducible refine Below.drew ?_) | (with_reducible refine Below.al ?_ _)))) b3
        clear c2C0 c2C1 c2C2 c2C3 c2R0 c2R1 c2R2 c2R3 c2P0 c2P1 c2P2 c2P3 c2Q0 c2Q1 c2Q2 c2Q3 c2V0 c2V1 c2V2 c2V3 c2V4 frc2C frc2R frc2P frc2Q frc2V d2CR d2CP d2CQ d2CV d2RC d2RP d2RQ d2RV d2PC d2PR d2PQ d2PV d2QC d2QR d2QP d2QV d2VC d2VR d2VP d2VQ HC HR HP HQ HV B0 b3 cal fal sne
        have HC := NC
        have HR := NR
        have HP := NP
        have HQ := NQ
        have HV := NV
        have HA := NA
        have B0 := NB
        clear NC NR NP NQ NV NA NB
        have c3C0 := cell_of HC.out 0
        have c3C1 := cell_of HC.out 1
        have c3C2 := cell_of HC.out 2
        have c3C3 := cell_of HC.out 3
        have c3R0 := cell_of HR.out 0
        have c3R1 := cell_of HR.out 1
        have c3R2 := cell_of HR.out 2
        have c3R3 := cell_of HR.out 3
        have c3P0 := cell_of HP.out 0
        have c3P1 := cell_of HP.out 1
        have c3P2 := cell_of HP.out 2
        have c3P3 := cell_of HP.out 3
        have c3Q0 := cell_of HQ.out 0
        have c3Q1 := cell_of HQ.out 1
        have c3Q2 := cell_of HQ.out 2
        have c3Q3 := cell_of HQ.out 3
        have c3V0 := cell_of HV.out 0
        have c3V1 := cell_of HV.out 1
        have c3V2 := cell_of HV.out 2
        have c3V3 := cell_of HV.out 3
        have c3V4 := cell_of HV.out 4
        have c3A0 := cell_of HA.out 0
        have c3A1 := cell_of HA.out 1
        have c3A2 := cell_of HA.out 2
        have c3A3 := cell_of HA.out 3
        simp only [List.getElem?_toArray, List.getElem?_cons_zero, List.getElem?_cons_succ] at c3C0 c3C1 c3C2 c3C3 c3R0 c3R1 c3R2 c3R3 c3P0 c3P1 c3P2 c3P3 c3Q0 c3Q1 c3Q2 c3Q3 c3V0 c3V1 c3V2 c3V3 c3V4 c3A0 c3A1 c3A2 c3A3
        have frc3C := free_of HC.out
        have frc3R := free_of HR.out
        have frc3P := free_of HP.out
        have frc3Q := free_of HQ.out
        have frc3V := free_of HV.out
        have frc3A := free_of HA.out
        go_wp2_with fail
        go_region
        all_goals go_wp2_with fail
        all_goals refine bodyPost_ret (v := .tuple #[.agg #[.int .i64 a, .int .i64 b, .int .i64 k, .int .i64 l1], .agg #[.int .i64 a', .int .i64 b', .int .i64 k', .int .i64 s1], .int .i64 y1]) (by simp [results, Try.results11, go_sem, *]) rfl ⟨rfl, ?_⟩
        all_goals exact (by repeat (first | (with_reducible exact B0) | (with_reducible refine Below.st ?_ _ _ _ (by omega)) | (with_reducible refine Below.al ?_ _) | (with_reducible refine Below.dn ?_ _) | (with_reducible refine Below.drew ?_)))
      · obtain rfl : kf = 0 := by rw [hkf0]; unfold endKey; rw [if_neg (fun h => hev h.2)]
        clear hkf0
        have hb : (e1 == v3) = false := by simpa using hev
        clear hev
        subst hz
        have c2C0 := cell_of HC.out 0
        have c2C1 := cell_of HC.out 1
        have c2C2 := cell_of HC.out 2
        have c2C3 := cell_of HC.out 3
        have c2R0 := cell_of HR.out 0
        have c2R1 := cell_of HR.out 1
        have c2R2 := cell_of HR.out 2
        have c2R3 := cell_of HR.out 3
        have c2P0 := cell_of HP.out 0
        have c2P1 := cell_of HP.out 1
        have c2P2 := cell_of HP.out 2
        have c2P3 := cell_of HP.out 3
        have c2Q0 := cell_of HQ.out 0
        have c2Q1 := cell_of HQ.out 1
        have c2Q2 := cell_of HQ.out 2
        have c2Q3 := cell_of HQ.out 3
        have c2V0 := cell_of HV.out 0
        have c2V1 := cell_of HV.out 1
        have c2V2 := cell_of HV.out 2
        have c2V3 := cell_of HV.out 3
        have c2V4 := cell_of HV.out 4
        simp only [List.getElem?_toArray, List.getElem?_cons_zero, List.getElem?_cons_succ] at c2C0 c2C1 c2C2 c2C3 c2R0 c2R1 c2R2 c2R3 c2P0 c2P1 c2P2 c2P3 c2Q0 c2Q1 c2Q2 c2Q3 c2V0 c2V1 c2V2 c2V3 c2V4
        have frc2C := free_of HC.out
        have frc2R := free_of HR.out
        have frc2P := free_of HP.out
        have frc2Q := free_of HQ.out
        have frc2V := free_of HV.out
        have d2CR : ¬ w.heap.size = w.heap.size + 1 := by omega
        have d2CP : ¬ w.heap.size = w.heap.size + 1 + 1 := by omega
        have d2CQ : ¬ w.heap.size = w.heap.size + 1 + 1 + 1 := by omega
        have d2CV : ¬ w.heap.size = u1.heap.size := by omega
        have d2RC : ¬ w.heap.size + 1 = w.heap.size := by omega
        have d2RP : ¬ w.heap.size + 1 = w.heap.size + 1 + 1 := by omega
        have d2RQ : ¬ w.heap.size + 1 = w.heap.size + 1 + 1 + 1 := by omega
        have d2RV : ¬ w.heap.size + 1 = u1.heap.size := by omega
        have d2PC : ¬ w.heap.size + 1 + 1 = w.heap.size := by omega
        have d2PR : ¬ w.heap.size + 1 + 1 = w.heap.size + 1 := by omega
        have d2PQ : ¬ w.heap.size + 1 + 1 = w.heap.size + 1 + 1 + 1 := by omega
        have d2PV : ¬ w.heap.size + 1 + 1 = u1.heap.size := by omega
        have d2QC : ¬ w.heap.size + 1 + 1 + 1 = w.heap.size := by omega
        have d2QR : ¬ w.heap.size + 1 + 1 + 1 = w.heap.size + 1 := by omega
        have d2QP : ¬ w.heap.size + 1 + 1 + 1 = w.heap.size + 1 + 1 := by omega
        have d2QV : ¬ w.heap.size + 1 + 1 + 1 = u1.heap.size := by omega
        have d2VC : ¬ u1.heap.size = w.heap.size := by omega
        have d2VR : ¬ u1.heap.size = w.heap.size + 1 := by omega
        have d2VP : ¬ u1.heap.size = w.heap.size + 1 + 1 := by omega
        have d2VQ : ¬ u1.heap.size = w.heap.size + 1 + 1 + 1 := by omega
        go_wp2_with fail
        refine (impl_ResponseMatches _ _ _ _ _ _ _).mono ?_
        rw [hb]
        rintro e u3 ⟨rfl, h3⟩
        have b3 := below_of_alloc h3
        clear h3 hb
        have NC : Hid (u3.heap[w.heap.size]? = some (.cells #[.int .i64 a, .int .i64 b, .int .i64 k, .int .i64 l1] 30 (0, 0))) := Lib.hid (cells_of_below b3 (by (repeat (first | (with_reducible exact HC.out) | (with_reducible exact HR.out) | (with_reducible exact HP.out) | (with_reducible exact HQ.out) | (with_reducible exact HV.out) | ((with_reducible refine newBlk _ _ _ _ ?_); (simp; done)) | (with_reducible apply store4g) | (with_reducible apply store5g) | ((with_reducible refine store4ne ?_ ?_); (first | omega | (simp; omega))) | ((with_reducible refine store5ne ?_ ?_); (first | omega | (simp; omega)))  | (with_reducible refine drewBlk ?_) | (with_reducible refine oldBlk _ ?_)))))
        have NR : Hid (u3.heap[w.heap.size + 1]? = some (.cells #[.int .i64 a', .int .i64 b', .int .i64 k', .int .i64 s1] 32 (0, 0))) := Lib.hid (cells_of_below b3 (by (repeat (first | (with_reducible exact HC.out) | (with_reducible exact HR.out) | (with_reducible exact HP.out) | (with_reducible exact HQ.out) | (with_reducible exact HV.out) | ((with_reducible refine newBlk _ _ _ _ ?_); (simp; done)) | (with_reducible apply store4g) | (with_reducible apply store5g) | ((with_reducible refine store4ne ?_ ?_); (first | omega | (simp; omega))) | ((with_reducible refine store5ne ?_ ?_); (first | omega | (simp; omega)))  | (with_reducible refine drewBlk ?_) | (with_reducible refine oldBlk _ ?_)))))
        have NP : Hid (u3.heap[w.heap.size + 1 + 1]? = some (.cells #[.int .i64 0, .int .i64 0, .int .i64 0, .int .i64 0] 30 (0, 0))) := Lib.hid (cells_of_below b3 (by (repeat (first | (with_reducible exact HC.out) | (with_reducible exact HR.out) | (with_reducible exact HP.out) | (with_reducible exact HQ.out) | (with_reducible exact HV.out) | ((with_reducible refine newBlk _ _ _ _ ?_); (simp; done)) | (with_reducible apply store4g) | (with_reducible apply store5g) | ((with_reducible refine store4ne ?_ ?_); (first | omega | (simp; omega))) | ((with_reducible refine store5ne ?_ ?_); (first | omega | (simp; omega)))  | (with_reducible refine drewBlk ?_) | (with_reducible refine oldBlk _ ?_)))))
        have NQ : Hid (u3.heap[w.heap.size + 1 + 1 + 1]? = some (.cells #[.int .i64 0, .int .i64 0, .int .i64 0, .int .i64 0] 32 (0, 0))) := Lib.hid (cells_of_below b3 (by (repeat (first | (with_reducible exact HC.out) | (with_reducible exact HR.out) | (with_reducible exact HP.out) | (with_reducible exact HQ.out) | (with_reducible exact HV.out) | ((with_reducible refine newBlk _ _ _ _ ?_); (simp; done)) | (with_reducible apply store4g) | (with_reducible apply store5g) | ((with_reducible refine store4ne ?_ ?_); (first | omega | (simp; omega))) | ((with_reducible refine store5ne ?_ ?_); (first | omega | (simp; omega)))  | (with_reducible refine drewBlk ?_) | (with_reducible refine oldBlk _ ?_)))))
        have NV : Hid (u3.heap[u1.heap.size]? = some (.cells #[.int .i64 v0, .int .i64 v1, .int .i64 v2, .int .i64 v3, .int .i64 v4] 45 (0, 0))) := Lib.hid (cells_of_below b3 (by (repeat (first | (with_reducible exact HC.out) | (with_reducible exact HR.out) | (with_reducible exact HP.out) | (with_reducible exact HQ.out) | (with_reducible exact HV.out) | ((with_reducible refine newBlk _ _ _ _ ?_); (simp; done)) | (with_reducible apply store4g) | (with_reducible apply store5g) | ((with_reducible refine store4ne ?_ ?_); (first | omega | (simp; omega))) | ((with_reducible refine store5ne ?_ ?_); (first | omega | (simp; omega)))  | (with_reducible refine drewBlk ?_) | (with_reducible refine oldBlk _ ?_)))))
        have NA : Hid (u3.heap[u2.heap.size]? = some (.cells #[.int .i64 0, .int .i64 e1, .int .i64 y1, .int .i64 t1] 48 (0, 0))) := Lib.hid (cells_of_below b3 (by (repeat (first | (with_reducible exact HC.out) | (with_reducible exact HR.out) | (with_reducible exact HP.out) | (with_reducible exact HQ.out) | (with_reducible exact HV.out) | ((with_reducible refine newBlk _ _ _ _ ?_); (simp; done)) | (with_reducible apply store4g) | (with_reducible apply store5g) | ((with_reducible refine store4ne ?_ ?_); (first | omega | (simp; omega))) | ((with_reducible refine store5ne ?_ ?_); (first | omega | (simp; omega)))  | (with_reducible refine drewBlk ?_) | (with_reducible refine oldBlk _ ?_)))))
        have NB : Below w.heap.size w u3 := Below.next (by (repeat (first | (with_reducible exact B0) | ((with_reducible refine store4below ?_ ?_); (first | omega | (simp; omega))) | ((with_reducible refine store5below ?_ ?_); (first | omega | (simp; omega))) | (with_reducible refine Below.drew ?_) | (with_reducible refine Below.al ?_ _)))) b3
        clear c2C0 c2C1 c2C2 c2C3 c2R0 c2R1 c2R2 c2R3 c2P0 c2P1 c2P2 c2P3 c2Q0 c2Q1 c2Q2 c2Q3 c2V0 c2V1 c2V2 c2V3 c2V4 frc2C frc2R frc2P frc2Q frc2V d2CR d2CP d2CQ d2CV d2RC d2RP d2RQ d2RV d2PC d2PR d2PQ d2PV d2QC d2QR d2QP d2QV d2VC d2VR d2VP d2VQ HC HR HP HQ HV B0 b3 cal fal sne
        have HC := NC
        have HR := NR
        have HP := NP
        have HQ := NQ
        have HV := NV
        have HA := NA
        have B0 := NB
        clear NC NR NP NQ NV NA NB
        have c3C0 := cell_of HC.out 0
        have c3C1 := cell_of HC.out 1
        have c3C2 := cell_of HC.out 2
        have c3C3 := cell_of HC.out 3
        have c3R0 := cell_of HR.out 0
        have c3R1 := cell_of HR.out 1
        have c3R2 := cell_of HR.out 2
        have c3R3 := cell_of HR.out 3
        have c3P0 := cell_of HP.out 0
        have c3P1 := cell_of HP.out 1
        have c3P2 := cell_of HP.out 2
        have c3P3 := cell_of HP.out 3
        have c3Q0 := cell_of HQ.out 0
        have c3Q1 := cell_of HQ.out 1
        have c3Q2 := cell_of HQ.out 2
        have c3Q3 := cell_of HQ.out 3
        have c3V0 := cell_of HV.out 0
        have c3V1 := cell_of HV.out 1
        have c3V2 := cell_of HV.out 2
        have c3V3 := cell_of HV.out 3
        have c3V4 := cell_of HV.out 4
        have c3A0 := cell_of HA.out 0
        have c3A1 := cell_of HA.out 1
        have c3A2 := cell_of HA.out 2
        have c3A3 := cell_of HA.out 3
        simp only [List.getElem?_toArray, List.getElem?_cons_zero, List.getElem?_cons_succ] at c3C0 c3C1 c3C2 c3C3 c3R0 c3R1 c3R2 c3R3 c3P0 c3P1 c3P2 c3P3 c3Q0 c3Q1 c3Q2 c3Q3 c3V0 c3V1 c3V2 c3V3 c3V4 c3A0 c3A1 c3A2 c3A3
        have frc3C := free_of HC.out
        have frc3R := free_of HR.out
        have frc3P := free_of HP.out
        have frc3Q := free_of HQ.out
        have frc3V := free_of HV.out
        have frc3A := free_of HA.out
        go_wp2_with fail
        go_region
        all_goals go_wp2_with fail
        all_goals refine bodyPost_ret (v := .tuple #[.agg #[.int .i64 a, .int .i64 b, .int .i64 k, .int .i64 l1], .agg #[.int .i64 a', .int .i64 b', .int .i64 k', .int .i64 s1], .int .i64 0]) (by simp [results, Try.results11, go_sem, *]) rfl ⟨rfl, ?_⟩
        all_goals exact (by repeat (first | (with_reducible exact B0) | (with_reducible refine Below.st ?_ _ _ _ (by omega)) | (with_reducible refine Below.al ?_ _) | (with_reducible refine Below.dn ?_ _) | (with_reducible refine Below.drew ?_)))
    · obtain rfl : kf = 0 := by rw [hkf0]; unfold endKey; rw [if_neg (fun h => hz h.1)]
      clear hkf0
      have hb1 : (c1 != 0) = true := by simpa using hz
      have hb0 : (c1 == 0) = false := by simpa using hz
      have c2C0 := cell_of HC.out 0
      have c2C1 := cell_of HC.out 1
      have c2C2 := cell_of HC.out 2
      have c2C3 := cell_of HC.out 3
      have c2R0 := cell_of HR.out 0
      have c2R1 := cell_of HR.out 1
      have c2R2 := cell_of HR.out 2
      have c2R3 := cell_of HR.out 3
      have c2P0 := cell_of HP.out 0
      have c2P1 := cell_of HP.out 1
      have c2P2 := cell_of HP.out 2
      have c2P3 := cell_of HP.out 3
      have c2Q0 := cell_of HQ.out 0
      have c2Q1 := cell_of HQ.out 1
      have c2Q2 := cell_of HQ.out 2
      have c2Q3 := cell_of HQ.out 3
      have c2V0 := cell_of HV.out 0
      have c2V1 := cell_of HV.out 1
      have c2V2 := cell_of HV.out 2
      have c2V3 := cell_of HV.out 3
      have c2V4 := cell_of HV.out 4
      simp only [List.getElem?_toArray, List.getElem?_cons_zero, List.getElem?_cons_succ] at c2C0 c2C1 c2C2 c2C3 c2R0 c2R1 c2R2 c2R3 c2P0 c2P1 c2P2 c2P3 c2Q0 c2Q1 c2Q2 c2Q3 c2V0 c2V1 c2V2 c2V3 c2V4
      have frc2C := free_of HC.out
      have frc2R := free_of HR.out
      have frc2P := free_of HP.out
      have frc2Q := free_of HQ.out
      have frc2V := free_of HV.out
      have d2CR : ¬ w.heap.size = w.heap.size + 1 := by omega
      have d2CP : ¬ w.heap.size = w.heap.size + 1 + 1 := by omega
      have d2CQ : ¬ w.heap.size = w.heap.size + 1 + 1 + 1 := by omega
      have d2CV : ¬ w.heap.size = u1.heap.size := by omega
      have d2RC : ¬ w.heap.size + 1 = w.heap.size := by omega
      have d2RP : ¬ w.heap.size + 1 = w.heap.size + 1 + 1 := by omega
      have d2RQ : ¬ w.heap.size + 1 = w.heap.size + 1 + 1 + 1 := by omega
      have d2RV : ¬ w.heap.size + 1 = u1.heap.size := by omega
      have d2PC : ¬ w.heap.size + 1 + 1 = w.heap.size := by omega
      have d2PR : ¬ w.heap.size + 1 + 1 = w.heap.size + 1 := by omega
      have d2PQ : ¬ w.heap.size + 1 + 1 = w.heap.size + 1 + 1 + 1 := by omega
      have d2PV : ¬ w.heap.size + 1 + 1 = u1.heap.size := by omega
      have d2QC : ¬ w.heap.size + 1 + 1 + 1 = w.heap.size := by omega
      have d2QR : ¬ w.heap.size + 1 + 1 + 1 = w.heap.size + 1 := by omega
      have d2QP : ¬ w.heap.size + 1 + 1 + 1 = w.heap.size + 1 + 1 := by omega
      have d2QV : ¬ w.heap.size + 1 + 1 + 1 = u1.heap.size := by omega
      have d2VC : ¬ u1.heap.size = w.heap.size := by omega
      have d2VR : ¬ u1.heap.size = w.heap.size + 1 := by omega
      have d2VP : ¬ u1.heap.size = w.heap.size + 1 + 1 := by omega
      have d2VQ : ¬ u1.heap.size = w.heap.size + 1 + 1 + 1 := by omega
      go_wp2_with fail
      go_region
      all_goals go_wp2_with fail
      all_goals refine bodyPost_ret (v := .tuple #[.agg #[.int .i64 a, .int .i64 b, .int .i64 k, .int .i64 l1], .agg #[.int .i64 a', .int .i64 b', .int .i64 k', .int .i64 s1], .int .i64 0]) (by simp [results, Try.results11, go_sem, *]) rfl ⟨rfl, ?_⟩
      all_goals exact (by repeat (first | (with_reducible exact B0) | (with_reducible refine Below.st ?_ _ _ _ (by omega)) | (with_reducible refine Below.al ?_ _) | (with_reducible refine Below.dn ?_ _) | (with_reducible refine Below.drew ?_)))

end Go.Proofs.Ytfenmicakmjelaa
