/-
  For all inputs (longer ones than 1048576 bytes the law passes by itself) a vector made for a drawn key and number is accepted by a card with the same key and an older number, with the expected answer; it is stale, out of range, or has a bad code otherwise. No condition.
-/
import Derived.Test.YtfenmicakmjelaaRows
import Derived.Test.YtfenmicakmjelaaChal
import Derived.Test.YtfenmicakmjelaaDraw3
namespace Go.Proofs.Ytfenmicakmjelaa.lawFnChallenge
open Go.Proofs.Ytfenmicakmjelaa
open Go.ChangeShapes Go.WideShapes Go.ChangeAt Go.RowKit
open Go.ChangeMaps (open_string shut_string)
set_option linter.unusedVariables false

theorem cell_al (W : World) (o : Obj) (k i : Nat) (h : k < W.heap.size) : (W.alloc o).cell? ⟨k, i, none⟩ = W.cell? ⟨k, i, none⟩ := (Below.al (Below.refl W.heap.size W) o).cell (p := ⟨k, i, none⟩) h
theorem froz_al (W : World) (o : Obj) (k i : Nat) (h : k < W.heap.size) : (W.alloc o).frozen? ⟨k, i, none⟩ = W.frozen? ⟨k, i, none⟩ := (Below.al (Below.refl W.heap.size W) o).frozen (p := ⟨k, i, none⟩) h
theorem set_lo (W : World) (g i k j : Nat) (v : Value) (h : g < k) : (W.setCell ⟨g, i, none⟩ v).cell? ⟨k, j, none⟩ = W.cell? ⟨k, j, none⟩ := set_far _ _ _ _ _ _ (by omega)
theorem set_hi (W : World) (g i k j : Nat) (v : Value) (h : k < g) : (W.setCell ⟨g, i, none⟩ v).cell? ⟨k, j, none⟩ = W.cell? ⟨k, j, none⟩ := set_far _ _ _ _ _ _ (by omega)
theorem set_ne (W : World) (g i k j : Nat) (v : Value) (h : ¬ g = k) : (W.setCell ⟨g, i, none⟩ v).cell? ⟨k, j, none⟩ = W.cell? ⟨k, j, none⟩ := set_far _ _ _ _ _ _ h
theorem alloc_sz (W : World) (o : Obj) : (W.alloc o).heap.size = W.heap.size + 1 := by simp
theorem drew_sz (W : World) : W.drew.heap.size = W.heap.size := rfl
theorem set_sz (W : World) (p : Addr) (v : Value) : (W.setCell p v).heap.size = W.heap.size := by simp
/-- A struct of four numbers stored in its box. -/
theorem store4 {W : World} {g : Nat} {v0 v1 v2 v3 : Value} {t : TypeId} (h : W.heap[g]? = some (.cells #[.int .i64 0, .int .i64 0, .int .i64 0, .int .i64 0] t (0, 0))) :
    ((((W.setCell ⟨g, 0, none⟩ v0).setCell ⟨g, 1, none⟩ v1).setCell ⟨g, 2, none⟩ v2).setCell ⟨g, 3, none⟩ v3).heap[g]? = some (.cells #[v0, v1, v2, v3] t (0, 0)) :=
  setBlk (setBlk (setBlk (setBlk h 0 v0 rfl) 1 v1 rfl) 2 v2 rfl) 3 v3 rfl
theorem store4ne {W : World} {g g' : Nat} {v0 v1 v2 v3 : Value} {x : Option Obj} (hn : g' ≠ g) (h : W.heap[g]? = x) :
    ((((W.setCell ⟨g', 0, none⟩ v0).setCell ⟨g', 1, none⟩ v1).setCell ⟨g', 2, none⟩ v2).setCell ⟨g', 3, none⟩ v3).heap[g]? = x := by
  have key : ∀ (u : World) (i : Nat) (v : Value), (u.setCell ⟨g', i, none⟩ v).heap[g]? = u.heap[g]? := fun u i v => heap_setCell_other u ⟨g', i, none⟩ g v (fun e => hn e.symm)
  rw [key, key, key, key]; exact h
theorem store4below {W w : World} {g' : Nat} {v0 v1 v2 v3 : Value} (hg : w.heap.size ≤ g') (h : Below w.heap.size w W) :
    Below w.heap.size w ((((W.setCell ⟨g', 0, none⟩ v0).setCell ⟨g', 1, none⟩ v1).setCell ⟨g', 2, none⟩ v2).setCell ⟨g', 3, none⟩ v3) := Below.st (Below.st (Below.st (Below.st h _ _ _ hg) _ _ _ hg) _ _ _ hg) _ _ _ hg

theorem store4g {W : World} {g : Nat} {o0 o1 o2 o3 v0 v1 v2 v3 : Value} {t : TypeId} (h : W.heap[g]? = some (.cells #[o0, o1, o2, o3] t (0, 0))) :
    ((((W.setCell ⟨g, 0, none⟩ v0).setCell ⟨g, 1, none⟩ v1).setCell ⟨g, 2, none⟩ v2).setCell ⟨g, 3, none⟩ v3).heap[g]? = some (.cells #[v0, v1, v2, v3] t (0, 0)) :=
  setBlk (setBlk (setBlk (setBlk h 0 v0 rfl) 1 v1 rfl) 2 v2 rfl) 3 v3 rfl
theorem store5g {W : World} {g : Nat} {o0 o1 o2 o3 o4 v0 v1 v2 v3 v4 : Value} {t : TypeId} (h : W.heap[g]? = some (.cells #[o0, o1, o2, o3, o4] t (0, 0))) :
    (((((W.setCell ⟨g, 0, none⟩ v0).setCell ⟨g, 1, none⟩ v1).setCell ⟨g, 2, none⟩ v2).setCell ⟨g, 3, none⟩ v3).setCell ⟨g, 4, none⟩ v4).heap[g]? = some (.cells #[v0, v1, v2, v3, v4] t (0, 0)) :=
  setBlk (setBlk (setBlk (setBlk (setBlk h 0 v0 rfl) 1 v1 rfl) 2 v2 rfl) 3 v3 rfl) 4 v4 rfl
theorem store5ne {W : World} {g g' : Nat} {v0 v1 v2 v3 v4 : Value} {x : Option Obj} (hn : g' ≠ g) (h : W.heap[g]? = x) :
    (((((W.setCell ⟨g', 0, none⟩ v0).setCell ⟨g', 1, none⟩ v1).setCell ⟨g', 2, none⟩ v2).setCell ⟨g', 3, none⟩ v3).setCell ⟨g', 4, none⟩ v4).heap[g]? = x := by
  have key : ∀ (u : World) (i : Nat) (v : Value), (u.setCell ⟨g', i, none⟩ v).heap[g]? = u.heap[g]? := fun u i v => heap_setCell_other u ⟨g', i, none⟩ g v (fun e => hn e.symm)
  rw [key, key, key, key, key]; exact h
theorem store5below {W w : World} {g' : Nat} {v0 v1 v2 v3 v4 : Value} (hg : w.heap.size ≤ g') (h : Below w.heap.size w W) :
    Below w.heap.size w (((((W.setCell ⟨g', 0, none⟩ v0).setCell ⟨g', 1, none⟩ v1).setCell ⟨g', 2, none⟩ v2).setCell ⟨g', 3, none⟩ v3).setCell ⟨g', 4, none⟩ v4) := Below.st (Below.st (Below.st (Below.st (Below.st h _ _ _ hg) _ _ _ hg) _ _ _ hg) _ _ _ hg) _ _ _ hg
theorem na_wf (a b c x r : Int) (hr : (Lit.int .i64 r).wf = true) : (Lit.int .i64 (M.na0 a b c x r)).wf = true ∧ (Lit.int .i64 (M.na1 a b c x r)).wf = true := by
  have h := M.mask_bd c r
  refine ⟨?_, ?_⟩
  · unfold M.na0 M.nv0; split
    · split
      · exact hr
      · decide
    · decide
  · unfold M.na1 M.nv1; split
    · split
      · exact WalkArith.wf_i64 (by omega)
      · decide
    · decide
theorem tok_wf (c k l r : Int) : (Lit.int .i64 (M.rcTok c k l r)).wf = true := by
  have h := M.token_bd k r l
  unfold M.rcTok; split
  · exact WalkArith.wf_i64 (by omega)
  · decide
/-- What one try leaves: the card's and the record's numbers, the vector, the answer. -/
structure Try1 (a b k l a' b' k' s r : Int) (s1 v0 v1 v2 v3 v4 c1 l1 e1 y1 t1 : Int) : Prop where
  hs : s1 = M.nSeq a' b' k' s
  h0 : v0 = M.na0 a' b' k' s r
  h1 : v1 = M.na1 a' b' k' s r
  h2 : v2 = M.na2 a' b' k' s r
  h3 : v3 = M.na3 a' b' k' s r
  h4 : v4 = M.na4 a' b' k' s r
  hc : c1 = M.rcCode a b k l v0 v1 v2
  hl : l1 = M.rcLast c1 k l v0 v1
  he : e1 = M.rcRes c1 k v0
  hy : y1 = M.rcKey c1 k v0 v1
  ht : t1 = M.rcTok c1 k l v0
def endKey (c e v y : Int) : Int := if c = 0 ∧ e = v then y else 0

theorem chal_facts (k r q : Int) (q2 : 1 ≤ q) (q3 : q ≤ 999999) : M.nv0 r q = r ∧ (0 ≤ M.nv1 k r q ∧ M.nv1 k r q < 1000000) ∧ (0 ≤ M.nv2 k r q ∧ M.nv2 k r q < 2147483647) ∧ True ∧ True ∧ M.unmask k r (M.nv1 k r q) = q ∧ M.verify k (q - 1) r (M.nv1 k r q) (M.nv2 k r q) = 0 ∧ M.verify k q r (M.nv1 k r q) (M.nv2 k r q) = 2 ∧
    M.verify k (q - 1) r (M.nv1 k r q) ((M.nv2 k r q + 1) % 2147483647) = 1 ∧ M.verify k (q - 1 - 1000) r (M.nv1 k r q) (M.nv2 k r q) = 3 ∧
    (M.inR k 1 2147483646 = true → M.rcCode 0 0 k (q - 1) r (M.nv1 k r q) (M.nv2 k r q) = 0 ∧ M.rcRes (M.rcCode 0 0 k (q - 1) r (M.nv1 k r q) (M.nv2 k r q)) k r = M.nv3 k r q ∧ M.rcKey (M.rcCode 0 0 k (q - 1) r (M.nv1 k r q) (M.nv2 k r q)) k r (M.nv1 k r q) = M.nv4 k r q) := by
  have hin : M.inR q 0 999999 = true := M.inR_true (by omega)
  have e0 : M.nv0 r q = r := by unfold M.nv0; rw [if_pos hin]
  have e1 : M.nv1 k r q = (q + M.mask k r) % 1000000 := by unfold M.nv1; rw [if_pos hin]
  have e2 : M.nv2 k r q = M.kh k [2, r, q] := by unfold M.nv2; rw [if_pos hin]
  have e3 : M.nv3 k r q = M.kh k [3, r] := by unfold M.nv3; rw [if_pos hin]
  have hm := M.mask_bd k r
  have hh := M.kh_bd k [2, r, q]
  have eu : M.unmask k r (M.nv1 k r q) = q := by rw [e1]; unfold M.unmask; omega
  have g0 : M.verify k (q - 1) r (M.nv1 k r q) (M.nv2 k r q) = 0 := by unfold M.verify; rw [eu, if_pos e2, if_neg (by omega), if_neg (by omega)]
  refine ⟨e0, by rw [e1]; omega, by rw [e2]; exact hh, trivial, trivial, eu, g0, ?_, ?_, ?_, fun hk => ?_⟩
  · unfold M.verify; rw [eu, if_pos e2, if_pos (by omega)]
  · unfold M.verify; rw [eu, if_neg (by rw [e2]; omega)]
  · unfold M.verify; rw [eu, if_pos e2, if_neg (by omega), if_pos (by omega)]
  · have hv : M.vCard 0 0 k (q - 1) = true := by unfold M.vCard M.vSid; rw [hk, M.inR_true (n := 0) (lo := 0) (hi := 3) (by omega), M.inR_true (n := 0) (lo := 0) (hi := 99) (by omega), M.inR_true (n := q - 1) (lo := 0) (hi := 999999) (by omega)]; rfl
    have hc : M.rcCode 0 0 k (q - 1) r (M.nv1 k r q) (M.nv2 k r q) = 0 := by unfold M.rcCode; rw [if_pos hv, g0]
    refine ⟨hc, ?_, ?_⟩
    · rw [hc, e3]; unfold M.rcRes; rw [if_pos rfl]
    · rw [hc]; unfold M.rcKey; rw [if_pos rfl, eu]

set_option maxRecDepth 100000 in
set_option maxHeartbeats 8000000 in
theorem walk (v0 : Value) (z0 : List Int) (w : World) (r0 : Rd .u8 w v0 z0) (h0 : ∀ n ∈ z0, (Lit.int .u8 n).wf = true) :
    Calls Try.prog 4 #[v0] w fun e w' => e = .returned (.bool true) ∧ Below w.heap.size w w' := by
  obtain ⟨A0, c0, rfl, hc0, hm0, -⟩ := id r0
  unfold maxLen at hm0
  by_cases hl : z0.length ≤ 1048576
  · skip
    go_enter Try.func4, Try.ntmps4
    have B := Below.refl w.heap.size w
    go_wp2_with fail
    refine (laws_big _ _ _ _ hl).mono ?_
    rintro e w' ⟨rfl, rfl⟩
    go_wp2_with fail
    refine (spec_DrawNewAuthVector _ z0 _ (r0.below B) h0 hl).mono ?_
    rintro e u1 ⟨k, r, q, rfl, qk, qr, qq, b1⟩
    replace B := Below.next B b1
    clear b1
    obtain ⟨k0, k1⟩ := qk
    obtain ⟨r0', r1⟩ := qr
    obtain ⟨q0, q1⟩ := qq
    have hk := WalkArith.wf_i64 (n := k) (by omega)
    have hr := WalkArith.wf_i64 (n := r) (by omega)
    have hq := WalkArith.wf_i64 (n := q) (by omega)
    have hqm := WalkArith.wf_i64 (n := q - 1) (by omega)
    have hqg := WalkArith.wf_i64 (n := q - 1 - 1000) (by omega)
    by_cases hin : 1 ≤ q ∧ q ≤ 999999
    · skip
      obtain ⟨q2, q3⟩ := hin
      obtain ⟨f0, f1, f2, f3, f4, fu, g0, g2, g1, g3, frc⟩ := chal_facts k r q q2 q3
      obtain ⟨v1, h1⟩ : ∃ v, v = M.nv1 k r q := ⟨_, rfl⟩
      obtain ⟨v2, h2⟩ : ∃ v, v = M.nv2 k r q := ⟨_, rfl⟩
      obtain ⟨v3, h3⟩ : ∃ v, v = M.nv3 k r q := ⟨_, rfl⟩
      obtain ⟨v4, h4⟩ : ∃ v, v = M.nv4 k r q := ⟨_, rfl⟩
      rw [← h1, ← h2] at g0 g2 g1 g3 frc
      rw [← h1] at f1 fu
      rw [← h2] at f2
      rw [← h3, ← h4] at frc
      have wv1 := WalkArith.wf_i64 (n := v1) (by omega)
      have F0 := Lib.hid f0
      have H1 := Lib.hid h1
      have H2 := Lib.hid h2
      have H3 := Lib.hid h3
      have H4 := Lib.hid h4
      have FU := Lib.hid fu
      have G0 := Lib.hid g0
      have G1 := Lib.hid g1
      have G2 := Lib.hid g2
      have G3 := Lib.hid g3
      have FR := Lib.hid frc
      clear f0 f3 f4 fu g0 g1 g2 g3 frc h1 h2 h3 h4
      go_wp2_with fail
      refine (impl_NewAuthVector k r q _ hk hr hq).mono ?_
      rw [F0.out, ← H1.out, ← H2.out, ← H3.out, ← H4.out]
      rintro e u2 ⟨rfl, b2⟩
      replace B := Below.next B b2
      have zy2 := B.size
      clear b2 F0 H1 H2 H3 H4
      have cal := cell_al
      have fal := froz_al
      have sne := set_ne
      go_wp2_with fail
      refine (impl_RespondToChallenge 0 0 k (q - 1) r v1 v2 v3 v4 _ hr wv1).mono ?_
      rintro e u3 ⟨rfl, b3⟩
      have NV : Hid (u3.heap[u2.heap.size]? = some (.cells #[.int .i64 r, .int .i64 v1, .int .i64 v2, .int .i64 v3, .int .i64 v4] 45 (0, 0))) := Lib.hid (cells_of_below b3 (by (repeat (first  | ((with_reducible refine newBlk _ _ _ _ ?_); (simp; done)) | (with_reducible apply store4g) | (with_reducible apply store5g) | ((with_reducible refine store4ne ?_ ?_); (first | omega | (simp; omega))) | ((with_reducible refine store5ne ?_ ?_); (first | omega | (simp; omega)))  | (with_reducible refine drewBlk ?_) | (with_reducible refine oldBlk _ ?_)))))
      have NW : Hid (u3.heap[u2.heap.size + 1]? = some (.cells #[.int .i64 r, .int .i64 v1, .int .i64 ((v2 + 1) % 2147483647), .int .i64 v3, .int .i64 v4] 45 (0, 0))) := Lib.hid (cells_of_below b3 (by (repeat (first  | ((with_reducible refine newBlk _ _ _ _ ?_); (simp; done)) | (with_reducible apply store4g) | (with_reducible apply store5g) | ((with_reducible refine store4ne ?_ ?_); (first | omega | (simp; omega))) | ((with_reducible refine store5ne ?_ ?_); (first | omega | (simp; omega)))  | (with_reducible refine drewBlk ?_) | (with_reducible refine oldBlk _ ?_)))))
      have NB : Below w.heap.size w u3 := Below.next (by (repeat (first | (with_reducible exact B) | ((with_reducible refine store4below ?_ ?_); (first | omega | (simp; omega))) | ((with_reducible refine store5below ?_ ?_); (first | omega | (simp; omega))) | (with_reducible refine Below.drew ?_) | (with_reducible refine Below.al ?_ _)))) b3
      clear B b3
      have HV := NV
      have HW := NW
      have B := NB
      clear NV NW NB
      have zV3 := (Array.getElem?_eq_some_iff.1 HV.out).1
      have zW3 := (Array.getElem?_eq_some_iff.1 HW.out).1
      have zy3 := B.size
      obtain ⟨c1, hc1⟩ : ∃ c, c = M.rcCode 0 0 k (q - 1) r v1 v2 := ⟨_, rfl⟩
      have HC1 := Lib.hid hc1
      rw [← hc1]
      clear hc1
      obtain ⟨l1, hl1⟩ : ∃ c, c = M.rcLast c1 k (q - 1) r v1 := ⟨_, rfl⟩
      obtain ⟨e1, he1⟩ : ∃ c, c = M.rcRes c1 k r := ⟨_, rfl⟩
      obtain ⟨y1, hy1⟩ : ∃ c, c = M.rcKey c1 k r v1 := ⟨_, rfl⟩
      obtain ⟨t1, ht1⟩ : ∃ c, c = M.rcTok c1 k (q - 1) r := ⟨_, rfl⟩
      have HE1 := Lib.hid he1
      have HY1 := Lib.hid hy1
      rw [← hl1, ← he1, ← hy1, ← ht1]
      clear hl1 he1 hy1 ht1
      cases hkv : M.inR k 1 2147483646
      · skip
        clear FR HC1 HE1 HY1
        have sV0 := cell_of HV.out 0
        have sV1 := cell_of HV.out 1
        have sV2 := cell_of HV.out 2
        have sV3 := cell_of HV.out 3
        have sV4 := cell_of HV.out 4
        have sW0 := cell_of HW.out 0
        have sW1 := cell_of HW.out 1
        have sW2 := cell_of HW.out 2
        have sW3 := cell_of HW.out 3
        have sW4 := cell_of HW.out 4
        simp only [List.getElem?_toArray, List.getElem?_cons_zero, List.getElem?_cons_succ] at sV0 sV1 sV2 sV3 sV4 sW0 sW1 sW2 sW3 sW4
        have frsV := free_of HV.out
        have frsW := free_of HW.out
        go_wp2_with fail
        refine (spec_IsValidKey _ _).mono ?_
        rw [hkv]
        rintro e w' ⟨rfl, rfl⟩
        clear hkv
        have taV0 := cell_of HV.out 0
        have taV1 := cell_of HV.out 1
        have taV2 := cell_of HV.out 2
        have taV3 := cell_of HV.out 3
        have taV4 := cell_of HV.out 4
        have taW0 := cell_of HW.out 0
        have taW1 := cell_of HW.out 1
        have taW2 := cell_of HW.out 2
        have taW3 := cell_of HW.out 3
        have taW4 := cell_of HW.out 4
        simp only [List.getElem?_toArray, List.getElem?_cons_zero, List.getElem?_cons_succ] at taV0 taV1 taV2 taV3 taV4 taW0 taW1 taW2 taW3 taW4
        have frtaV := free_of HV.out
        have frtaW := free_of HW.out
        go_wp2_with fail
        refine (impl_UnmaskSequence k r v1 _ hk hr wv1).mono ?_
        rw [FU.out]
        rintro e u4 ⟨rfl, h4⟩
        have b4 := below_of_alloc h4
        clear h4
        have NV : Hid (u4.heap[u2.heap.size]? = some (.cells #[.int .i64 r, .int .i64 v1, .int .i64 v2, .int .i64 v3, .int .i64 v4] 45 (0, 0))) := Lib.hid (cells_of_below b4 (by (repeat (first | (with_reducible exact HV.out) | (with_reducible exact HW.out) | ((with_reducible refine newBlk _ _ _ _ ?_); (simp; done)) | (with_reducible apply store4g) | (with_reducible apply store5g) | ((with_reducible refine store4ne ?_ ?_); (first | omega | (simp; omega))) | ((with_reducible refine store5ne ?_ ?_); (first | omega | (simp; omega)))  | (with_reducible refine drewBlk ?_) | (with_reducible refine oldBlk _ ?_)))))
        have NW : Hid (u4.heap[u2.heap.size + 1]? = some (.cells #[.int .i64 r, .int .i64 v1, .int .i64 ((v2 + 1) % 2147483647), .int .i64 v3, .int .i64 v4] 45 (0, 0))) := Lib.hid (cells_of_below b4 (by (repeat (first | (with_reducible exact HV.out) | (with_reducible exact HW.out) | ((with_reducible refine newBlk _ _ _ _ ?_); (simp; done)) | (with_reducible apply store4g) | (with_reducible apply store5g) | ((with_reducible refine store4ne ?_ ?_); (first | omega | (simp; omega))) | ((with_reducible refine store5ne ?_ ?_); (first | omega | (simp; omega)))  | (with_reducible refine drewBlk ?_) | (with_reducible refine oldBlk _ ?_)))))
        have NC : Hid (u4.heap[u3.heap.size]? = some (.cells #[.int .i64 0, .int .i64 0, .int .i64 k, .int .i64 l1] 30 (0, 0))) := Lib.hid (cells_of_below b4 (by (repeat (first | (with_reducible exact HV.out) | (with_reducible exact HW.out) | ((with_reducible refine newBlk _ _ _ _ ?_); (simp; done)) | (with_reducible apply store4g) | (with_reducible apply store5g) | ((with_reducible refine store4ne ?_ ?_); (first | omega | (simp; omega))) | ((with_reducible refine store5ne ?_ ?_); (first | omega | (simp; omega)))  | (with_reducible refine drewBlk ?_) | (with_reducible refine oldBlk _ ?_)))))
        have NA : Hid (u4.heap[u3.heap.size + 1]? = some (.cells #[.int .i64 c1, .int .i64 e1, .int .i64 y1, .int .i64 t1] 48 (0, 0))) := Lib.hid (cells_of_below b4 (by (repeat (first | (with_reducible exact HV.out) | (with_reducible exact HW.out) | ((with_reducible refine newBlk _ _ _ _ ?_); (simp; done)) | (with_reducible apply store4g) | (with_reducible apply store5g) | ((with_reducible refine store4ne ?_ ?_); (first | omega | (simp; omega))) | ((with_reducible refine store5ne ?_ ?_); (first | omega | (simp; omega)))  | (with_reducible refine drewBlk ?_) | (with_reducible refine oldBlk _ ?_)))))
        have NB : Below w.heap.size w u4 := Below.next (by (repeat (first | (with_reducible exact B) | ((with_reducible refine store4below ?_ ?_); (first | omega | (simp; omega))) | ((with_reducible refine store5below ?_ ?_); (first | omega | (simp; omega))) | (with_reducible refine Below.drew ?_) | (with_reducible refine Below.al ?_ _)))) b4
        clear taV0 taV1 taV2 taV3 taV4 taW0 taW1 taW2 taW3 taW4 frtaV frtaW
        clear HV HW B b4
        have HV := NV
        have HW := NW
        have HC := NC
        have HA := NA
        have B := NB
        clear NV NW NC NA NB
        have zV4 := (Array.getElem?_eq_some_iff.1 HV.out).1
        have zW4 := (Array.getElem?_eq_some_iff.1 HW.out).1
        have zC4 := (Array.getElem?_eq_some_iff.1 HC.out).1
        have zA4 := (Array.getElem?_eq_some_iff.1 HA.out).1
        have zy4 := B.size
        have t0V0 := cell_of HV.out 0
        have t0V1 := cell_of HV.out 1
        have t0V2 := cell_of HV.out 2
        have t0V3 := cell_of HV.out 3
        have t0V4 := cell_of HV.out 4
        have t0W0 := cell_of HW.out 0
        have t0W1 := cell_of HW.out 1
        have t0W2 := cell_of HW.out 2
        have t0W3 := cell_of HW.out 3
        have t0W4 := cell_of HW.out 4
        simp only [List.getElem?_toArray, List.getElem?_cons_zero, List.getElem?_cons_succ] at t0V0 t0V1 t0V2 t0V3 t0V4 t0W0 t0W1 t0W2 t0W3 t0W4
        have frt0V := free_of HV.out
        have frt0W := free_of HW.out
        go_wp2_with fail
        refine (impl_VerifyVector k (q - 1) r v1 v2 v3 v4 _ hk hqm hr wv1).mono ?_
        rw [G0.out]
        rintro e u5 ⟨rfl, b5⟩
        have NV : Hid (u5.heap[u2.heap.size]? = some (.cells #[.int .i64 r, .int .i64 v1, .int .i64 v2, .int .i64 v3, .int .i64 v4] 45 (0, 0))) := Lib.hid (cells_of_below b5 (by (repeat (first | (with_reducible exact HV.out) | (with_reducible exact HW.out) | (with_reducible exact HC.out) | (with_reducible exact HA.out) | ((with_reducible refine newBlk _ _ _ _ ?_); (simp; done)) | (with_reducible apply store4g) | (with_reducible apply store5g) | ((with_reducible refine store4ne ?_ ?_); (first | omega | (simp; omega))) | ((with_reducible refine store5ne ?_ ?_); (first | omega | (simp; omega)))  | (with_reducible refine drewBlk ?_) | (with_reducible refine oldBlk _ ?_)))))
        have NW : Hid (u5.heap[u2.heap.size + 1]? = some (.cells #[.int .i64 r, .int .i64 v1, .int .i64 ((v2 + 1) % 2147483647), .int .i64 v3, .int .i64 v4] 45 (0, 0))) := Lib.hid (cells_of_below b5 (by (repeat (first | (with_reducible exact HV.out) | (with_reducible exact HW.out) | (with_reducible exact HC.out) | (with_reducible exact HA.out) | ((with_reducible refine newBlk _ _ _ _ ?_); (simp; done)) | (with_reducible apply store4g) | (with_reducible apply store5g) | ((with_reducible refine store4ne ?_ ?_); (first | omega | (simp; omega))) | ((with_reducible refine store5ne ?_ ?_); (first | omega | (simp; omega)))  | (with_reducible refine drewBlk ?_) | (with_reducible refine oldBlk _ ?_)))))
        have NC : Hid (u5.heap[u3.heap.size]? = some (.cells #[.int .i64 0, .int .i64 0, .int .i64 k, .int .i64 l1] 30 (0, 0))) := Lib.hid (cells_of_below b5 (by (repeat (first | (with_reducible exact HV.out) | (with_reducible exact HW.out) | (with_reducible exact HC.out) | (with_reducible exact HA.out) | ((with_reducible refine newBlk _ _ _ _ ?_); (simp; done)) | (with_reducible apply store4g) | (with_reducible apply store5g) | ((with_reducible refine store4ne ?_ ?_); (first | omega | (simp; omega))) | ((with_reducible refine store5ne ?_ ?_); (first | omega | (simp; omega)))  | (with_reducible refine drewBlk ?_) | (with_reducible refine oldBlk _ ?_)))))
        have NA : Hid (u5.heap[u3.heap.size + 1]? = some (.cells #[.int .i64 c1, .int .i64 e1, .int .i64 y1, .int .i64 t1] 48 (0, 0))) := Lib.hid (cells_of_below b5 (by (repeat (first | (with_reducible exact HV.out) | (with_reducible exact HW.out) | (with_reducible exact HC.out) | (with_reducible exact HA.out) | ((with_reducible refine newBlk _ _ _ _ ?_); (simp; done)) | (with_reducible apply store4g) | (with_reducible apply store5g) | ((with_reducible refine store4ne ?_ ?_); (first | omega | (simp; omega))) | ((with_reducible refine store5ne ?_ ?_); (first | omega | (simp; omega)))  | (with_reducible refine drewBlk ?_) | (with_reducible refine oldBlk _ ?_)))))
        have NB : Below w.heap.size w u5 := Below.next (by (repeat (first | (with_reducible exact B) | ((with_reducible refine store4below ?_ ?_); (first | omega | (simp; omega))) | ((with_reducible refine store5below ?_ ?_); (first | omega | (simp; omega))) | (with_reducible refine Below.drew ?_) | (with_reducible refine Below.al ?_ _)))) b5
        clear t0V0 t0V1 t0V2 t0V3 t0V4 t0W0 t0W1 t0W2 t0W3 t0W4 frt0V frt0W
        clear HV HW HC HA B b5
        have HV := NV
        have HW := NW
        have HC := NC
        have HA := NA
        have B := NB
        clear NV NW NC NA NB
        have zV5 := (Array.getElem?_eq_some_iff.1 HV.out).1
        have zW5 := (Array.getElem?_eq_some_iff.1 HW.out).1
        have zC5 := (Array.getElem?_eq_some_iff.1 HC.out).1
        have zA5 := (Array.getElem?_eq_some_iff.1 HA.out).1
        have zy5 := B.size
        have t1V0 := cell_of HV.out 0
        have t1V1 := cell_of HV.out 1
        have t1V2 := cell_of HV.out 2
        have t1V3 := cell_of HV.out 3
        have t1V4 := cell_of HV.out 4
        have t1W0 := cell_of HW.out 0
        have t1W1 := cell_of HW.out 1
        have t1W2 := cell_of HW.out 2
        have t1W3 := cell_of HW.out 3
        have t1W4 := cell_of HW.out 4
        simp only [List.getElem?_toArray, List.getElem?_cons_zero, List.getElem?_cons_succ] at t1V0 t1V1 t1V2 t1V3 t1V4 t1W0 t1W1 t1W2 t1W3 t1W4
        have frt1V := free_of HV.out
        have frt1W := free_of HW.out
        go_wp2_with fail
        refine (impl_VerifyVector k q r v1 v2 v3 v4 _ hk hq hr wv1).mono ?_
        rw [G2.out]
        rintro e u6 ⟨rfl, b6⟩
        have NV : Hid (u6.heap[u2.heap.size]? = some (.cells #[.int .i64 r, .int .i64 v1, .int .i64 v2, .int .i64 v3, .int .i64 v4] 45 (0, 0))) := Lib.hid (cells_of_below b6 (by (repeat (first | (with_reducible exact HV.out) | (with_reducible exact HW.out) | (with_reducible exact HC.out) | (with_reducible exact HA.out) | ((with_reducible refine newBlk _ _ _ _ ?_); (simp; done)) | (with_reducible apply store4g) | (with_reducible apply store5g) | ((with_reducible refine store4ne ?_ ?_); (first | omega | (simp; omega))) | ((with_reducible refine store5ne ?_ ?_); (first | omega | (simp; omega)))  | (with_reducible refine drewBlk ?_) | (with_reducible refine oldBlk _ ?_)))))
        have NW : Hid (u6.heap[u2.heap.size + 1]? = some (.cells #[.int .i64 r, .int .i64 v1, .int .i64 ((v2 + 1) % 2147483647), .int .i64 v3, .int .i64 v4] 45 (0, 0))) := Lib.hid (cells_of_below b6 (by (repeat (first | (with_reducible exact HV.out) | (with_reducible exact HW.out) | (with_reducible exact HC.out) | (with_reducible exact HA.out) | ((with_reducible refine newBlk _ _ _ _ ?_); (simp; done)) | (with_reducible apply store4g) | (with_reducible apply store5g) | ((with_reducible refine store4ne ?_ ?_); (first | omega | (simp; omega))) | ((with_reducible refine store5ne ?_ ?_); (first | omega | (simp; omega)))  | (with_reducible refine drewBlk ?_) | (with_reducible refine oldBlk _ ?_)))))
        have NC : Hid (u6.heap[u3.heap.size]? = some (.cells #[.int .i64 0, .int .i64 0, .int .i64 k, .int .i64 l1] 30 (0, 0))) := Lib.hid (cells_of_below b6 (by (repeat (first | (with_reducible exact HV.out) | (with_reducible exact HW.out) | (with_reducible exact HC.out) | (with_reducible exact HA.out) | ((with_reducible refine newBlk _ _ _ _ ?_); (simp; done)) | (with_reducible apply store4g) | (with_reducible apply store5g) | ((with_reducible refine store4ne ?_ ?_); (first | omega | (simp; omega))) | ((with_reducible refine store5ne ?_ ?_); (first | omega | (simp; omega)))  | (with_reducible refine drewBlk ?_) | (with_reducible refine oldBlk _ ?_)))))
        have NA : Hid (u6.heap[u3.heap.size + 1]? = some (.cells #[.int .i64 c1, .int .i64 e1, .int .i64 y1, .int .i64 t1] 48 (0, 0))) := Lib.hid (cells_of_below b6 (by (repeat (first | (with_reducible exact HV.out) | (with_reducible exact HW.out) | (with_reducible exact HC.out) | (with_reducible exact HA.out) | ((with_reducible refine newBlk _ _ _ _ ?_); (simp; done)) | (with_reducible apply store4g) | (with_reducible apply store5g) | ((with_reducible refine store4ne ?_ ?_); (first | omega | (simp; omega))) | ((with_reducible refine store5ne ?_ ?_); (first | omega | (simp; omega)))  | (with_reducible refine drewBlk ?_) | (with_reducible refine oldBlk _ ?_)))))
        have NB : Below w.heap.size w u6 := Below.next (by (repeat (first | (with_reducible exact B) | ((with_reducible refine store4below ?_ ?_); (first | omega | (simp; omega))) | ((with_reducible refine store5below ?_ ?_); (first | omega | (simp; omega))) | (with_reducible refine Below.drew ?_) | (with_reducible refine Below.al ?_ _)))) b6
        clear t1V0 t1V1 t1V2 t1V3 t1V4 t1W0 t1W1 t1W2 t1W3 t1W4 frt1V frt1W
        clear HV HW HC HA B b6
        have HV := NV
        have HW := NW
        have HC := NC
        have HA := NA
        have B := NB
        clear NV NW NC NA NB
        have zV6 := (Array.getElem?_eq_some_iff.1 HV.out).1
        have zW6 := (Array.getElem?_eq_some_iff.1 HW.out).1
        have zC6 := (Array.getElem?_eq_some_iff.1 HC.out).1
        have zA6 := (Array.getElem?_eq_some_iff.1 HA.out).1
        have zy6 := B.size
        have t2V0 := cell_of HV.out 0
        have t2V1 := cell_of HV.out 1
        have t2V2 := cell_of HV.out 2
        have t2V3 := cell_of HV.out 3
        have t2V4 := cell_of HV.out 4
        have t2W0 := cell_of HW.out 0
        have t2W1 := cell_of HW.out 1
        have t2W2 := cell_of HW.out 2
        have t2W3 := cell_of HW.out 3
        have t2W4 := cell_of HW.out 4
        simp only [List.getElem?_toArray, List.getElem?_cons_zero, List.getElem?_cons_succ] at t2V0 t2V1 t2V2 t2V3 t2V4 t2W0 t2W1 t2W2 t2W3 t2W4
        have frt2V := free_of HV.out
        have frt2W := free_of HW.out
        go_wp2_with fail
        refine (impl_VerifyVector k (q - 1) r v1 ((v2 + 1) % 2147483647) v3 v4 _ hk hqm hr wv1).mono ?_
        rw [G1.out]
        rintro e u7 ⟨rfl, b7⟩
        have NV : Hid (u7.heap[u2.heap.size]? = some (.cells #[.int .i64 r, .int .i64 v1, .int .i64 v2, .int .i64 v3, .int .i64 v4] 45 (0, 0))) := Lib.hid (cells_of_below b7 (by (repeat (first | (with_reducible exact HV.out) | (with_reducible exact HW.out) | (with_reducible exact HC.out) | (with_reducible exact HA.out) | ((with_reducible refine newBlk _ _ _ _ ?_); (simp; done)) | (with_reducible apply store4g) | (with_reducible apply store5g) | ((with_reducible refine store4ne ?_ ?_); (first | omega | (simp; omega))) | ((with_reducible refine store5ne ?_ ?_); (first | omega | (simp; omega)))  | (with_reducible refine drewBlk ?_) | (with_reducible refine oldBlk _ ?_)))))
        have NW : Hid (u7.heap[u2.heap.size + 1]? = some (.cells #[.int .i64 r, .int .i64 v1, .int .i64 ((v2 + 1) % 2147483647), .int .i64 v3, .int .i64 v4] 45 (0, 0))) := Lib.hid (cells_of_below b7 (by (repeat (first | (with_reducible exact HV.out) | (with_reducible exact HW.out) | (with_reducible exact HC.out) | (with_reducible exact HA.out) | ((with_reducible refine newBlk _ _ _ _ ?_); (simp; done)) | (with_reducible apply store4g) | (with_reducible apply store5g) | ((with_reducible refine store4ne ?_ ?_); (first | omega | (simp; omega))) | ((with_reducible refine store5ne ?_ ?_); (first | omega | (simp; omega)))  | (with_reducible refine drewBlk ?_) | (with_reducible refine oldBlk _ ?_)))))
        have NC : Hid (u7.heap[u3.heap.size]? = some (.cells #[.int .i64 0, .int .i64 0, .int .i64 k, .int .i64 l1] 30 (0, 0))) := Lib.hid (cells_of_below b7 (by (repeat (first | (with_reducible exact HV.out) | (with_reducible exact HW.out) | (with_reducible exact HC.out) | (with_reducible exact HA.out) | ((with_reducible refine newBlk _ _ _ _ ?_); (simp; done)) | (with_reducible apply store4g) | (with_reducible apply store5g) | ((with_reducible refine store4ne ?_ ?_); (first | omega | (simp; omega))) | ((with_reducible refine store5ne ?_ ?_); (first | omega | (simp; omega)))  | (with_reducible refine drewBlk ?_) | (with_reducible refine oldBlk _ ?_)))))
        have NA : Hid (u7.heap[u3.heap.size + 1]? = some (.cells #[.int .i64 c1, .int .i64 e1, .int .i64 y1, .int .i64 t1] 48 (0, 0))) := Lib.hid (cells_of_below b7 (by (repeat (first | (with_reducible exact HV.out) | (with_reducible exact HW.out) | (with_reducible exact HC.out) | (with_reducible exact HA.out) | ((with_reducible refine newBlk _ _ _ _ ?_); (simp; done)) | (with_reducible apply store4g) | (with_reducible apply store5g) | ((with_reducible refine store4ne ?_ ?_); (first | omega | (simp; omega))) | ((with_reducible refine store5ne ?_ ?_); (first | omega | (simp; omega)))  | (with_reducible refine drewBlk ?_) | (with_reducible refine oldBlk _ ?_)))))
        have NB : Below w.heap.size w u7 := Below.next (by (repeat (first | (with_reducible exact B) | ((with_reducible refine store4below ?_ ?_); (first | omega | (simp; omega))) | ((with_reducible refine store5below ?_ ?_); (first | omega | (simp; omega))) | (with_reducible refine Below.drew ?_) | (with_reducible refine Below.al ?_ _)))) b7
        clear t2V0 t2V1 t2V2 t2V3 t2V4 t2W0 t2W1 t2W2 t2W3 t2W4 frt2V frt2W
        clear HV HW HC HA B b7
        have HV := NV
        have HW := NW
        have HC := NC
        have HA := NA
        have B := NB
        clear NV NW NC NA NB
        have zV7 := (Array.getElem?_eq_some_iff.1 HV.out).1
        have zW7 := (Array.getElem?_eq_some_iff.1 HW.out).1
        have zC7 := (Array.getElem?_eq_some_iff.1 HC.out).1
        have zA7 := (Array.getElem?_eq_some_iff.1 HA.out).1
        have zy7 := B.size
        have t3V0 := cell_of HV.out 0
        have t3V1 := cell_of HV.out 1
        have t3V2 := cell_of HV.out 2
        have t3V3 := cell_of HV.out 3
        have t3V4 := cell_of HV.out 4
        have t3W0 := cell_of HW.out 0
        have t3W1 := cell_of HW.out 1
        have t3W2 := cell_of HW.out 2
        have t3W3 := cell_of HW.out 3
        have t3W4 := cell_of HW.out 4
        simp only [List.getElem?_toArray, List.getElem?_cons_zero, List.getElem?_cons_succ] at t3V0 t3V1 t3V2 t3V3 t3V4 t3W0 t3W1 t3W2 t3W3 t3W4
        have frt3V := free_of HV.out
        have frt3W := free_of HW.out
        go_wp2_with fail
        refine (impl_VerifyVector k (q - 1 - 1000) r v1 v2 v3 v4 _ hk hqg hr wv1).mono ?_
        rw [G3.out]
        rintro e u8 ⟨rfl, b8⟩
        have NV : Hid (u8.heap[u2.heap.size]? = some (.cells #[.int .i64 r, .int .i64 v1, .int .i64 v2, .int .i64 v3, .int .i64 v4] 45 (0, 0))) := Lib.hid (cells_of_below b8 (by (repeat (first | (with_reducible exact HV.out) | (with_reducible exact HW.out) | (with_reducible exact HC.out) | (with_reducible exact HA.out) | ((with_reducible refine newBlk _ _ _ _ ?_); (simp; done)) | (with_reducible apply store4g) | (with_reducible apply store5g) | ((with_reducible refine store4ne ?_ ?_); (first | omega | (simp; omega))) | ((with_reducible refine store5ne ?_ ?_); (first | omega | (simp; omega)))  | (with_reducible refine drewBlk ?_) | (with_reducible refine oldBlk _ ?_)))))
        have NW : Hid (u8.heap[u2.heap.size + 1]? = some (.cells #[.int .i64 r, .int .i64 v1, .int .i64 ((v2 + 1) % 2147483647), .int .i64 v3, .int .i64 v4] 45 (0, 0))) := Lib.hid (cells_of_below b8 (by (repeat (first | (with_reducible exact HV.out) | (with_reducible exact HW.out) | (with_reducible exact HC.out) | (with_reducible exact HA.out) | ((with_reducible refine newBlk _ _ _ _ ?_); (simp; done)) | (with_reducible apply store4g) | (with_reducible apply store5g) | ((with_reducible refine store4ne ?_ ?_); (first | omega | (simp; omega))) | ((with_reducible refine store5ne ?_ ?_); (first | omega | (simp; omega)))  | (with_reducible refine drewBlk ?_) | (with_reducible refine oldBlk _ ?_)))))
        have NC : Hid (u8.heap[u3.heap.size]? = some (.cells #[.int .i64 0, .int .i64 0, .int .i64 k, .int .i64 l1] 30 (0, 0))) := Lib.hid (cells_of_below b8 (by (repeat (first | (with_reducible exact HV.out) | (with_reducible exact HW.out) | (with_reducible exact HC.out) | (with_reducible exact HA.out) | ((with_reducible refine newBlk _ _ _ _ ?_); (simp; done)) | (with_reducible apply store4g) | (with_reducible apply store5g) | ((with_reducible refine store4ne ?_ ?_); (first | omega | (simp; omega))) | ((with_reducible refine store5ne ?_ ?_); (first | omega | (simp; omega)))  | (with_reducible refine drewBlk ?_) | (with_reducible refine oldBlk _ ?_)))))
        have NA : Hid (u8.heap[u3.heap.size + 1]? = some (.cells #[.int .i64 c1, .int .i64 e1, .int .i64 y1, .int .i64 t1] 48 (0, 0))) := Lib.hid (cells_of_below b8 (by (repeat (first | (with_reducible exact HV.out) | (with_reducible exact HW.out) | (with_reducible exact HC.out) | (with_reducible exact HA.out) | ((with_reducible refine newBlk _ _ _ _ ?_); (simp; done)) | (with_reducible apply store4g) | (with_reducible apply store5g) | ((with_reducible refine store4ne ?_ ?_); (first | omega | (simp; omega))) | ((with_reducible refine store5ne ?_ ?_); (first | omega | (simp; omega)))  | (with_reducible refine drewBlk ?_) | (with_reducible refine oldBlk _ ?_)))))
        have NB : Below w.heap.size w u8 := Below.next (by (repeat (first | (with_reducible exact B) | ((with_reducible refine store4below ?_ ?_); (first | omega | (simp; omega))) | ((with_reducible refine store5below ?_ ?_); (first | omega | (simp; omega))) | (with_reducible refine Below.drew ?_) | (with_reducible refine Below.al ?_ _)))) b8
        clear t3V0 t3V1 t3V2 t3V3 t3V4 t3W0 t3W1 t3W2 t3W3 t3W4 frt3V frt3W
        clear HV HW HC HA B b8
        have HV := NV
        have HW := NW
        have HC := NC
        have HA := NA
        have B := NB
        clear NV NW NC NA NB
        have zV8 := (Array.getElem?_eq_some_iff.1 HV.out).1
        have zW8 := (Array.getElem?_eq_some_iff.1 HW.out).1
        have zC8 := (Array.getElem?_eq_some_iff.1 HC.out).1
        have zA8 := (Array.getElem?_eq_some_iff.1 HA.out).1
        have zy8 := B.size
        go_wp2_with fail
        go_ret
        exact ⟨rfl, B⟩
      · skip
        obtain ⟨fa, fb, fc⟩ := FR.out hkv
        rw [← HC1.out] at fa fb fc
        rw [← HE1.out] at fb
        rw [← HY1.out] at fc
        clear FR HC1 HE1 HY1
        subst fa fb fc
        have sV0 := cell_of HV.out 0
        have sV1 := cell_of HV.out 1
        have sV2 := cell_of HV.out 2
        have sV3 := cell_of HV.out 3
        have sV4 := cell_of HV.out 4
        have sW0 := cell_of HW.out 0
        have sW1 := cell_of HW.out 1
        have sW2 := cell_of HW.out 2
        have sW3 := cell_of HW.out 3
        have sW4 := cell_of HW.out 4
        simp only [List.getElem?_toArray, List.getElem?_cons_zero, List.getElem?_cons_succ] at sV0 sV1 sV2 sV3 sV4 sW0 sW1 sW2 sW3 sW4
        have frsV := free_of HV.out
        have frsW := free_of HW.out
        go_wp2_with fail
        refine (spec_IsValidKey _ _).mono ?_
        rw [hkv]
        rintro e w' ⟨rfl, rfl⟩
        clear hkv
        go_wp2_with fail
        refine (impl_ResponseMatches _ _ _ _ _ _ _).mono ?_
        rw [show (e1 == e1) = true by simp]
        rintro e u4 ⟨rfl, h4⟩
        have b4 := below_of_alloc h4
        clear h4
        have NV : Hid (u4.heap[u2.heap.size]? = some (.cells #[.int .i64 r, .int .i64 v1, .int .i64 v2, .int .i64 e1, .int .i64 y1] 45 (0, 0))) := Lib.hid (cells_of_below b4 (by (repeat (first | (with_reducible exact HV.out) | (with_reducible exact HW.out) | ((with_reducible refine newBlk _ _ _ _ ?_); (simp; done)) | (with_reducible apply store4g) | (with_reducible apply store5g) | ((with_reducible refine store4ne ?_ ?_); (first | omega | (simp; omega))) | ((with_reducible refine store5ne ?_ ?_); (first | omega | (simp; omega)))  | (with_reducible refine drewBlk ?_) | (with_reducible refine oldBlk _ ?_)))))
        have NW : Hid (u4.heap[u2.heap.size + 1]? = some (.cells #[.int .i64 r, .int .i64 v1, .int .i64 ((v2 + 1) % 2147483647), .int .i64 e1, .int .i64 y1] 45 (0, 0))) := Lib.hid (cells_of_below b4 (by (repeat (first | (with_reducible exact HV.out) | (with_reducible exact HW.out) | ((with_reducible refine newBlk _ _ _ _ ?_); (simp; done)) | (with_reducible apply store4g) | (with_reducible apply store5g) | ((with_reducible refine store4ne ?_ ?_); (first | omega | (simp; omega))) | ((with_reducible refine store5ne ?_ ?_); (first | omega | (simp; omega)))  | (with_reducible refine drewBlk ?_) | (with_reducible refine oldBlk _ ?_)))))
        have NC : Hid (u4.heap[u3.heap.size]? = some (.cells #[.int .i64 0, .int .i64 0, .int .i64 k, .int .i64 l1] 30 (0, 0))) := Lib.hid (cells_of_below b4 (by (repeat (first | (with_reducible exact HV.out) | (with_reducible exact HW.out) | ((with_reducible refine newBlk _ _ _ _ ?_); (simp; done)) | (with_reducible apply store4g) | (with_reducible apply store5g) | ((with_reducible refine store4ne ?_ ?_); (first | omega | (simp; omega))) | ((with_reducible refine store5ne ?_ ?_); (first | omega | (simp; omega)))  | (with_reducible refine drewBlk ?_) | (with_reducible refine oldBlk _ ?_)))))
        have NA : Hid (u4.heap[u3.heap.size + 1]? = some (.cells #[.int .i64 0, .int .i64 e1, .int .i64 y1, .int .i64 t1] 48 (0, 0))) := Lib.hid (cells_of_below b4 (by (repeat (first | (with_reducible exact HV.out) | (with_reducible exact HW.out) | ((with_reducible refine newBlk _ _ _ _ ?_); (simp; done)) | (with_reducible apply store4g) | (with_reducible apply store5g) | ((with_reducible refine store4ne ?_ ?_); (first | omega | (simp; omega))) | ((with_reducible refine store5ne ?_ ?_); (first | omega | (simp; omega)))  | (with_reducible refine drewBlk ?_) | (with_reducible refine oldBlk _ ?_)))))
        have NB : Below w.heap.size w u4 := Below.next (by (repeat (first | (with_reducible exact B) | ((with_reducible refine store4below ?_ ?_); (first | omega | (simp; omega))) | ((with_reducible refine store5below ?_ ?_); (first | omega | (simp; omega))) | (with_reducible refine Below.drew ?_) | (with_reducible refine Below.al ?_ _)))) b4
        clear sV0 sV1 sV2 sV3 sV4 sW0 sW1 sW2 sW3 sW4 frsV frsW
        clear HV HW B b4
        have HV := NV
        have HW := NW
        have HC := NC
        have HA := NA
        have B := NB
        clear NV NW NC NA NB
        have zV4 := (Array.getElem?_eq_some_iff.1 HV.out).1
        have zW4 := (Array.getElem?_eq_some_iff.1 HW.out).1
        have zC4 := (Array.getElem?_eq_some_iff.1 HC.out).1
        have zA4 := (Array.getElem?_eq_some_iff.1 HA.out).1
        have zy4 := B.size
        have taV0 := cell_of HV.out 0
        have taV1 := cell_of HV.out 1
        have taV2 := cell_of HV.out 2
        have taV3 := cell_of HV.out 3
        have taV4 := cell_of HV.out 4
        have taW0 := cell_of HW.out 0
        have taW1 := cell_of HW.out 1
        have taW2 := cell_of HW.out 2
        have taW3 := cell_of HW.out 3
        have taW4 := cell_of HW.out 4
        simp only [List.getElem?_toArray, List.getElem?_cons_zero, List.getElem?_cons_succ] at taV0 taV1 taV2 taV3 taV4 taW0 taW1 taW2 taW3 taW4
        have frtaV := free_of HV.out
        have frtaW := free_of HW.out
        go_wp2_with fail
        refine (impl_UnmaskSequence k r v1 _ hk hr wv1).mono ?_
        rw [FU.out]
        rintro e u5 ⟨rfl, h5⟩
        have b5 := below_of_alloc h5
        clear h5
        have NV : Hid (u5.heap[u2.heap.size]? = some (.cells #[.int .i64 r, .int .i64 v1, .int .i64 v2, .int .i64 e1, .int .i64 y1] 45 (0, 0))) := Lib.hid (cells_of_below b5 (by (repeat (first | (with_reducible exact HV.out) | (with_reducible exact HW.out) | (with_reducible exact HC.out) | (with_reducible exact HA.out) | ((with_reducible refine newBlk _ _ _ _ ?_); (simp; done)) | (with_reducible apply store4g) | (with_reducible apply store5g) | ((with_reducible refine store4ne ?_ ?_); (first | omega | (simp; omega))) | ((with_reducible refine store5ne ?_ ?_); (first | omega | (simp; omega)))  | (with_reducible refine drewBlk ?_) | (with_reducible refine oldBlk _ ?_)))))
        have NW : Hid (u5.heap[u2.heap.size + 1]? = some (.cells #[.int .i64 r, .int .i64 v1, .int .i64 ((v2 + 1) % 2147483647), .int .i64 e1, .int .i64 y1] 45 (0, 0))) := Lib.hid (cells_of_below b5 (by (repeat (first | (with_reducible exact HV.out) | (with_reducible exact HW.out) | (with_reducible exact HC.out) | (with_reducible exact HA.out) | ((with_reducible refine newBlk _ _ _ _ ?_); (simp; done)) | (with_reducible apply store4g) | (with_reducible apply store5g) | ((with_reducible refine store4ne ?_ ?_); (first | omega | (simp; omega))) | ((with_reducible refine store5ne ?_ ?_); (first | omega | (simp; omega)))  | (with_reducible refine drewBlk ?_) | (with_reducible refine oldBlk _ ?_)))))
        have NC : Hid (u5.heap[u3.heap.size]? = some (.cells #[.int .i64 0, .int .i64 0, .int .i64 k, .int .i64 l1] 30 (0, 0))) := Lib.hid (cells_of_below b5 (by (repeat (first | (with_reducible exact HV.out) | (with_reducible exact HW.out) | (with_reducible exact HC.out) | (with_reducible exact HA.out) | ((with_reducible refine newBlk _ _ _ _ ?_); (simp; done)) | (with_reducible apply store4g) | (with_reducible apply store5g) | ((with_reducible refine store4ne ?_ ?_); (first | omega | (simp; omega))) | ((with_reducible refine store5ne ?_ ?_); (first | omega | (simp; omega)))  | (with_reducible refine drewBlk ?_) | (with_reducible refine oldBlk _ ?_)))))
        have NA : Hid (u5.heap[u3.heap.size + 1]? = some (.cells #[.int .i64 0, .int .i64 e1, .int .i64 y1, .int .i64 t1] 48 (0, 0))) := Lib.hid (cells_of_below b5 (by (repeat (first | (with_reducible exact HV.out) | (with_reducible exact HW.out) | (with_reducible exact HC.out) | (with_reducible exact HA.out) | ((with_reducible refine newBlk _ _ _ _ ?_); (simp; done)) | (with_reducible apply store4g) | (with_reducible apply store5g) | ((with_reducible refine store4ne ?_ ?_); (first | omega | (simp; omega))) | ((with_reducible refine store5ne ?_ ?_); (first | omega | (simp; omega)))  | (with_reducible refine drewBlk ?_) | (with_reducible refine oldBlk _ ?_)))))
        have NB : Below w.heap.size w u5 := Below.next (by (repeat (first | (with_reducible exact B) | ((with_reducible refine store4below ?_ ?_); (first | omega | (simp; omega))) | ((with_reducible refine store5below ?_ ?_); (first | omega | (simp; omega))) | (with_reducible refine Below.drew ?_) | (with_reducible refine Below.al ?_ _)))) b5
        clear taV0 taV1 taV2 taV3 taV4 taW0 taW1 taW2 taW3 taW4 frtaV frtaW
        clear HV HW HC HA B b5
        have HV := NV
        have HW := NW
        have HC := NC
        have HA := NA
        have B := NB
        clear NV NW NC NA NB
        have zV5 := (Array.getElem?_eq_some_iff.1 HV.out).1
        have zW5 := (Array.getElem?_eq_some_iff.1 HW.out).1
        have zC5 := (Array.getElem?_eq_some_iff.1 HC.out).1
        have zA5 := (Array.getElem?_eq_some_iff.1 HA.out).1
        have zy5 := B.size
        have t0V0 := cell_of HV.out 0
        have t0V1 := cell_of HV.out 1
        have t0V2 := cell_of HV.out 2
        have t0V3 := cell_of HV.out 3
        have t0V4 := cell_of HV.out 4
        have t0W0 := cell_of HW.out 0
        have t0W1 := cell_of HW.out 1
        have t0W2 := cell_of HW.out 2
        have t0W3 := cell_of HW.out 3
        have t0W4 := cell_of HW.out 4
        simp only [List.getElem?_toArray, List.getElem?_cons_zero, List.getElem?_cons_succ] at t0V0 t0V1 t0V2 t0V3 t0V4 t0W0 t0W1 t0W2 t0W3 t0W4
        have frt0V := free_of HV.out
        have frt0W := free_of HW.out
        go_wp2_with fail
        refine (impl_VerifyVector k (q - 1) r v1 v2 e1 y1 _ hk hqm hr wv1).mono ?_
        rw [G0.out]
        rintro e u6 ⟨rfl, b6⟩
        have NV : Hid (u6.heap[u2.heap.size]? = some (.cells #[.int .i64 r, .int .i64 v1, .int .i64 v2, .int .i64 e1, .int .i64 y1] 45 (0, 0))) := Lib.hid (cells_of_below b6 (by (repeat (first | (with_reducible exact HV.out) | (with_reducible exact HW.out) | (with_reducible exact HC.out) | (with_reducible exact HA.out) | ((with_reducible refine newBlk _ _ _ _ ?_); (simp; done)) | (with_reducible apply store4g) | (with_reducible apply store5g) | ((with_reducible refine store4ne ?_ ?_); (first | omega | (simp; omega))) | ((with_reducible refine store5ne ?_ ?_); (first | omega | (simp; omega)))  | (with_reducible refine drewBlk ?_) | (with_reducible refine oldBlk _ ?_)))))
        have NW : Hid (u6.heap[u2.heap.size + 1]? = some (.cells #[.int .i64 r, .int .i64 v1, .int .i64 ((v2 + 1) % 2147483647), .int .i64 e1, .int .i64 y1] 45 (0, 0))) := Lib.hid (cells_of_below b6 (by (repeat (first | (with_reducible exact HV.out) | (with_reducible exact HW.out) | (with_reducible exact HC.out) | (with_reducible exact HA.out) | ((with_reducible refine newBlk _ _ _ _ ?_); (simp; done)) | (with_reducible apply store4g) | (with_reducible apply store5g) | ((with_reducible refine store4ne ?_ ?_); (first | omega | (simp; omega))) | ((with_reducible refine store5ne ?_ ?_); (first | omega | (simp; omega)))  | (with_reducible refine drewBlk ?_) | (with_reducible refine oldBlk _ ?_)))))
        have NC : Hid (u6.heap[u3.heap.size]? = some (.cells #[.int .i64 0, .int .i64 0, .int .i64 k, .int .i64 l1] 30 (0, 0))) := Lib.hid (cells_of_below b6 (by (repeat (first | (with_reducible exact HV.out) | (with_reducible exact HW.out) | (with_reducible exact HC.out) | (with_reducible exact HA.out) | ((with_reducible refine newBlk _ _ _ _ ?_); (simp; done)) | (with_reducible apply store4g) | (with_reducible apply store5g) | ((with_reducible refine store4ne ?_ ?_); (first | omega | (simp; omega))) | ((with_reducible refine store5ne ?_ ?_); (first | omega | (simp; omega)))  | (with_reducible refine drewBlk ?_) | (with_reducible refine oldBlk _ ?_)))))
        have NA : Hid (u6.heap[u3.heap.size + 1]? = some (.cells #[.int .i64 0, .int .i64 e1, .int .i64 y1, .int .i64 t1] 48 (0, 0))) := Lib.hid (cells_of_below b6 (by (repeat (first | (with_reducible exact HV.out) | (with_reducible exact HW.out) | (with_reducible exact HC.out) | (with_reducible exact HA.out) | ((with_reducible refine newBlk _ _ _ _ ?_); (simp; done)) | (with_reducible apply store4g) | (with_reducible apply store5g) | ((with_reducible refine store4ne ?_ ?_); (first | omega | (simp; omega))) | ((with_reducible refine store5ne ?_ ?_); (first | omega | (simp; omega)))  | (with_reducible refine drewBlk ?_) | (with_reducible refine oldBlk _ ?_)))))
        have NB : Below w.heap.size w u6 := Below.next (by (repeat (first | (with_reducible exact B) | ((with_reducible refine store4below ?_ ?_); (first | omega | (simp; omega))) | ((with_reducible refine store5below ?_ ?_); (first | omega | (simp; omega))) | (with_reducible refine Below.drew ?_) | (with_reducible refine Below.al ?_ _)))) b6
        clear t0V0 t0V1 t0V2 t0V3 t0V4 t0W0 t0W1 t0W2 t0W3 t0W4 frt0V frt0W
        clear HV HW HC HA B b6
        have HV := NV
        have HW := NW
        have HC := NC
        have HA := NA
        have B := NB
        clear NV NW NC NA NB
        have zV6 := (Array.getElem?_eq_some_iff.1 HV.out).1
        have zW6 := (Array.getElem?_eq_some_iff.1 HW.out).1
        have zC6 := (Array.getElem?_eq_some_iff.1 HC.out).1
        have zA6 := (Array.getElem?_eq_some_iff.1 HA.out).1
        have zy6 := B.size
        have t1V0 := cell_of HV.out 0
        have t1V1 := cell_of HV.out 1
        have t1V2 := cell_of HV.out 2
        have t1V3 := cell_of HV.out 3
        have t1V4 := cell_of HV.out 4
        have t1W0 := cell_of HW.out 0
        have t1W1 := cell_of HW.out 1
        have t1W2 := cell_of HW.out 2
        have t1W3 := cell_of HW.out 3
        have t1W4 := cell_of HW.out 4
        simp only [List.getElem?_toArray, List.getElem?_cons_zero, List.getElem?_cons_succ] at t1V0 t1V1 t1V2 t1V3 t1V4 t1W0 t1W1 t1W2 t1W3 t1W4
        have frt1V := free_of HV.out
        have frt1W := free_of HW.out
        go_wp2_with fail
        refine (impl_VerifyVector k q r v1 v2 e1 y1 _ hk hq hr wv1).mono ?_
        rw [G2.out]
        rintro e u7 ⟨rfl, b7⟩
        have NV : Hid (u7.heap[u2.heap.size]? = some (.cells #[.int .i64 r, .int .i64 v1, .int .i64 v2, .int .i64 e1, .int .i64 y1] 45 (0, 0))) := Lib.hid (cells_of_below b7 (by (repeat (first | (with_reducible exact HV.out) | (with_reducible exact HW.out) | (with_reducible exact HC.out) | (with_reducible exact HA.out) | ((with_reducible refine newBlk _ _ _ _ ?_); (simp; done)) | (with_reducible apply store4g) | (with_reducible apply store5g) | ((with_reducible refine store4ne ?_ ?_); (first | omega | (simp; omega))) | ((with_reducible refine store5ne ?_ ?_); (first | omega | (simp; omega)))  | (with_reducible refine drewBlk ?_) | (with_reducible refine oldBlk _ ?_)))))
        have NW : Hid (u7.heap[u2.heap.size + 1]? = some (.cells #[.int .i64 r, .int .i64 v1, .int .i64 ((v2 + 1) % 2147483647), .int .i64 e1, .int .i64 y1] 45 (0, 0))) := Lib.hid (cells_of_below b7 (by (repeat (first | (with_reducible exact HV.out) | (with_reducible exact HW.out) | (with_reducible exact HC.out) | (with_reducible exact HA.out) | ((with_reducible refine newBlk _ _ _ _ ?_); (simp; done)) | (with_reducible apply store4g) | (with_reducible apply store5g) | ((with_reducible refine store4ne ?_ ?_); (first | omega | (simp; omega))) | ((with_reducible refine store5ne ?_ ?_); (first | omega | (simp; omega)))  | (with_reducible refine drewBlk ?_) | (with_reducible refine oldBlk _ ?_)))))
        have NC : Hid (u7.heap[u3.heap.size]? = some (.cells #[.int .i64 0, .int .i64 0, .int .i64 k, .int .i64 l1] 30 (0, 0))) := Lib.hid (cells_of_below b7 (by (repeat (first | (with_reducible exact HV.out) | (with_reducible exact HW.out) | (with_reducible exact HC.out) | (with_reducible exact HA.out) | ((with_reducible refine newBlk _ _ _ _ ?_); (simp; done)) | (with_reducible apply store4g) | (with_reducible apply store5g) | ((with_reducible refine store4ne ?_ ?_); (first | omega | (simp; omega))) | ((with_reducible refine store5ne ?_ ?_); (first | omega | (simp; omega)))  | (with_reducible refine drewBlk ?_) | (with_reducible refine oldBlk _ ?_)))))
        have NA : Hid (u7.heap[u3.heap.size + 1]? = some (.cells #[.int .i64 0, .int .i64 e1, .int .i64 y1, .int .i64 t1] 48 (0, 0))) := Lib.hid (cells_of_below b7 (by (repeat (first | (with_reducible exact HV.out) | (with_reducible exact HW.out) | (with_reducible exact HC.out) | (with_reducible exact HA.out) | ((with_reducible refine newBlk _ _ _ _ ?_); (simp; done)) | (with_reducible apply store4g) | (with_reducible apply store5g) | ((with_reducible refine store4ne ?_ ?_); (first | omega | (simp; omega))) | ((with_reducible refine store5ne ?_ ?_); (first | omega | (simp; omega)))  | (with_reducible refine drewBlk ?_) | (with_reducible refine oldBlk _ ?_)))))
        have NB : Below w.heap.size w u7 := Below.next (by (repeat (first | (with_reducible exact B) | ((with_reducible refine store4below ?_ ?_); (first | omega | (simp; omega))) | ((with_reducible refine store5below ?_ ?_); (first | omega | (simp; omega))) | (with_reducible refine Below.drew ?_) | (with_reducible refine Below.al ?_ _)))) b7
        clear t1V0 t1V1 t1V2 t1V3 t1V4 t1W0 t1W1 t1W2 t1W3 t1W4 frt1V frt1W
        clear HV HW HC HA B b7
        have HV := NV
        have HW := NW
        have HC := NC
        have HA := NA
        have B := NB
        clear NV NW NC NA NB
        have zV7 := (Array.getElem?_eq_some_iff.1 HV.out).1
        have zW7 := (Array.getElem?_eq_some_iff.1 HW.out).1
        have zC7 := (Array.getElem?_eq_some_iff.1 HC.out).1
        have zA7 := (Array.getElem?_eq_some_iff.1 HA.out).1
        have zy7 := B.size
        have t2V0 := cell_of HV.out 0
        have t2V1 := cell_of HV.out 1
        have t2V2 := cell_of HV.out 2
        have t2V3 := cell_of HV.out 3
        have t2V4 := cell_of HV.out 4
        have t2W0 := cell_of HW.out 0
        have t2W1 := cell_of HW.out 1
        have t2W2 := cell_of HW.out 2
        have t2W3 := cell_of HW.out 3
        have t2W4 := cell_of HW.out 4
        simp only [List.getElem?_toArray, List.getElem?_cons_zero, List.getElem?_cons_succ] at t2V0 t2V1 t2V2 t2V3 t2V4 t2W0 t2W1 t2W2 t2W3 t2W4
        have frt2V := free_of HV.out
        have frt2W := free_of HW.out
        go_wp2_with fail
        refine (impl_VerifyVector k (q - 1) r v1 ((v2 + 1) % 2147483647) e1 y1 _ hk hqm hr wv1).mono ?_
        rw [G1.out]
        rintro e u8 ⟨rfl, b8⟩
        have NV : Hid (u8.heap[u2.heap.size]? = some (.cells #[.int .i64 r, .int .i64 v1, .int .i64 v2, .int .i64 e1, .int .i64 y1] 45 (0, 0))) := Lib.hid (cells_of_below b8 (by (repeat (first | (with_reducible exact HV.out) | (with_reducible exact HW.out) | (with_reducible exact HC.out) | (with_reducible exact HA.out) | ((with_reducible refine newBlk _ _ _ _ ?_); (simp; done)) | (with_reducible apply store4g) | (with_reducible apply store5g) | ((with_reducible refine store4ne ?_ ?_); (first | omega | (simp; omega))) | ((with_reducible refine store5ne ?_ ?_); (first | omega | (simp; omega)))  | (with_reducible refine drewBlk ?_) | (with_reducible refine oldBlk _ ?_)))))
        have NW : Hid (u8.heap[u2.heap.size + 1]? = some (.cells #[.int .i64 r, .int .i64 v1, .int .i64 ((v2 + 1) % 2147483647), .int .i64 e1, .int .i64 y1] 45 (0, 0))) := Lib.hid (cells_of_below b8 (by (repeat (first | (with_reducible exact HV.out) | (with_reducible exact HW.out) | (with_reducible exact HC.out) | (with_reducible exact HA.out) | ((with_reducible refine newBlk _ _ _ _ ?_); (simp; done)) | (with_reducible apply store4g) | (with_reducible apply store5g) | ((with_reducible refine store4ne ?_ ?_); (first | omega | (simp; omega))) | ((with_reducible refine store5ne ?_ ?_); (first | omega | (simp; omega)))  | (with_reducible refine drewBlk ?_) | (with_reducible refine oldBlk _ ?_)))))
        have NC : Hid (u8.heap[u3.heap.size]? = some (.cells #[.int .i64 0, .int .i64 0, .int .i64 k, .int .i64 l1] 30 (0, 0))) := Lib.hid (cells_of_below b8 (by (repeat (first | (with_reducible exact HV.out) | (with_reducible exact HW.out) | (with_reducible exact HC.out) | (with_reducible exact HA.out) | ((with_reducible refine newBlk _ _ _ _ ?_); (simp; done)) | (with_reducible apply store4g) | (with_reducible apply store5g) | ((with_reducible refine store4ne ?_ ?_); (first | omega | (simp; omega))) | ((with_reducible refine store5ne ?_ ?_); (first | omega | (simp; omega)))  | (with_reducible refine drewBlk ?_) | (with_reducible refine oldBlk _ ?_)))))
        have NA : Hid (u8.heap[u3.heap.size + 1]? = some (.cells #[.int .i64 0, .int .i64 e1, .int .i64 y1, .int .i64 t1] 48 (0, 0))) := Lib.hid (cells_of_below b8 (by (repeat (first | (with_reducible exact HV.out) | (with_reducible exact HW.out) | (with_reducible exact HC.out) | (with_reducible exact HA.out) | ((with_reducible refine newBlk _ _ _ _ ?_); (simp; done)) | (with_reducible apply store4g) | (with_reducible apply store5g) | ((with_reducible refine store4ne ?_ ?_); (first | omega | (simp; omega))) | ((with_reducible refine store5ne ?_ ?_); (first | omega | (simp; omega)))  | (with_reducible refine drewBlk ?_) | (with_reducible refine oldBlk _ ?_)))))
        have NB : Below w.heap.size w u8 := Below.next (by (repeat (first | (with_reducible exact B) | ((with_reducible refine store4below ?_ ?_); (first | omega | (simp; omega))) | ((with_reducible refine store5below ?_ ?_); (first | omega | (simp; omega))) | (with_reducible refine Below.drew ?_) | (with_reducible refine Below.al ?_ _)))) b8
        clear t2V0 t2V1 t2V2 t2V3 t2V4 t2W0 t2W1 t2W2 t2W3 t2W4 frt2V frt2W
        clear HV HW HC HA B b8
        have HV := NV
        have HW := NW
        have HC := NC
        have HA := NA
        have B := NB
        clear NV NW NC NA NB
        have zV8 := (Array.getElem?_eq_some_iff.1 HV.out).1
        have zW8 := (Array.getElem?_eq_some_iff.1 HW.out).1
        have zC8 := (Array.getElem?_eq_some_iff.1 HC.out).1
        have zA8 := (Array.getElem?_eq_some_iff.1 HA.out).1
        have zy8 := B.size
        have t3V0 := cell_of HV.out 0
        have t3V1 := cell_of HV.out 1
        have t3V2 := cell_of HV.out 2
        have t3V3 := cell_of HV.out 3
        have t3V4 := cell_of HV.out 4
        have t3W0 := cell_of HW.out 0
        have t3W1 := cell_of HW.out 1
        have t3W2 := cell_of HW.out 2
        have t3W3 := cell_of HW.out 3
        have t3W4 := cell_of HW.out 4
        simp only [List.getElem?_toArray, List.getElem?_cons_zero, List.getElem?_cons_succ] at t3V0 t3V1 t3V2 t3V3 t3V4 t3W0 t3W1 t3W2 t3W3 t3W4
        have frt3V := free_of HV.out
        have frt3W := free_of HW.out
        go_wp2_with fail
        refine (impl_VerifyVector k (q - 1 - 1000) r v1 v2 e1 y1 _ hk hqg hr wv1).mono ?_
        rw [G3.out]
        rintro e u9 ⟨rfl, b9⟩
        have NV : Hid (u9.heap[u2.heap.size]? = some (.cells #[.int .i64 r, .int .i64 v1, .int .i64 v2, .int .i64 e1, .int .i64 y1] 45 (0, 0))) := Lib.hid (cells_of_below b9 (by (repeat (first | (with_reducible exact HV.out) | (with_reducible exact HW.out) | (with_reducible exact HC.out) | (with_reducible exact HA.out) | ((with_reducible refine newBlk _ _ _ _ ?_); (simp; done)) | (with_reducible apply store4g) | (with_reducible apply store5g) | ((with_reducible refine store4ne ?_ ?_); (first | omega | (simp; omega))) | ((with_reducible refine store5ne ?_ ?_); (first | omega | (simp; omega)))  | (with_reducible refine drewBlk ?_) | (with_reducible refine oldBlk _ ?_)))))
        have NW : Hid (u9.heap[u2.heap.size + 1]? = some (.cells #[.int .i64 r, .int .i64 v1, .int .i64 ((v2 + 1) % 2147483647), .int .i64 e1, .int .i64 y1] 45 (0, 0))) := Lib.hid (cells_of_below b9 (by (repeat (first | (with_reducible exact HV.out) | (with_reducible exact HW.out) | (with_reducible exact HC.out) | (with_reducible exact HA.out) | ((with_reducible refine newBlk _ _ _ _ ?_); (simp; done)) | (with_reducible apply store4g) | (with_reducible apply store5g) | ((with_reducible refine store4ne ?_ ?_); (first | omega | (simp; omega))) | ((with_reducible refine store5ne ?_ ?_); (first | omega | (simp; omega)))  | (with_reducible refine drewBlk ?_) | (with_reducible refine oldBlk _ ?_)))))
        have NC : Hid (u9.heap[u3.heap.size]? = some (.cells #[.int .i64 0, .int .i64 0, .int .i64 k, .int .i64 l1] 30 (0, 0))) := Lib.hid (cells_of_below b9 (by (repeat (first | (with_reducible exact HV.out) | (with_reducible exact HW.out) | (with_reducible exact HC.out) | (with_reducible exact HA.out) | ((with_reducible refine newBlk _ _ _ _ ?_); (simp; done)) | (with_reducible apply store4g) | (with_reducible apply store5g) | ((with_reducible refine store4ne ?_ ?_); (first | omega | (simp; omega))) | ((with_reducible refine store5ne ?_ ?_); (first | omega | (simp; omega)))  | (with_reducible refine drewBlk ?_) | (with_reducible refine oldBlk _ ?_)))))
        have NA : Hid (u9.heap[u3.heap.size + 1]? = some (.cells #[.int .i64 0, .int .i64 e1, .int .i64 y1, .int .i64 t1] 48 (0, 0))) := Lib.hid (cells_of_below b9 (by (repeat (first | (with_reducible exact HV.out) | (with_reducible exact HW.out) | (with_reducible exact HC.out) | (with_reducible exact HA.out) | ((with_reducible refine newBlk _ _ _ _ ?_); (simp; done)) | (with_reducible apply store4g) | (with_reducible apply store5g) | ((with_reducible refine store4ne ?_ ?_); (first | omega | (simp; omega))) | ((with_reducible refine store5ne ?_ ?_); (first | omega | (simp; omega)))  | (with_reducible refine drewBlk ?_) | (with_reducible refine oldBlk _ ?_)))))
        have NB : Below w.heap.size w u9 := Below.next (by (repeat (first | (with_reducible exact B) | ((with_reducible refine store4below ?_ ?_); (first | omega | (simp; omega))) | ((with_reducible refine store5below ?_ ?_); (first | omega | (simp; omega))) | (with_reducible refine Below.drew ?_) | (with_reducible refine Below.al ?_ _)))) b9
        clear t3V0 t3V1 t3V2 t3V3 t3V4 t3W0 t3W1 t3W2 t3W3 t3W4 frt3V frt3W
        clear HV HW HC HA B b9
        have HV := NV
        have HW := NW
        have HC := NC
        have HA := NA
        have B := NB
        clear NV NW NC NA NB
        have zV9 := (Array.getElem?_eq_some_iff.1 HV.out).1
        have zW9 := (Array.getElem?_eq_some_iff.1 HW.out).1
        have zC9 := (Array.getElem?_eq_some_iff.1 HC.out).1
        have zA9 := (Array.getElem?_eq_some_iff.1 HA.out).1
        have zy9 := B.size
        go_wp2_with fail
        go_ret
        exact ⟨rfl, B⟩
    · skip
      by_cases hz : q = 0
      · subst hz
        go_wp2_with fail
        refine (impl_NewAuthVector k r 0 _ hk hr hq).mono ?_
        rintro e u2 ⟨rfl, b2⟩
        replace B := Below.al (Below.next B b2)
        clear b2
        go_wp2_with fail
        go_ret
        exact ⟨rfl, B _⟩
      · have hout : M.inR q 0 999999 = false := M.inR_false (by omega)
        go_wp2_with fail
        refine (impl_NewAuthVector k r q _ hk hr hq).mono ?_
        rw [show M.nv0 r q = 0 by unfold M.nv0; rw [hout]; rfl, show M.nv1 k r q = 0 by unfold M.nv1; rw [hout]; rfl, show M.nv2 k r q = 0 by unfold M.nv2; rw [hout]; rfl, show M.nv3 k r q = 0 by unfold M.nv3; rw [hout]; rfl, show M.nv4 k r q = 0 by unfold M.nv4; rw [hout]; rfl]
        rintro e u2 ⟨rfl, b2⟩
        replace B := Below.al (Below.next B b2)
        clear b2 hout
        have hzb : (q == 0) = false := by simpa using hz
        have hor : q < 1 ∨ 999999 < q := by omega
        rcases hor with hor | hor
        all_goals
          go_wp2_with fail
          go_ret
          exact ⟨rfl, B _⟩
  · go_enter Try.func4, Try.ntmps4
    go_wp2_with fail
    refine (laws_big_yes _ _ _ _ (by omega)).mono ?_
    rintro e w' ⟨rfl, rfl⟩
    go_wp2_with fail
    go_ret
    exact ⟨rfl, Below.refl _ _⟩

/-! The row: the frame round the walk. -/
theorem own : ownKnob Try.prog.godebug = none := by kernel_rfl
theorem laidOut : laidOutB Try.prog = true := by kernel_rfl
set_option maxRecDepth 100000 in
theorem lifted (os : Os) (started : os.Started) (H : Type) (enc : TypeId × Value → H) :
    ReturnsInHanded {} Try.checked os 4 .any (Rows.fnChallengeSpec.pre6 enc Try.prog Try.f4 Rows.fnChallengeRow.domain false) (Rows.fnChallengeSpec.post enc Try.prog Try.f4 false true false false) := by
  refine returnsInHanded_of_change (C := Try.checked) own started (by kernel_rfl) Try.func4
    (ChangeSpec.witness6 (enc := enc) (C := Try.checked) false ⟨#[], #[.slice none 0 0], []⟩ 8 (by kernel_rfl) (by kernel_rfl) (by kernel_rfl) (by kernel_rfl)) ?_
  intro W base args ds gs before hval0 hW hcnd _
  have hval : ∀ (j : Nat) t v, Try.f4.params[j]? = some t → args[j]? = some v → Value.okWide Try.prog W .any base t v := hval0
  have hW' := hW
  obtain ⟨p, q, hA0, hV, rfl, hfz, hnd⟩ := hW
  have hA : DataW.TrodAll enc Try.prog W 0 (fun _ => true) true Try.f4.params.toList args.toList ds p := hA0
  rw [Try.params4] at hA hval
  obtain ⟨v0, vs0, d0, ds0, p0, q0, hargs, rfl, rfl, h0, rr0⟩ := trodAll_cons hA
  obtain ⟨rfl, rfl, rfl⟩ := trodAll_nil rr0
  obtain rfl : args = #[v0] := by cases args; simp_all
  obtain ⟨rfl, rfl⟩ := trodVars_none hV
  have k0 := h0
  have lt0 : ∀ x ∈ p0, x.block < W.heap.size := by obtain ⟨m, hm⟩ := k0; exact DataW.trod_lt m _ _ _ hm
  obtain ⟨a0, len0, cap0, rfl⟩ := okWide_slice Try.underlying40 (hval 0 40 v0 rfl rfl)
  obtain ⟨z0, _, r0, w0⟩ := rd_of_trod Try.underlying40 Try.underlying5 (by kernel_rfl) (fun _ => rfl) h0
  clear hA0 hval0
  refine (walk _ z0 W r0 w0).mono fun e W' ⟨he, bel⟩ => ?_
  subst he
  exact ⟨_, rfl, _, _, _, [], _, [], hW', trodAll_mk1 (shut_bool Try.underlying4 _), (trodAll_cons_mk (Below.trod laidOut (by kernel_rfl) (of_decide_eq_true (by kernel_rfl)) k0 bel lt0) trodAll_mk0), rfl, bel.frame _, fun h => by cases h⟩
theorem over : Rows.fnChallengeRow.holds Try.pinned (OpenSpec.ofChange Rows.fnChallengeSpec) :=
  OpenClaim.holds_of_wide 4 Try.f4 rfl rfl rfl rfl rfl rfl rfl ⟨rfl, rfl, rfl, rfl, rfl⟩ rfl rfl rfl rfl rfl (by kernel_rfl) Try.func4 (by kernel_rfl)
    (of_decide_eq_true (by kernel_rfl)) (by unfold Func.isWrapper; first | (rw [if_pos (by decide +kernel)]; kernel_rfl) | (rw [if_neg (by decide +kernel)]; exact ⟨rfl, rfl⟩))
    (fun os started H enc _ => lifted os started H enc)
/-- THE STATEMENT -/
theorem proved : Rows.FnChallengeSaid := over
#print axioms proved
end Go.Proofs.Ytfenmicakmjelaa.lawFnChallenge
