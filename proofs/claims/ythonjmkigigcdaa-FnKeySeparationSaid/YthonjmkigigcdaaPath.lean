/-
  Contracts: key paths copied, counted, tested, compared by their first steps.
-/
import Derived.Test.YthonjmkigigcdaaTree
import Derived.Deep.RegionHeld3
namespace Go.Proofs.Ythonjmkigigcdaa
open Go.RowKit Go.ChangeShapes Go.WideShapes Go.ChangeAt Go.Deep

theorem Own.put {T : TypeId} {kd : IntKind} {w : World} {base g i : Nat} {v u : Value} {zs : List Int} (h : Own T kd w base v zs) (hg : v.ownBlock ≠ some g) : Own T kd (w.setCell ⟨g, i, none⟩ u) base v zs :=
  h.grown (row := some g) ⟨rfl, rfl, rfl, by simp [World.setCell], fun k _ hne => by
    have hk : g ≠ k := fun e => hne (by rw [e])
    simp [World.setCell, Array.getElem?_modify, hk]⟩ (.inr hg)

theorem Own.drew {T : TypeId} {kd : IntKind} {w : World} {base : Nat} {v : Value} {zs : List Int} (h : Own T kd w base v zs) : Own T kd w.drew base v zs := h

namespace M
def left (n : Nat) (l : Int) : Int := if (n : Int) ≤ l then l - n else -1
def vPath (l : List Int) : Bool := decide (l.length ≤ 6) && l.all fun x => inR x 0 1000000000000
theorem vPath_long {l : List Int} (h : 6 < l.length) : vPath l = false := by
  unfold vPath; rw [decide_eq_false (by omega)]; rfl
theorem vPath_bad {l : List Int} (k : Nat) (hk : k < l.length) (h : inR (l.getD k 0) 0 1000000000000 = false) : vPath l = false := by
  have : (l.all fun x => inR x 0 1000000000000) = false := by
    rw [List.all_eq_false]
    exact ⟨_, getD_mem l k hk, by rw [h]; simp⟩
  unfold vPath; rw [this, Bool.and_false]
def upTo (l : List Int) (k : Nat) : Prop := ∀ j, j < k → inR (l.getD j 0) 0 1000000000000 = true
theorem upTo_zero (l : List Int) : upTo l 0 := fun j hj => absurd hj (by omega)
theorem upTo_succ {l : List Int} {k : Nat} (h : upTo l k) (e : inR (l.getD k 0) 0 1000000000000 = true) : upTo l (k + 1) := fun j hj => by
  by_cases hjk : j = k
  · rw [hjk]; exact e
  · exact h j (by omega)
theorem vPath_all {l : List Int} (h : upTo l l.length) : vPath l = decide (l.length ≤ 6) := by
  have : (l.all fun x => inR x 0 1000000000000) = true := by
    rw [List.all_eq_true]
    intro x hx
    obtain ⟨j, hj, rfl⟩ := List.getElem_of_mem hx
    have := h j hj
    rwa [List.getD_eq_getElem?_getD, List.getElem?_eq_getElem hj] at this
  unfold vPath; rw [this, Bool.and_true]
def pre (a b : List Int) : Bool := decide (a.length ≤ b.length) && eqL a (b.take a.length)
end M

theorem laws_szIntS (A : Option Addr) (n c : Nat) (l : Int) (w : World) (hn : n ≤ 9223372036854775807) (h0 : 0 ≤ l) (h1 : l ≤ 1099511627776) :
    Calls Try.prog 37 #[.slice A n c, .int .i64 l] w fun e w' => e = .returned (.int .i64 (M.left n l)) ∧ w = w' := by
  unfold M.left
  by_cases hl : (n : Int) ≤ l
  · rw [if_pos hl]
    go_enter Try.func37, Try.ntmps37
    go_wp2
    go_ret
    exact ⟨rfl, rfl⟩
  · rw [if_neg hl]
    go_enter Try.func37, Try.ntmps37
    go_wp2
    go_ret
    exact ⟨rfl, rfl⟩
theorem laws_szKeyPath (A : Option Addr) (n c : Nat) (l : Int) (w : World) (hn : n ≤ 9223372036854775807) (h0 : 0 ≤ l) (h1 : l ≤ 1099511627776) :
    Calls Try.prog 19 #[.agg #[.slice A n c], .int .i64 l] w fun e w' => e = .returned (.int .i64 (M.left n l)) ∧ Below w.heap.size w w' := by
  have hb : M.left n l = -1 ∨ 0 ≤ M.left n l := by unfold M.left; by_cases hl : (n : Int) ≤ l <;> simp [hl]
  rcases hb with hb | hb
  · go_enter Try.func19, Try.ntmps19
    go_wp2_with fail
    refine (laws_szIntS _ _ _ _ _ hn h0 h1).mono ?_
    rw [hb]
    rintro e w' ⟨rfl, rfl⟩
    go_wp2
    go_ret
    exact ⟨by rw [hb]; rfl, (by repeat (first | (with_reducible exact Below.refl _ _) | (with_reducible refine Below.al ?_ _) | (with_reducible refine Below.dn ?_ _)))⟩
  · go_enter Try.func19, Try.ntmps19
    go_wp2_with fail
    refine (laws_szIntS _ _ _ _ _ hn h0 h1).mono ?_
    rintro e w' ⟨rfl, rfl⟩
    go_wp2
    go_ret
    exact ⟨rfl, (by repeat (first | (with_reducible exact Below.refl _ _) | (with_reducible refine Below.al ?_ _) | (with_reducible refine Below.dn ?_ _)))⟩
theorem laws_toKeyPath (va : Value) (xs : List Int) (w : World) (ha : Rd .i64 w va xs) (hlen : xs.length ≤ 1099511627776) :
    Calls Try.prog 21 #[.agg #[va]] w fun e w' => ∃ v, e = .returned (.agg #[v]) ∧ Own 3 .i64 w' w.heap.size v xs ∧ Below w.heap.size w w' := by
  obtain ⟨A, c, rfl, _, _, _⟩ := id ha
  have HP := Lib.hid (oldBlk (.cells #[.slice none 0 0] 24) (newBlk (w.alloc (.cells #[.slice A xs.length c] 33)) #[.slice none 0 0] 24 (w.heap.size + 1) (by simp)))
  have HQ := Lib.hid (newBlk ((w.alloc (.cells #[.slice A xs.length c] 33)).alloc (.cells #[.slice none 0 0] 24)) #[.slice none 0 0] 24 (w.heap.size + 1 + 1) (by simp))
  go_enter Try.func21, Try.ntmps21
  go_wp2_with fail
  refine (laws_toIntS _ xs _ (((ha.alloc _).alloc _).alloc _) hlen).mono ?_
  rintro e u1 ⟨v, rfl, o1, b1⟩
  have cP := cell_of (cells_of_below b1 HP.out) 0
  have cQ := cell_of (cells_of_below b1 HQ.out) 0
  simp only [List.getElem?_toArray, List.getElem?_cons_zero] at cP cQ
  have fP := free_of (cells_of_below b1 HP.out)
  have fQ := free_of (cells_of_below b1 HQ.out)
  have a1 := blk_lo (g := w.heap.size + 1) o1 (by simp)
  have a2 := blk_lo (g := w.heap.size + 1 + 1) o1 (by simp)
  have lz : w.heap.size + 1 + 1 < u1.heap.size := (Array.getElem?_eq_some_iff.1 (cells_of_below b1 HQ.out)).1
  have o2 := Lib.hid (((o1.put (i := 0) (u := v) a2).put (i := 0) (u := v) a1).le (base' := w.heap.size) (by simp; omega))
  have B0 : Below w.heap.size w u1 := Below.next (by repeat (first | (with_reducible exact Below.refl _ _) | (with_reducible refine Below.al ?_ _) | (with_reducible refine Below.dn ?_ _))) b1
  obtain ⟨A1, c1, rfl, _, _, _⟩ := id o1.rd
  clear o1 b1
  go_wp2
  refine bodyPost_ret (v := .agg #[.slice A1 xs.length c1]) (by simp [results, Try.results21, go_sem, *]) rfl ⟨_, rfl, o2.out, ?_⟩
  exact (by repeat (first | (with_reducible exact B0) | (with_reducible refine Below.st ?_ _ _ _ (by omega)) | (with_reducible refine Below.al ?_ _) | (with_reducible refine Below.dn ?_ _) | (with_reducible refine Below.drew ?_)))
set_option maxHeartbeats 1000000 in
theorem impl_IsValidKeyPath (va : Value) (xs : List Int) (w : World) (ha : Rd .i64 w va xs) :
    Calls Try.prog 22 #[.agg #[va]] w fun e w' => e = .returned (.bool (M.vPath xs)) ∧ Below w.heap.size w w' := by
  obtain ⟨A, c, rfl, h1, h2, h3⟩ := ha
  unfold maxLen at h2
  by_cases h6 : 6 < xs.length
  · rw [M.vPath_long h6]
    go_enter Try.func22, Try.ntmps22
    go_wp2
    go_ret
    exact ⟨rfl, (by repeat (first | (with_reducible exact Below.refl _ _) | (with_reducible refine Below.al ?_ _) | (with_reducible refine Below.dn ?_ _)))⟩
  obtain ⟨n, hn⟩ : ∃ n, n = xs.length := ⟨_, rfl⟩
  rw [← hn] at h1 h3 h6 ⊢
  have H3 := Lib.hid h3
  have HN := Lib.hid hn
  have HP := Lib.hid (newBlk w #[.slice A n c] 24 w.heap.size rfl)
  clear h3 hn
  go_enter Try.func22, Try.ntmps22
  go_wp2
  go_loopw [12] (fun i wr => ∃ k : Nat, k ≤ n ∧ i = .int .i64 k ∧ wr = w.alloc (.cells #[.slice A n c] 24) ∧ M.upTo xs k) (fun i _ => n - (intOf i).toNat)
  case atStart => exact ⟨0, Nat.zero_le _, rfl, rfl, M.upTo_zero _⟩
  case round =>
    obtain ⟨k, hk, rfl, rfl, hup⟩ := hrel
    by_cases hlt : k < n
    · obtain ⟨b, off, rfl, hbw, hcell⟩ := H3.out (by omega)
      have c1 := ((Below.al (Below.refl w.heap.size w) (.cells #[.slice (some ⟨b, off, none⟩) n c] 24)).cell (p := ⟨b, off + k, none⟩) hbw).trans (hcell k hlt)
      clear hcell H3
      cases hin : M.inR (xs.getD k 0) 0 1000000000000
      · have hbad := Lib.hid (M.vPath_bad k (by rw [← HN.out]; exact hlt) hin)
        obtain ⟨x, hx⟩ : ∃ x, x = xs.getD k 0 := ⟨_, rfl⟩
        rw [← hx] at c1 hin
        clear hx
        go_wp2_with fail
        refine (impl_InRange _ _ _ _).mono ?_
        rw [hin]
        rintro e w' ⟨rfl, rfl⟩
        go_wp2
        go_ret
        exact ⟨by rw [hbad.out]; rfl, (by repeat (first | (with_reducible exact Below.refl _ _) | (with_reducible refine Below.al ?_ _) | (with_reducible refine Below.dn ?_ _)))⟩
      · have hs := Lib.hid (M.upTo_succ hup hin)
        obtain ⟨x, hx⟩ : ∃ x, x = xs.getD k 0 := ⟨_, rfl⟩
        rw [← hx] at c1 hin
        clear hx
        go_wp2_with fail
        refine (impl_InRange _ _ _ _).mono ?_
        rw [hin]
        rintro e w' ⟨rfl, rfl⟩
        go_wp2
        go_roundw
        case rel => exact ⟨k + 1, by omega, by go_num, by first | trivial | rfl, hs.out⟩
        case measure => simp [intOf]; omega
    · obtain rfl : k = n := by omega
      have he := Lib.hid (M.vPath_all (l := xs) (by rw [← HN.out]; exact hup))
      have hd : decide (xs.length ≤ 6) = true := by rw [← HN.out]; exact decide_eq_true (by omega)
      go_wp2
      go_ret
      exact ⟨by rw [he.out, hd]; rfl, (by repeat (first | (with_reducible exact Below.refl _ _) | (with_reducible refine Below.al ?_ _) | (with_reducible refine Below.dn ?_ _)))⟩
set_option maxHeartbeats 1000000 in
theorem spec_IsValidKeyPath (va : Value) (xs : List Int) (w : World) (ha : Rd .i64 w va xs) :
    Calls Try.prog 20 #[.agg #[va]] w fun e w' => e = .returned (.bool (M.vPath xs)) ∧ Below w.heap.size w w' := by
  obtain ⟨A, c, rfl, h1, h2, h3⟩ := ha
  unfold maxLen at h2
  obtain ⟨n, hn⟩ : ∃ n, n = xs.length := ⟨_, rfl⟩
  rw [← hn] at h1 h3 ⊢
  have H3 := Lib.hid h3
  have HN := Lib.hid hn
  have HP := Lib.hid (newBlk w #[.slice A n c] 24 w.heap.size rfl)
  clear h3 hn
  go_enter Try.func20, Try.ntmps20
  go_wp2
  go_loopw [3] (fun i wr => ∃ k : Nat, k ≤ n ∧ i = .int .i64 k ∧ wr = w.alloc (.cells #[.slice A n c] 24) ∧ M.upTo xs k) (fun i _ => n - (intOf i).toNat)
  case atStart => exact ⟨0, Nat.zero_le _, rfl, rfl, M.upTo_zero _⟩
  case round =>
    obtain ⟨k, hk, rfl, rfl, hup⟩ := hrel
    by_cases hlt : k < n
    · obtain ⟨b, off, rfl, hbw, hcell⟩ := H3.out (by omega)
      have c1 := ((Below.al (Below.refl w.heap.size w) (.cells #[.slice (some ⟨b, off, none⟩) n c] 24)).cell (p := ⟨b, off + k, none⟩) hbw).trans (hcell k hlt)
      clear hcell H3
      cases hin : M.inR (xs.getD k 0) 0 1000000000000
      · have hbad := Lib.hid (M.vPath_bad k (by rw [← HN.out]; exact hlt) hin)
        obtain ⟨x, hx⟩ : ∃ x, x = xs.getD k 0 := ⟨_, rfl⟩
        rw [← hx] at c1 hin
        clear hx
        go_wp2_with fail
        refine (spec_l1In _ _ _ _).mono ?_
        rw [hin]
        rintro e w' ⟨rfl, rfl⟩
        go_wp2
        go_ret
        exact ⟨by rw [hbad.out]; rfl, (by repeat (first | (with_reducible exact Below.refl _ _) | (with_reducible refine Below.al ?_ _) | (with_reducible refine Below.dn ?_ _)))⟩
      · have hs := Lib.hid (M.upTo_succ hup hin)
        obtain ⟨x, hx⟩ : ∃ x, x = xs.getD k 0 := ⟨_, rfl⟩
        rw [← hx] at c1 hin
        clear hx
        go_wp2_with fail
        refine (spec_l1In _ _ _ _).mono ?_
        rw [hin]
        rintro e w' ⟨rfl, rfl⟩
        go_wp2
        go_roundw
        case rel => exact ⟨k + 1, by omega, by go_num, by first | trivial | rfl, hs.out⟩
        case measure => simp [intOf]; omega
    · obtain rfl : k = n := by omega
      have he := Lib.hid (M.vPath_all (l := xs) (by rw [← HN.out]; exact hup))
      by_cases h6 : k ≤ 6
      · have hd : decide (xs.length ≤ 6) = true := by rw [← HN.out]; exact decide_eq_true (by omega)
        have hi : decide ((k : Int) ≤ 6) = true := decide_eq_true (by omega)
        go_wp2
        go_ret
        exact ⟨by rw [he.out, hd]; rfl, (by repeat (first | (with_reducible exact Below.refl _ _) | (with_reducible refine Below.al ?_ _) | (with_reducible refine Below.dn ?_ _)))⟩
      · have hd : decide (xs.length ≤ 6) = false := by rw [← HN.out]; exact decide_eq_false (by omega)
        have hi : decide ((k : Int) ≤ 6) = false := decide_eq_false (by omega)
        go_wp2
        go_ret
        exact ⟨by rw [he.out, hd]; rfl, (by repeat (first | (with_reducible exact Below.refl _ _) | (with_reducible refine Below.al ?_ _) | (with_reducible refine Below.dn ?_ _)))⟩

end Go.Proofs.Ythonjmkigigcdaa
