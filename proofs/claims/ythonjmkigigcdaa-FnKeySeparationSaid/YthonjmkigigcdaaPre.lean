/-
  Contracts: key paths compared by their first steps.
-/
import Derived.Test.YthonjmkigigcdaaPath
namespace Go.Proofs.Ythonjmkigigcdaa
open Go.RowKit Go.ChangeShapes Go.WideShapes Go.ChangeAt Go.Deep

theorem getD_take (ys : List Int) (n j : Nat) (h : j < n) : (ys.take n).getD j 0 = ys.getD j 0 := by
  rw [List.getD_eq_getElem?_getD, List.getD_eq_getElem?_getD, List.getElem?_take, if_pos h]
/-- The first n elements, by the same array. -/
theorem Rd.sub {kd : IntKind} {w : World} {B : Option Addr} {m d n : Nat} {ys : List Int} (h : Rd kd w (.slice B m d) ys) (hm : m = ys.length) (hn : n ≤ m) : Rd kd w (.slice B n d) (ys.take n) := by
  obtain ⟨A, c, hv, h1, h2, h3⟩ := h
  injection hv with e1 e2 e3
  subst e1; subst e3
  have hl : (ys.take n).length = n := by simp; omega
  refine ⟨_, _, by rw [hl], by omega, h2, fun hp => ?_⟩
  rw [hl] at hp
  obtain ⟨b, off, hb, hw, hc⟩ := h3 (by omega)
  exact ⟨b, off, hb, hw, fun j hj => by rw [hl] at hj; rw [getD_take _ _ _ hj]; exact hc j (by omega)⟩
namespace M
theorem pre_long {a b : List Int} (h : b.length < a.length) : pre a b = false := by
  unfold pre; rw [decide_eq_false (by omega)]; rfl
theorem pre_eq {a b : List Int} (h : a.length ≤ b.length) : pre a b = eqL a (b.take a.length) := by
  unfold pre; rw [decide_eq_true h]; rfl
theorem pre_yes {a b : List Int} (h : a.length ≤ b.length) (e : EqTo a b a.length) : pre a b = true := by
  rw [pre_eq h]
  exact eqL_of_eqTo (by simp; omega) fun j hj => (e j hj).trans (getD_take b _ j hj).symm
theorem pre_no {a b : List Int} (h : a.length ≤ b.length) (k : Nat) (hk : k < a.length) (e : a.getD k 0 ≠ b.getD k 0) : pre a b = false := by
  rw [pre_eq h]
  exact eqL_ne k (by rw [getD_take b _ k hk]; exact e)
end M

set_option maxHeartbeats 2000000 in
theorem impl_IsPrefixPath (va vb : Value) (xs ys : List Int) (w : World) (ha : Rd .i64 w va xs) (hb : Rd .i64 w vb ys) :
    Calls Try.prog 24 #[.agg #[va], .agg #[vb]] w fun e w' => e = .returned (.bool (M.pre xs ys)) ∧ Below w.heap.size w w' := by
  obtain ⟨A, c, rfl, h1, h2, _⟩ := id ha
  obtain ⟨B, d, rfl, g1, g2, _⟩ := id hb
  unfold maxLen at h2 g2
  obtain ⟨n, hn⟩ : ∃ n, n = xs.length := ⟨_, rfl⟩
  obtain ⟨m, hm⟩ : ∃ m, m = ys.length := ⟨_, rfl⟩
  rw [← hn] at h1 ha ⊢
  rw [← hm] at g1 hb ⊢
  by_cases hle : n ≤ m
  · have hp := M.pre_eq (a := xs) (b := ys) (by omega)
    rw [← hn] at hp
    have HP := Lib.hid hp
    have RA := Lib.hid ha
    have RB := Lib.hid (Rd.sub hb hm hle)
    have i1 : (n : Int) ≤ (m : Int) := by omega
    have i2 : (n : Int) ≤ (d : Int) := by omega
    have i3 : (0 : Int) ≤ (n : Int) := by omega
    clear hp ha hb hn hm
    rcases B with _ | ⟨b, off, spot⟩
    all_goals
      go_enter Try.func24, Try.ntmps24
      go_wp2
      go_quiet ((go_at_call 41; exact Calls.quiet_of (impl_EqualInts _ _ _ _ _ (Rd.drewN ((RA.out.alloc _).alloc _) _) (Rd.drewN ((RB.out.alloc _).alloc _) _))))
      go_wp2
      go_ret
      exact ⟨by rw [HP.out]; rfl, (by repeat (first | (with_reducible exact Below.refl _ _) | (with_reducible refine Below.al ?_ _) | (with_reducible refine Below.dn ?_ _)))⟩
  · have HP := Lib.hid (M.pre_long (a := xs) (b := ys) (by omega))
    have i1 : ¬ (n : Int) ≤ (m : Int) := by omega
    clear hn hm ha hb
    go_enter Try.func24, Try.ntmps24
    go_wp2
    go_quiet (fail)
    go_wp2
    go_ret
    exact ⟨by rw [HP.out]; rfl, (by repeat (first | (with_reducible exact Below.refl _ _) | (with_reducible refine Below.al ?_ _) | (with_reducible refine Below.dn ?_ _)))⟩
set_option maxHeartbeats 2000000 in
theorem spec_IsPrefixPath (va vb : Value) (xs ys : List Int) (w : World) (ha : Rd .i64 w va xs) (hb : Rd .i64 w vb ys) :
    Calls Try.prog 23 #[.agg #[va], .agg #[vb]] w fun e w' => e = .returned (.bool (M.pre xs ys)) ∧ Below w.heap.size w w' := by
  obtain ⟨A, c, rfl, h1, h2, h3⟩ := ha
  obtain ⟨B, d, rfl, g1, g2, g3⟩ := hb
  unfold maxLen at h2 g2
  obtain ⟨n, hn⟩ : ∃ n, n = xs.length := ⟨_, rfl⟩
  obtain ⟨m, hm⟩ : ∃ m, m = ys.length := ⟨_, rfl⟩
  rw [← hn] at h1 h3 ⊢
  rw [← hm] at g1 g3 ⊢
  have H3 := Lib.hid h3
  have G3 := Lib.hid g3
  have HN := Lib.hid hn
  have HM := Lib.hid hm
  clear h3 g3 hn hm
  by_cases hle : n ≤ m
  · go_enter Try.func23, Try.ntmps23
    go_wp2
    go_loopw [5] (fun i wr => ∃ k q : Nat, k ≤ n ∧ i = .int .i64 k ∧ wr = ((w.alloc (.cells #[.slice A n c] 24)).alloc (.cells #[.slice B m d] 24)).drewN q ∧ EqTo xs ys k) (fun i _ => n - (intOf i).toNat)
    case atStart => exact ⟨0, 0, Nat.zero_le _, rfl, rfl, EqTo.zero _ _⟩
    case round =>
      obtain ⟨k, q, hk, rfl, rfl, heq⟩ := hrel
      by_cases hlt : k < n
      · obtain ⟨b, off, rfl, hbw, hcell⟩ := H3.out (by omega)
        obtain ⟨b', off', rfl, hbw', hcell'⟩ := G3.out (by omega)
        have bel := Below.al (Below.al (Below.refl w.heap.size w) (.cells #[.slice (some ⟨b, off, none⟩) n c] 24)) (.cells #[.slice (some ⟨b', off', none⟩) m d] 24)
        have c1 := (bel.cell (p := ⟨b, off + k, none⟩) hbw).trans (hcell k hlt)
        have c2 := (bel.cell (p := ⟨b', off' + k, none⟩) hbw').trans (hcell' k (by omega))
        clear hcell hcell' bel
        have i1 : (0 : Int) ≤ (k : Int) := by omega
        have i2 : (k : Int) < (n : Int) := by omega
        have i3 : (k : Int) < (m : Int) := by omega
        obtain ⟨x, hxx⟩ : ∃ x, x = xs.getD k 0 := ⟨_, rfl⟩
        obtain ⟨y, hyy⟩ : ∃ y, y = ys.getD k 0 := ⟨_, rfl⟩
        rw [← hxx] at c1
        rw [← hyy] at c2
        have HX := Lib.hid hxx
        have HY := Lib.hid hyy
        clear hxx hyy
        by_cases hxy : x = y
        · subst hxy
          have e1 : (x != x) = false := by simp
          go_wp2
          go_quiet (fail)
          go_wp2
          go_roundw
          case rel => exact ⟨k + 1, _, by omega, by go_num, rfl, heq.succ (HX.out.symm.trans HY.out)⟩
          case measure => simp [intOf]; omega
        · have e1 : (x != y) = true := by simp [hxy]
          have E2 := Lib.hid (M.pre_no (a := xs) (b := ys) (by rw [← HN.out, ← HM.out]; exact hle) k (by rw [← HN.out]; exact hlt) (by rw [← HX.out, ← HY.out]; exact hxy))
          go_wp2
          go_quiet (fail)
          go_wp2
          go_ret
          exact ⟨by rw [E2.out]; rfl, by simpa using Below.dn (Below.al (Below.al (Below.refl w.heap.size w) _) _) (q + nq)⟩
      · obtain rfl : k = n := by omega
        have E2 := Lib.hid (M.pre_yes (a := xs) (b := ys) (by rw [← HN.out, ← HM.out]; exact hle) (by rw [← HN.out]; exact heq))
        go_wp2
        go_ret
        exact ⟨by rw [E2.out]; rfl, (by repeat (first | (with_reducible exact Below.refl _ _) | (with_reducible refine Below.al ?_ _) | (with_reducible refine Below.dn ?_ _)))⟩
  · have HP := Lib.hid (M.pre_long (a := xs) (b := ys) (by rw [← HN.out, ← HM.out]; omega))
    go_enter Try.func23, Try.ntmps23
    go_wp2
    go_ret
    exact ⟨by rw [HP.out]; rfl, (by repeat (first | (with_reducible exact Below.refl _ _) | (with_reducible refine Below.al ?_ _) | (with_reducible refine Below.dn ?_ _)))⟩

end Go.Proofs.Ythonjmkigigcdaa
