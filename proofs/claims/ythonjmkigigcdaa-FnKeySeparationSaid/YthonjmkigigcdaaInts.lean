/-
  Contracts: slices of numbers: compared, copied place by place, marked, held against the marks.
-/
import Derived.Test.YthonjmkigigcdaaWords
import Derived.Test.YthonjmkigigcdaaArith
import Derived.Deep.QuietTactic
import Derived.BigQuiet
namespace Go.Proofs.Ythonjmkigigcdaa
open Go.RowKit

theorem infoInt : (Try.prog.info? 3).map (fun i => (i.zero, i.size, i.bytes)) = some (some (.int .i64 0), 1, 8) := by kernel_rfl
theorem infoByte : (Try.prog.info? 5).map (fun i => (i.zero, i.size, i.bytes)) = some (some (.int .u8 0), 1, 1) := by kernel_rfl

set_option maxHeartbeats 1000000 in
theorem laws_eqIntS_core (A B : Option Addr) (c d n : Nat) (xs ys : List Int) (w : World) (hx : Hid (xs.length = n)) (hy : Hid (ys.length = n)) (hn : n ≤ 9223372036854775807)
    (h3 : Hid (0 < n → ∃ b off, A = some ⟨b, off, none⟩ ∧ b < w.heap.size ∧ ∀ j, j < n → w.cell? ⟨b, off + j, none⟩ = some (.int .i64 (xs.getD j 0))))
    (g3 : Hid (0 < n → ∃ b off, B = some ⟨b, off, none⟩ ∧ b < w.heap.size ∧ ∀ j, j < n → w.cell? ⟨b, off + j, none⟩ = some (.int .i64 (ys.getD j 0)))) :
    Calls Try.prog 31 #[.slice A n c, .slice B n d] w fun e w' => e = .returned (.bool (eqL xs ys)) ∧ ∃ m, w' = w.drewN m := by
  go_enter Try.func31, Try.ntmps31
  go_wp2
  go_loopw [5] (fun i wr => ∃ k m : Nat, k ≤ n ∧ i = .int .i64 k ∧ wr = w.drewN m ∧ EqTo xs ys k) (fun i _ => n - (intOf i).toNat)
  case atStart => exact ⟨0, 0, Nat.zero_le _, rfl, rfl, EqTo.zero _ _⟩
  case round =>
    obtain ⟨k, m, hk, rfl, rfl, heq⟩ := hrel
    by_cases hlt : k < n
    · obtain ⟨b, off, rfl, _, hcell⟩ := h3.out (by omega)
      obtain ⟨b', off', rfl, _, hcell'⟩ := g3.out (by omega)
      have c1 := hcell k hlt
      have c2 := hcell' k hlt
      clear hcell hcell' h3 g3
      have i1 : (0 : Int) ≤ (k : Int) := by omega
      have i2 : (k : Int) < (n : Int) := by omega
      obtain ⟨x, hxx⟩ : ∃ x, x = xs.getD k 0 := ⟨_, rfl⟩
      obtain ⟨y, hyy⟩ : ∃ y, y = ys.getD k 0 := ⟨_, rfl⟩
      rw [← hxx] at c1
      rw [← hyy] at c2
      have HX := Lib.hid hxx
      have HY := Lib.hid hyy
      clear hxx hyy
      by_cases hxy : x = y
      · subst hxy
        have e1 : (x != x) = false := by simp
        go_wp2
        go_quiet (fail)
        go_wp2
        go_roundw
        case rel => exact ⟨k + 1, _, by omega, by go_num, rfl, heq.succ (HX.out.symm.trans HY.out)⟩
        case measure => simp [intOf]; omega
      · have e1 : (x != y) = true := by simp [hxy]
        have e2 : eqL xs ys = false := eqL_ne k (by rw [← HX.out, ← HY.out]; exact hxy)
        have E2 := Lib.hid e2
        clear e2
        go_wp2
        go_quiet (fail)
        go_wp2
        go_ret
        exact ⟨by rw [E2.out]; rfl, m + nq, by simp⟩
    · obtain rfl : k = n := by omega
      have e2 : eqL xs ys = true := eqL_of_eqTo (hx.out.trans hy.out.symm) (by rw [hx.out]; exact heq)
      have E2 := Lib.hid e2
      clear e2
      go_wp2
      go_ret
      exact ⟨by rw [E2.out]; rfl, _, rfl⟩
theorem laws_eqIntS_lens (A B : Option Addr) (c d n m : Nat) (w : World) (h : n ≠ m) :
    Calls Try.prog 31 #[.slice A n c, .slice B m d] w fun e w' => e = .returned (.bool false) ∧ ∃ m, w' = w.drewN m := by
  have e1 : ((n : Int) != (m : Int)) = true := by simp; omega
  go_enter Try.func31, Try.ntmps31
  go_wp2
  go_ret
  exact ⟨rfl, 0, rfl⟩
theorem laws_eqIntS (va vb : Value) (xs ys : List Int) (w : World) (ha : Rd .i64 w va xs) (hb : Rd .i64 w vb ys) :
    Calls Try.prog 31 #[va, vb] w fun e w' => e = .returned (.bool (eqL xs ys)) ∧ ∃ m, w' = w.drewN m := by
  obtain ⟨A, c, rfl, h1, h2, h3⟩ := ha
  obtain ⟨B, d, rfl, g1, g2, g3⟩ := hb
  unfold maxLen at h2 g2
  by_cases hl : xs.length = ys.length
  · rw [← hl]
    rw [← hl] at g3
    exact laws_eqIntS_core A B c d xs.length xs ys w rfl hl.symm (by omega) h3 g3
  · rw [eqL_len hl]
    exact laws_eqIntS_lens A B c d _ _ w hl
theorem laws_eqIntS_same (va vb : Value) (xs : List Int) (w : World) (ha : Rd .i64 w va xs) (hb : Rd .i64 w vb xs) :
    Calls Try.prog 31 #[va, vb] w fun e w' => e = .returned (.bool true) ∧ ∃ m, w' = w.drewN m := by
  have h := laws_eqIntS va vb xs xs w ha hb
  rwa [eqL_same] at h





set_option maxHeartbeats 1000000 in
theorem slices_Equal_int_core (A B : Option Addr) (c d n : Nat) (xs ys : List Int) (w : World) (hx : Hid (xs.length = n)) (hy : Hid (ys.length = n)) (hn : n ≤ 9223372036854775807)
    (h3 : Hid (0 < n → ∃ b off, A = some ⟨b, off, none⟩ ∧ b < w.heap.size ∧ ∀ j, j < n → w.cell? ⟨b, off + j, none⟩ = some (.int .i64 (xs.getD j 0))))
    (g3 : Hid (0 < n → ∃ b off, B = some ⟨b, off, none⟩ ∧ b < w.heap.size ∧ ∀ j, j < n → w.cell? ⟨b, off + j, none⟩ = some (.int .i64 (ys.getD j 0)))) :
    Calls Try.prog 50 #[.slice A n c, .slice B n d] w fun e w' => e = .returned (.bool (eqL xs ys)) ∧ ∃ m, w' = w.drewN m := by
  go_enter Try.func50, Try.ntmps50
  go_wp2
  go_loopw [13] (fun i wr => ∃ k m : Nat, k ≤ n ∧ i = .int .i64 k ∧ wr = w.drewN m ∧ EqTo xs ys k) (fun i _ => n - (intOf i).toNat)
  case atStart => exact ⟨0, 0, Nat.zero_le _, rfl, rfl, EqTo.zero _ _⟩
  case round =>
    obtain ⟨k, m, hk, rfl, rfl, heq⟩ := hrel
    by_cases hlt : k < n
    · obtain ⟨b, off, rfl, _, hcell⟩ := h3.out (by omega)
      obtain ⟨b', off', rfl, _, hcell'⟩ := g3.out (by omega)
      have c1 := hcell k hlt
      have c2 := hcell' k hlt
      clear hcell hcell' h3 g3
      have i1 : (0 : Int) ≤ (k : Int) := by omega
      have i2 : (k : Int) < (n : Int) := by omega
      obtain ⟨x, hxx⟩ : ∃ x, x = xs.getD k 0 := ⟨_, rfl⟩
      obtain ⟨y, hyy⟩ : ∃ y, y = ys.getD k 0 := ⟨_, rfl⟩
      rw [← hxx] at c1
      rw [← hyy] at c2
      have HX := Lib.hid hxx
      have HY := Lib.hid hyy
      clear hxx hyy
      by_cases hxy : x = y
      · subst hxy
        have e1 : (x != x) = false := by simp
        go_wp2
        go_quiet (fail)
        go_wp2
        go_roundw
        case rel => exact ⟨k + 1, _, by omega, by go_num, rfl, heq.succ (HX.out.symm.trans HY.out)⟩
        case measure => simp [intOf]; omega
      · have e1 : (x != y) = true := by simp [hxy]
        have e2 : eqL xs ys = false := eqL_ne k (by rw [← HX.out, ← HY.out]; exact hxy)
        have E2 := Lib.hid e2
        clear e2
        go_wp2
        go_quiet (fail)
        go_wp2
        go_ret
        exact ⟨by rw [E2.out]; rfl, m + nq, by simp⟩
    · obtain rfl : k = n := by omega
      have e2 : eqL xs ys = true := eqL_of_eqTo (hx.out.trans hy.out.symm) (by rw [hx.out]; exact heq)
      have E2 := Lib.hid e2
      clear e2
      go_wp2
      go_ret
      exact ⟨by rw [E2.out]; rfl, _, rfl⟩
theorem slices_Equal_int_lens (A B : Option Addr) (c d n m : Nat) (w : World) (h : n ≠ m) :
    Calls Try.prog 50 #[.slice A n c, .slice B m d] w fun e w' => e = .returned (.bool false) ∧ ∃ m, w' = w.drewN m := by
  have e1 : ((n : Int) != (m : Int)) = true := by simp; omega
  go_enter Try.func50, Try.ntmps50
  go_wp2
  go_ret
  exact ⟨rfl, 0, rfl⟩
theorem slices_Equal_int (va vb : Value) (xs ys : List Int) (w : World) (ha : Rd .i64 w va xs) (hb : Rd .i64 w vb ys) :
    Calls Try.prog 50 #[va, vb] w fun e w' => e = .returned (.bool (eqL xs ys)) ∧ ∃ m, w' = w.drewN m := by
  obtain ⟨A, c, rfl, h1, h2, h3⟩ := ha
  obtain ⟨B, d, rfl, g1, g2, g3⟩ := hb
  unfold maxLen at h2 g2
  by_cases hl : xs.length = ys.length
  · rw [← hl]
    rw [← hl] at g3
    exact slices_Equal_int_core A B c d xs.length xs ys w rfl hl.symm (by omega) h3 g3
  · rw [eqL_len hl]
    exact slices_Equal_int_lens A B c d _ _ w hl
theorem slices_Equal_int_same (va vb : Value) (xs : List Int) (w : World) (ha : Rd .i64 w va xs) (hb : Rd .i64 w vb xs) :
    Calls Try.prog 50 #[va, vb] w fun e w' => e = .returned (.bool true) ∧ ∃ m, w' = w.drewN m := by
  have h := slices_Equal_int va vb xs xs w ha hb
  rwa [eqL_same] at h

theorem impl_EqualInts (va vb : Value) (xs ys : List Int) (w : World) (ha : Rd .i64 w va xs) (hb : Rd .i64 w vb ys) :
    Calls Try.prog 41 #[va, vb] w fun e w' => e = .returned (.bool (eqL xs ys)) ∧ ∃ m, w' = w.drewN m := by
  go_enter Try.func41, Try.ntmps41
  go_wp2_with (go_at_call 50; refine (slices_Equal_int _ _ _ _ _ ha hb).mono ?_; rintro e w' ⟨rfl, m, rfl⟩)
  go_ret
  exact ⟨rfl, _, rfl⟩

set_option maxHeartbeats 1000000 in
theorem laws_toIntS (va : Value) (xs : List Int) (w : World) (ha : Rd .i64 w va xs) (hlen : xs.length ≤ 1099511627776) :
    Calls Try.prog 39 #[va] w fun e w' => ∃ v, e = .returned v ∧ Own 3 .i64 w' w.heap.size v xs ∧ Below w.heap.size w w' := by
  obtain ⟨A, c, rfl, h1, h2, h3⟩ := ha
  obtain ⟨i0, hi, hz0, hz1, hz2⟩ := info_parts infoInt
  obtain ⟨n, hn⟩ : ∃ n, n = xs.length := ⟨_, rfl⟩
  rw [← hn] at h1 h3 hlen ⊢
  have H3 := Lib.hid h3
  have HN := Lib.hid hn
  clear h3 hn h1 h2
  go_enter Try.func39, Try.ntmps39
  go_wp2_with (at_make; refine wpList_make_full _ rfl _ _ 22 rfl w.heap.size 3 i0 (.int .i64 0) 1 Try.underlying22 hi hz0 hz1 .i64 .i64 n n n rfl rfl rfl rfl (by rw [hz2]; omega) (by unfold maxLen; omega) (Nat.le_refl _) ?_; intro w1 hown1 hg1)
  have hb1 : Below w.heap.size w w1 := (Below.refl _ _).grown hg1 (Nat.le_refl _) (by simp)
  have ho1 : Own 3 .i64 w1 w.heap.size (.slice (some ⟨w.heap.size, 0, none⟩) n n) (fill (fun j => xs.getD j 0) n 0) := by
    unfold Own
    rw [fill_length, fill_zero, List.map_replicate]
    simpa [Value.cells, toList_madeCells_one] using hown1
  clear hown1 hg1
  go_wp2
  go_loopw [4] (fun i wr => ∃ k : Nat, k ≤ n ∧ i = .int .i64 k ∧ Own 3 .i64 wr w.heap.size (.slice (some ⟨w.heap.size, 0, none⟩) n n) (fill (fun j => xs.getD j 0) n k) ∧ Below w.heap.size w wr) (fun i _ => n - (intOf i).toNat)
  case atStart => exact ⟨0, Nat.zero_le _, rfl, ho1, hb1⟩
  case round =>
    obtain ⟨k, hk, rfl, hown, hbel⟩ := hrel
    by_cases hlt : k < n
    · obtain ⟨b, off, rfl, hbw, hcell⟩ := H3.out (by omega)
      have c1 := (hbel.cell (p := ⟨b, off + k, none⟩) hbw).trans (hcell k hlt)
      have c2 := hown.cellAt (fill_length _ _ _).symm k (by rw [fill_length]; exact hlt)
      have c3 := hown.frozenAt (fill_length _ _ _).symm k
      have hs := Own.stored (by rw [fill_length]; exact hown) k (xs.getD k 0)
      rw [fill_length, fill_set (fun j => xs.getD j 0) n k] at hs
      have HS := Lib.hid hs
      have hbel' := hbel.setCell (p := ⟨w.heap.size, k, none⟩) (Nat.le_refl _) (.int .i64 (xs.getD k 0))
      have HB := Lib.hid hbel'
      clear hs hbel' hcell
      obtain ⟨y, hy⟩ : ∃ y, y = (fill (fun j => xs.getD j 0) n k).getD k 0 := ⟨_, rfl⟩
      rw [← hy] at c2
      clear hy
      obtain ⟨x, hx⟩ : ∃ x, x = xs.getD k 0 := ⟨_, rfl⟩
      rw [← hx] at c1 HS HB
      clear hx
      go_wp2
      go_roundw
      case rel => exact ⟨k + 1, by omega, by go_num, HS.out.1, HB.out⟩
      case measure => simp [intOf]; omega
    · obtain rfl : k = n := by omega
      have he : fill (fun j => xs.getD j 0) k k = xs := by rw [HN.out]; exact fill_list xs
      rw [he] at hown
      clear he
      go_wp2
      go_ret
      exact ⟨_, rfl, hown, hbel⟩


/-- The marks that are laid from k0 on. -/
def marksI (k0 : Int) (n : Nat) : List Int := (List.range n).map fun (j : Nat) => (k0 + j)
theorem marksI_length (k0 : Int) (n : Nat) : (marksI k0 n).length = n := by simp [marksI]
theorem marksI_getD (k0 : Int) (n j : Nat) (h : j < n) : (marksI k0 n).getD j 0 = (k0 + j) := by simp [marksI, List.getD, h]
set_option maxHeartbeats 1000000 in
theorem laws_markIntS (va : Value) (xs : List Int) (base : Nat) (k0 : Int) (w : World) (ha : Own 3 .i64 w base va xs) (hlen : xs.length ≤ 1099511627776) (hk0 : 0 ≤ k0) (hk1 : k0 ≤ 1099511627776) :
    Calls Try.prog 32 #[va, .int .i64 k0] w fun e w' => e = .returned (.int .i64 (k0 + xs.length)) ∧ Own 3 .i64 w' base va (marksI k0 xs.length) ∧ w.grownBy w' va.ownBlock := by
  obtain ⟨n, hn⟩ : ∃ n, n = xs.length := ⟨_, rfl⟩
  rcases ha.forms with ⟨rfl, rfl⟩ | ⟨g, cap, rfl, hbg, hgw, hc1, hc2⟩
  · simp at hn
    subst hn
    go_enter Try.func32, Try.ntmps32
    go_wp2
    refine wp_loop_rounds 1 ?_
    rw [rounds_succ]
    go_wp2
    go_ret
    exact ⟨by simp, by simpa [marksI] using Own.nil _ _ _ _, World.grownBy.refl _ _⟩
  · have HN := Lib.hid hn
    have ho := ha
    rw [← hn] at hlen ⊢
    rw [← fillOver_zero (fun (j : Nat) => (k0 + j)) xs] at ho
    rw [fillOver_length, ← hn] at ho
    clear ha hn hc1 hc2
    go_enter Try.func32, Try.ntmps32
    go_wp2
    go_loopw [1, 5] (fun q i wr => ∃ k : Nat, k ≤ n ∧ i = .int .i64 k ∧ q = .int .i64 (k0 + k) ∧ Own 3 .i64 wr base (.slice (some ⟨g, 0, none⟩) n cap) (fillOver (fun (j : Nat) => (k0 + j)) xs k) ∧ w.grownBy wr (some g)) (fun _ i _ => n - (intOf i).toNat)
    case atStart => exact ⟨0, Nat.zero_le _, rfl, by simp, ho, World.grownBy.refl _ _⟩
    case round =>
      obtain ⟨k, hk, rfl, rfl, hown, hgr⟩ := hrel
      have hl : n = (fillOver (fun (j : Nat) => (k0 + j)) xs k).length := by rw [fillOver_length]; exact HN.out
      by_cases hlt : k < n
      · have c2 := hown.cellAt hl k (by omega)
        have c3 := hown.frozenAt hl k
        have hs := Own.stored (by rw [← hl]; exact hown) k ((k0 + (k : Int)))
        rw [← hl, fillOver_set (fun (j : Nat) => (k0 + j)) xs k] at hs
        have hg2 : w.grownBy (wr.setCell ⟨g, k, none⟩ (.int .i64 ((k0 + (k : Int))))) (some g) :=
          ⟨hs.2.os.trans hgr.os, hs.2.tape.trans hgr.tape, hs.2.output.trans hgr.output, Nat.le_trans hgr.size hs.2.size, fun j hj hne => (hs.2.block j (Nat.lt_of_lt_of_le hj hgr.size) hne).trans (hgr.block j hj hne)⟩
        have HS := Lib.hid hs
        have HG := Lib.hid hg2
        clear hs hg2
        obtain ⟨y, hy⟩ : ∃ y, y = (fillOver (fun (j : Nat) => (k0 + j)) xs k).getD k 0 := ⟨_, rfl⟩
        rw [← hy] at c2
        clear hy hl
        go_wp2
        go_roundw
        case rel => exact ⟨k + 1, by omega, by go_num, by go_num, HS.out.1, HG.out⟩
        case measure => simp [intOf]; omega
      · obtain rfl : k = n := by omega
        have he : fillOver (fun (j : Nat) => (k0 + j)) xs k = marksI k0 k := by rw [HN.out]; exact fillOver_full _ xs
        rw [he] at hown
        clear he hl
        go_wp2
        go_ret
        exact ⟨rfl, hown, hgr⟩
set_option maxHeartbeats 1000000 in
theorem laws_heldIntS (va : Value) (n : Nat) (k0 : Int) (w : World) (ha : Rd .i64 w va (marksI k0 n)) (hlen : n ≤ 1099511627776) (hk0 : 0 ≤ k0) (hk1 : k0 ≤ 1099511627776) :
    Calls Try.prog 33 #[va, .int .i64 k0] w fun e w' => e = .returned (.int .i64 (k0 + n)) ∧ w = w' := by
  obtain ⟨A, c, rfl, h1, h2, h3⟩ := ha
  rw [marksI_length] at h1 h3 ⊢
  have H3 := Lib.hid h3
  clear h3 h1 h2
  go_enter Try.func33, Try.ntmps33
  go_wp2
  go_loop [1, 5] (fun q i => ∃ k : Nat, k ≤ n ∧ i = .int .i64 k ∧ q = .int .i64 (k0 + k)) (fun _ i => n - (intOf i).toNat)
  case atStart => exact ⟨0, Nat.zero_le _, rfl, by simp⟩
  case round =>
    obtain ⟨k, hk, rfl, rfl⟩ := hrel
    by_cases hlt : k < n
    · obtain ⟨b, off, rfl, hbw, hcell⟩ := H3.out (by omega)
      have c1 := hcell k hlt
      rw [marksI_getD k0 n k hlt] at c1
      clear hcell H3
      go_wp2
      go_round
      case rel => exact ⟨k + 1, by omega, by go_num, by go_num⟩
      case measure => simp [intOf]; omega
    · obtain rfl : k = n := by omega
      go_wp2
      go_ret
      exact ⟨rfl, rfl⟩

/-- The marks that are laid from k0 on. -/
def marksB (k0 : Int) (n : Nat) : List Int := (List.range n).map fun (j : Nat) => (IntKind.u8.wrap (k0 + j))
theorem marksB_length (k0 : Int) (n : Nat) : (marksB k0 n).length = n := by simp [marksB]
theorem marksB_getD (k0 : Int) (n j : Nat) (h : j < n) : (marksB k0 n).getD j 0 = (IntKind.u8.wrap (k0 + j)) := by simp [marksB, List.getD, h]

end Go.Proofs.Ythonjmkigigcdaa
