/-
  Contracts: a byte slice copied; its length and bytes as numbers.
-/
import Derived.Test.YtgoelmhaobloaaaWords
import Derived.Test.YtgoelmhaobloaaaArith
namespace Go.Proofs.Ytgoelmhaobloaaa
open Go.RowKit

theorem infoByteB : (Try.prog.info? 5).map (fun i => (i.zero, i.size, i.bytes)) = some (some (.int .u8 0), 1, 1) := by kernel_rfl
theorem sizeByteB : (Try.prog.info? 5).map (·.size) = some 1 := by kernel_rfl
theorem infoIntB : (Try.prog.info? 3).map (fun i => (i.zero, i.size, i.bytes)) = some (some (.int .i64 0), 1, 8) := by kernel_rfl

/-- 'copy' onto an owned row from a slice of the same length that reads as numbers. -/
theorem run_copy_rd {P : Program} {kd : IntKind} (w : World) (dT ty elem T : TypeId) (hu : P.underlying dT = some (.slice elem)) (hsz : (P.info? elem).map (·.size) = some 1)
    (base g n cap c : Nat) (A : Option Addr) (zs xs : List Int) (hz : zs.length = n) (hx : xs.length = n) (ho : Own T kd w base (.slice (some ⟨g, 0, none⟩) n cap) zs) (hr : Rd kd w (.slice A n c) xs) :
    ∃ w2, (Builtin.copy_ #[dT, dT] ty #[.slice (some ⟨g, 0, none⟩) n cap, .slice A n c]).run P w = .ok (goInt n) w2 ∧ Own T kd w2 base (.slice (some ⟨g, 0, none⟩) n cap) xs ∧ w.grownBy w2 (some g) := by
  subst hz
  by_cases h0 : zs.length = 0
  · obtain rfl : zs = [] := List.eq_nil_of_length_eq_zero h0
    obtain rfl : xs = [] := List.eq_nil_of_length_eq_zero hx
    exact ⟨w, run_copy_none (P := P) w dT dT ty elem _ A 0 cap 0 c hu hsz (by simp), ho, World.grownBy.refl _ _⟩
  · rcases ho.2 with ⟨h', _⟩ | ⟨g', cap', cur, h', hb, hg, hnc, hm, hs, ht⟩
    · simp at h'
    · simp only [Value.slice.injEq, Option.some.injEq, Addr.mk.injEq, and_true, true_and] at h'
      obtain ⟨rfl, rfl⟩ := h'
      obtain ⟨A', c', hv, h1, h2, h3⟩ := hr
      simp only [Value.slice.injEq] at hv
      obtain ⟨rfl, _, rfl⟩ := hv
      obtain ⟨b, off, rfl, hbw, hcell⟩ := h3 (by omega)
      have hrun := run_copy_row (P := P) w dT dT ty elem g 0 zs.length cap ⟨b, off, none⟩ zs.length c cur T (xs.map (Value.int kd)) hu hsz hg (by simp [hx])
        (by
          intro j v hj
          have hjx : j < xs.length := by
            have := (List.getElem?_eq_some_iff.1 hj).1
            simpa using this
          rw [getD_map_int kd xs j hjx] at hj
          rw [Addr.add_lit]
          exact (hcell j hjx).trans hj)
        (by simp; omega) (ints_oneCell kd xs)
      refine ⟨w.setRow g (xs.map (Value.int kd) ++ cur.toList.drop zs.length).toArray, by simpa [hx] using hrun, ?_, ⟨rfl, rfl, rfl, by simp [World.setRow], fun k _ hk => setRow_other w g k _ (fun e => hk (by simp [e]))⟩⟩
      refine ⟨by simp, .inr ⟨g, cap, _, by rw [hx], hb, setRow_heap w g cur _ T _ hg, by omega, hm, ?_, ?_⟩⟩
      · simp
        omega
      · simp

set_option maxHeartbeats 1000000 in
theorem impl_copyBytes (va : Value) (xs : List Int) (w : World) (ha : Rd .u8 w va xs) (hlen : xs.length ≤ 1099511627776) :
    Calls Try.prog 56 #[va] w fun e w' => ∃ v, e = .returned v ∧ Own 5 .u8 w' w.heap.size v xs ∧ Below w.heap.size w w' := by
  have ha0 := ha
  obtain ⟨A, c, rfl, h1, h2, h3⟩ := ha
  obtain ⟨i0, hi, hz0, hz1, hz2⟩ := info_parts infoByteB
  obtain ⟨n, hn⟩ : ∃ n, n = xs.length := ⟨_, rfl⟩
  rw [← hn] at h1 h3 hlen ⊢
  have H3 := Lib.hid h3
  have HN := Lib.hid hn
  clear h3 hn h1 h2 H3
  go_enter Try.func56, Try.ntmps56
  go_wp2_with (first
    | (at_make
       refine wpList_make_full _ rfl _ _ 40 rfl w.heap.size 5 i0 (.int .u8 0) 1 Try.underlying40 hi hz0 hz1 .i64 .i64 n n n rfl rfl rfl rfl (by rw [hz2]; omega) (by unfold maxLen; omega) (Nat.le_refl _) ?_
       intro w1 hown1 hg1
       have hb1 : Below w.heap.size w w1 := (Below.refl _ _).grown hg1 (Nat.le_refl _) (by simp)
       have ho1 : Own 5 .u8 w1 w.heap.size (.slice (some ⟨w.heap.size, 0, none⟩) n n) (List.replicate n 0) := by
         unfold Own
         rw [List.length_replicate, List.map_replicate]
         simpa [Value.cells, toList_madeCells_one] using hown1
       obtain ⟨w2, hrun, ho2, hg2⟩ := run_copy_rd (P := Try.prog) w1 40 3 5 5 Try.underlying40 sizeByteB w.heap.size w.heap.size n n c A (List.replicate n 0) xs (by simp) HN.out.symm ho1 (by have h := ha0.below hb1; rw [← HN.out] at h; exact h)
       have hb2 : Below w.heap.size w w2 := Below.own (v := .slice (some ⟨w.heap.size, 0, none⟩) n n) hb1 hg2 ho1 (Nat.le_refl _)
       have HO := Lib.hid ho2
       clear ho1 ho2 hg2 hown1 hg1 ha0))
  go_ret
  exact ⟨_, rfl, HO.out, hb2⟩

set_option maxHeartbeats 1000000 in
theorem spec_BytesToInts (va : Value) (xs : List Int) (w : World) (ha : Rd .u8 w va xs) (hw : ∀ z ∈ xs, (Lit.int .u8 z).wf = true) (hlen : xs.length ≤ 1099511627776) :
    Calls Try.prog 54 #[va] w fun e w' => ∃ v, e = .returned v ∧ Own 3 .i64 w' w.heap.size v ((xs.length : Int) :: xs) ∧ Below w.heap.size w w' := by
  obtain ⟨A, c, rfl, h1, h2, h3⟩ := ha
  obtain ⟨i0, hi, hz0, hz1, hz2⟩ := info_parts infoIntB
  obtain ⟨n, hn⟩ : ∃ n, n = xs.length := ⟨_, rfl⟩
  rw [← hn] at h1 h3 hlen ⊢
  have H3 := Lib.hid h3
  have HN := Lib.hid hn
  have HW := Lib.hid hw
  clear h3 hn h1 h2 hw
  have ho0 : Own 3 .i64 (w.alloc (.cells #[.int .i64 (n : Int)] 3)) w.heap.size (.slice (some ⟨w.heap.size, 0, none⟩) 1 1) ((n : Int) :: xs.take 0) := Own.lit w w.heap.size [(n : Int)] (Nat.le_refl _) (by simp [maxLen])
  go_enter Try.func54, Try.ntmps54
  go_wp2
  go_loopw [3, 4] (fun v i wr => ∃ k : Nat, k ≤ n ∧ i = .int .i64 k ∧ Own 3 .i64 wr w.heap.size v ((n : Int) :: xs.take k) ∧ Below w.heap.size w wr) (fun _ i _ => n - (intOf i).toNat)
  case atStart => exact ⟨0, Nat.zero_le _, rfl, ho0, Below.al (Below.refl _ _) _⟩
  case round =>
    obtain ⟨k, hk, rfl, hown, hbel⟩ := hrel
    by_cases hlt : k < n
    · obtain ⟨b, off, rfl, hbw, hcell⟩ := H3.out (by omega)
      have c1 := (hbel.cell (p := ⟨b, off + k, none⟩) hbw).trans (hcell k hlt)
      clear hcell H3
      have hkx : k < xs.length := by rw [← HN.out]; exact hlt
      obtain ⟨x0, x1⟩ := bounds_u8 (HW.out _ (getD_mem xs k hkx))
      have hs := take_succ_getD xs k hkx
      have HS := Lib.hid hs
      have hkl : (xs.take k).length = k := by simp; omega
      have HK := Lib.hid hkl
      clear hs hkl hkx
      obtain ⟨x, hx⟩ : ∃ x, x = xs.getD k 0 := ⟨_, rfl⟩
      rw [← hx] at c1 x0 x1 HS
      clear hx
      have hl1 : Rd .i64 (wr.alloc (.cells #[.int .i64 x] 3)) (.slice (some ⟨wr.heap.size, 0, none⟩) 1 1) [x] := Rd.lit 3 wr [x] (by simp [maxLen])
      have ho1 := hown.below (Below.al (Below.refl _ wr) (.cells #[.int .i64 x] 3))
      go_wp2_with (at_builtin; refine wpList_append_rd _ rfl (.tmp 14) (.tmp 20) 22 rfl w.heap.size 3 i0 (.int .i64 0) 8 Try.underlying22 hi hz0 hz1 hz2 rfl _ _ ((n : Int) :: xs.take k) [x] rfl ho1 rfl hl1 (by rw [List.length_cons, HK.out]; simp [maxLen]; omega) (by rw [List.length_cons, HK.out]; simp; omega) (by have := hbel.size; simp; omega) ?_; intro v2 w2 hown2 hg2)
      have hb2 : Below w.heap.size w w2 := Below.own (Below.al hbel _) hg2 ho1 (Nat.le_refl _)
      have ho2 : Own 3 .i64 w2 w.heap.size v2 ((n : Int) :: xs.take (k + 1)) := by rw [HS.out]; exact hown2
      clear hown2 hg2 hl1 ho1 hown hbel
      have HO := Lib.hid ho2
      clear ho2
      go_wp2
      go_roundw
      case rel => exact ⟨k + 1, by omega, by go_num, HO.out, hb2⟩
      case measure => simp [intOf]; omega
    · obtain rfl : k = n := by omega
      have he : xs.take k = xs := by rw [HN.out]; exact List.take_length
      rw [he] at hown
      clear he
      go_wp2
      go_ret
      exact ⟨_, rfl, hown, hbel⟩

set_option maxHeartbeats 1000000 in
theorem impl_BytesToInts (va : Value) (xs : List Int) (w : World) (ha : Rd .u8 w va xs) (hw : ∀ z ∈ xs, (Lit.int .u8 z).wf = true) (hlen : xs.length ≤ 1099511627776) :
    Calls Try.prog 55 #[va] w fun e w' => ∃ v, e = .returned v ∧ Own 3 .i64 w' w.heap.size v ((xs.length : Int) :: xs) ∧ Below w.heap.size w w' := by
  obtain ⟨A, c, rfl, h1, h2, h3⟩ := ha
  obtain ⟨i0, hi, hz0, hz1, hz2⟩ := info_parts infoIntB
  obtain ⟨n, hn⟩ : ∃ n, n = xs.length := ⟨_, rfl⟩
  rw [← hn] at h1 h3 hlen ⊢
  have H3 := Lib.hid h3
  have HN := Lib.hid hn
  have HW := Lib.hid hw
  clear h3 hn h1 h2 hw
  go_enter Try.func55, Try.ntmps55
  go_wp2_with (first
    | (at_make
       refine wpList_make_own _ rfl _ _ 22 rfl w.heap.size 3 i0 (.int .i64 0) 1 Try.underlying22 hi hz0 hz1 .i64 .i64 ((n : Int) + 1) (n + 1) rfl rfl (by omega) (by rw [hz2]; omega) (by unfold maxLen; omega) (Nat.le_refl _) ?_
       intro w1 hown1 hg1
       have hb1 : Below w.heap.size w w1 := (Below.refl _ _).grown hg1 (Nat.le_refl _) (by simp)
       have ho1 : Own 3 .i64 (w1.alloc (.cells #[.int .i64 (n : Int)] 3)) w.heap.size (.slice (some ⟨w.heap.size, 0, none⟩) 0 (n + 1)) [] := Own.below (T := 3) (kd := .i64) (zs := []) hown1 (Below.al (Below.refl _ w1) _)
       have hl1 : Rd .i64 (w1.alloc (.cells #[.int .i64 (n : Int)] 3)) (.slice (some ⟨w1.heap.size, 0, none⟩) 1 1) [(n : Int)] := Rd.lit 3 w1 [(n : Int)] (by simp [maxLen]))
    | (at_builtin
       refine wpList_append_rd _ rfl (.tmp 10) (.tmp 13) 22 rfl w.heap.size 3 i0 (.int .i64 0) 8 Try.underlying22 hi hz0 hz1 hz2 rfl (.slice (some ⟨w.heap.size, 0, none⟩) 0 (n + 1)) (.slice (some ⟨w1.heap.size, 0, none⟩) 1 1) [] [(n : Int)] rfl ho1 rfl hl1 (by simp [maxLen]) (by simp) (by have := hb1.size; simp; omega) ?_
       intro v2 w2 hown2 hg2))
  have hb2 : Below w.heap.size w w2 := Below.own (Below.al hb1 _) hg2 ho1 (Nat.le_refl _)
  have ho2 : Own 3 .i64 w2 w.heap.size v2 ((n : Int) :: xs.take 0) := hown2
  clear hown2 hg2 hl1 ho1 hb1 hown1 hg1
  go_wp2
  go_loopw [3, 17] (fun v i wr => ∃ k : Nat, k ≤ n ∧ i = .int .i64 k ∧ Own 3 .i64 wr w.heap.size v ((n : Int) :: xs.take k) ∧ Below w.heap.size w wr) (fun _ i _ => n - (intOf i).toNat)
  case atStart => exact ⟨0, Nat.zero_le _, rfl, ho2, hb2⟩
  case round =>
    clear ho2 hb2
    obtain ⟨k, hk, rfl, hown, hbel⟩ := hrel
    by_cases hlt : k < n
    · obtain ⟨b, off, rfl, hbw, hcell⟩ := H3.out (by omega)
      have c1 := (hbel.cell (p := ⟨b, off + k, none⟩) hbw).trans (hcell k hlt)
      clear hcell H3
      have hkx : k < xs.length := by rw [← HN.out]; exact hlt
      obtain ⟨x0, x1⟩ := bounds_u8 (HW.out _ (getD_mem xs k hkx))
      have hs := take_succ_getD xs k hkx
      have HS := Lib.hid hs
      have hkl : (xs.take k).length = k := by simp; omega
      have HK := Lib.hid hkl
      clear hs hkl hkx
      obtain ⟨x, hx⟩ : ∃ x, x = xs.getD k 0 := ⟨_, rfl⟩
      rw [← hx] at c1 x0 x1 HS
      clear hx
      have hl1 : Rd .i64 (wr.alloc (.cells #[.int .i64 x] 3)) (.slice (some ⟨wr.heap.size, 0, none⟩) 1 1) [x] := Rd.lit 3 wr [x] (by simp [maxLen])
      have ho1 := hown.below (Below.al (Below.refl _ wr) (.cells #[.int .i64 x] 3))
      go_wp2_with (at_builtin; refine wpList_append_rd _ rfl (.tmp 21) (.tmp 24) 22 rfl w.heap.size 3 i0 (.int .i64 0) 8 Try.underlying22 hi hz0 hz1 hz2 rfl _ _ ((n : Int) :: xs.take k) [x] rfl ho1 rfl hl1 (by rw [List.length_cons, HK.out]; simp [maxLen]; omega) (by rw [List.length_cons, HK.out]; simp; omega) (by have := hbel.size; simp; omega) ?_; intro v2 w2 hown2 hg2)
      have hb2 : Below w.heap.size w w2 := Below.own (Below.al hbel _) hg2 ho1 (Nat.le_refl _)
      have ho2 : Own 3 .i64 w2 w.heap.size v2 ((n : Int) :: xs.take (k + 1)) := by rw [HS.out]; exact hown2
      clear hown2 hg2 hl1 ho1 hown hbel
      have HO := Lib.hid ho2
      clear ho2
      go_wp2
      go_roundw
      case rel => exact ⟨k + 1, by omega, by go_num, HO.out, hb2⟩
      case measure => simp [intOf]; omega
    · obtain rfl : k = n := by omega
      have he : xs.take k = xs := by rw [HN.out]; exact List.take_length
      rw [he] at hown
      clear he
      go_wp2
      go_ret
      exact ⟨_, rfl, hown, hbel⟩

end Go.Proofs.Ytgoelmhaobloaaa
