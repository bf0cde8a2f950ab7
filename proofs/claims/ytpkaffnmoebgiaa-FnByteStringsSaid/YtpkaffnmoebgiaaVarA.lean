/-
  Contracts: variable-length numbers and byte strings written, by the program and by the reference.
-/
import Derived.Test.YtpkaffnmoebgiaaVar
namespace Go.Proofs.Ytpkaffnmoebgiaa
open Go.RowKit

/-- What a written number leaves: the old bytes, then the number's. -/
def PreR (N m : Nat) (pre : List Int) : Prop := pre ++ uvB m = uvB N
theorem pre_len {N m : Nat} {pre : List Int} (hN : N ≤ 1000000000000) (h : PreR N m pre) : pre.length + 1 ≤ 6 := by
  have h1 := uvB_len6 hN
  have h2 := uvB_pos m
  have h3 := congrArg List.length h
  simp at h3
  omega
theorem pre_next {N m : Nat} {pre : List Int} (h : PreR N m pre) (hm : ¬ m < 128) : PreR N (m / 128) (pre ++ [((m : Int) % 128 + 128)]) := by
  unfold PreR at *
  rw [← h, uvB_hi hm]
  simp
theorem pre_last {N m : Nat} {pre : List Int} (h : PreR N m pre) (hm : m < 128) : pre ++ [(m : Int)] = uvB N := by unfold PreR at h; rw [← h, uvB_lo hm]

/-- The bytes of a list of numbers. -/
def encL (vs : List Int) : List Int := (vs.map uvO).flatten
theorem encL_len (vs : List Int) : (encL vs).length ≤ 6 * vs.length := by
  unfold encL
  induction vs with
  | nil => simp
  | cons x l ih => have := uvO_len x; simp at ih ⊢; omega
theorem encL_take_len (vs : List Int) (k : Nat) : (encL (vs.take k)).length ≤ 6 * k := by
  have h1 := encL_len (vs.take k)
  have h2 := List.length_take_le k vs
  omega
theorem encL_succ (vs : List Int) (k : Nat) (h : k < vs.length) : encL (vs.take (k + 1)) = encL (vs.take k) ++ uvO (vs.getD k 0) := by
  unfold encL
  rw [take_succ_getD vs k h]
  simp

set_option maxRecDepth 100000 in
set_option maxHeartbeats 4000000 in
theorem impl_AppendUvarint (va : Value) (xs : List Int) (n : Int) (w : World) (ha : Rd .u8 w va xs) (hn : (Lit.int .i64 n).wf = true) (hlen : xs.length ≤ 1099511627776) :
    Calls Try.prog 20 #[va, .int .i64 n] w fun e w' => ∃ v, e = .returned v ∧ Own 5 .u8 w' w.heap.size v (xs ++ uvO n) ∧ Below w.heap.size w w' := by
  have ha0 := ha
  obtain ⟨A, c, rfl, h1, h2, h3⟩ := ha
  obtain ⟨i0, hi, hz0, hz1, hz2⟩ := info_parts infoByteB
  obtain ⟨l, hl⟩ : ∃ l, l = xs.length := ⟨_, rfl⟩
  rw [← hl] at h1 h3 hlen ⊢
  have HN := Lib.hid hl
  have bn := wf_i64_bd hn
  clear h3 hl h1 h2 hn
  by_cases hin : 0 ≤ n ∧ n ≤ 1000000000000
  · obtain ⟨N, rfl⟩ : ∃ N : Nat, n = (N : Int) := ⟨n.toNat, by omega⟩
    have hN : N ≤ 1000000000000 := by omega
    rw [uvO_in hN]
    have hir : M.inR (N : Int) 0 1000000000000 = true := M.inR_true hin
    clear hin
    go_enter Try.func20, Try.ntmps20
    go_wp2_with (first
      | (at_make
         refine wpList_make_room _ rfl _ _ 22 rfl w.heap.size 5 i0 .u8 Try.underlying22 hi hz0 hz1 .i64 .i64 (l : Int) ((l : Int) + 6) l (l + 6) rfl rfl rfl (by omega) (by omega) (by rw [hz2]; omega) (by unfold maxLen; omega) (Nat.le_refl _) ?_
         intro w1 ho1 hg1
         have hb1 : Below w.heap.size w w1 := (Below.refl _ _).grown hg1 (Nat.le_refl _) (by simp)
         obtain ⟨w2, hrun, ho2, hg2⟩ := run_copy_rd (P := Try.prog) w1 22 3 5 5 Try.underlying22 sizeByteB w.heap.size w.heap.size l (l + 6) c A (List.replicate l 0) xs (by simp) HN.out.symm ho1 (by have h := ha0.below hb1; rw [← HN.out] at h; exact h)
         have hb2 : Below w.heap.size w w2 := Below.own (v := .slice (some ⟨w.heap.size, 0, none⟩) l (l + 6)) hb1 hg2 ho1 (Nat.le_refl _)
         have HO : Hid (Own 5 .u8 w2 w.heap.size (.slice (some ⟨w.heap.size, 0, none⟩) l (l + 6)) (xs ++ [])) := Lib.hid (by simpa using ho2)
         clear ho1 ho2 hg2 hg1 ha0)
      | (go_at_call 46; refine (impl_InRange _ _ _ _).mono ?_; rintro e w' ⟨rfl, rfl⟩))
    go_loopw [1, 5] (fun u v wr => ∃ (m : Nat) (pre : List Int), u = .int .i64 m ∧ m ≤ 1000000000000 ∧ PreR N m pre ∧ Own 5 .u8 wr w.heap.size v (xs ++ pre) ∧ Below w.heap.size w wr) (fun u _ _ => (intOf u).toNat)
    case atStart => exact ⟨N, [], rfl, hN, by simp [PreR], HO.out, hb2⟩
    case round =>
      clear HO hb2 hrun hb1 hir
      obtain ⟨m, pre, rfl, hm, hpre, hown, hbel⟩ := hrel
      have hpl := pre_len hN hpre
      clear hN bn
      have HL : Hid ((xs ++ pre).length = l + pre.length) := Lib.hid (by rw [HN.out]; simp)
      by_cases hlt : m < 128
      · have hs := pre_last hpre hlt
        have HS := Lib.hid hs
        clear hs hpre
        have M1 : (m : Int) ≤ 1000000000000 := by omega
        clear hm
        have hl1 : Rd .u8 (wr.alloc (.cells #[.int .u8 (m : Int)] 5)) (.slice (some ⟨wr.heap.size, 0, none⟩) 1 1) [(m : Int)] := Rd.lit 5 wr [(m : Int)] (by simp [maxLen])
        have ho1 := hown.below (Below.al (Below.refl _ wr) (.cells #[.int .u8 (m : Int)] 5))
        go_wp2_with (at_builtin; refine wpList_append_rd _ rfl (.tmp 30) (.tmp 33) 22 rfl w.heap.size 5 i0 (.int .u8 0) 1 Try.underlying22 hi hz0 hz1 hz2 rfl _ _ (xs ++ pre) [(m : Int)] rfl ho1 rfl hl1 (by rw [HL.out]; simp [maxLen]; omega) (by rw [HL.out]; simp; omega) (by have := hbel.size; simp; omega) ?_; intro v2 w2 hown2 hg2)
        have hb2 : Below w.heap.size w w2 := Below.own (Below.al hbel _) hg2 ho1 (Nat.le_refl _)
        rw [List.append_assoc, HS.out] at hown2
        clear hg2 hl1 ho1 hown hbel
        have HO := Lib.hid hown2
        clear hown2
        go_wp2
        go_ret
        exact ⟨_, rfl, HO.out, hb2⟩
      · have hs := pre_next hpre hlt
        have HS := Lib.hid hs
        clear hs hpre
        have M1 : (m : Int) ≤ 1000000000000 := by omega
        clear hm
        have hlt' : 128 ≤ m := by omega
        have hl1 : Rd .u8 (wr.alloc (.cells #[.int .u8 ((m : Int) % 128 + 128)] 5)) (.slice (some ⟨wr.heap.size, 0, none⟩) 1 1) [(m : Int) % 128 + 128] := Rd.lit 5 wr [(m : Int) % 128 + 128] (by simp [maxLen])
        have ho1 := hown.below (Below.al (Below.refl _ wr) (.cells #[.int .u8 ((m : Int) % 128 + 128)] 5))
        go_wp2_with (at_builtin; refine wpList_append_rd _ rfl (.tmp 21) (.tmp 26) 22 rfl w.heap.size 5 i0 (.int .u8 0) 1 Try.underlying22 hi hz0 hz1 hz2 rfl _ _ (xs ++ pre) [(m : Int) % 128 + 128] rfl ho1 rfl hl1 (by rw [HL.out]; simp [maxLen]; omega) (by rw [HL.out]; simp; omega) (by have := hbel.size; simp; omega) ?_; intro v2 w2 hown2 hg2)
        have hb2 : Below w.heap.size w w2 := Below.own (Below.al hbel _) hg2 ho1 (Nat.le_refl _)
        rw [List.append_assoc] at hown2
        clear hg2 hl1 ho1 hown hbel
        have HO := Lib.hid hown2
        clear hown2
        go_wp2
        go_roundw
        case rel => exact ⟨m / 128, _, by go_num, by omega, HS.out, HO.out, hb2⟩
        case measure => simp [intOf]; omega
  · rw [uvO_out hin, List.append_nil]
    have hir : M.inR n 0 1000000000000 = false := M.inR_false hin
    go_enter Try.func20, Try.ntmps20
    go_wp2_with (first
      | (at_make
         refine wpList_make_room _ rfl _ _ 22 rfl w.heap.size 5 i0 .u8 Try.underlying22 hi hz0 hz1 .i64 .i64 (l : Int) ((l : Int) + 6) l (l + 6) rfl rfl rfl (by omega) (by omega) (by rw [hz2]; omega) (by unfold maxLen; omega) (Nat.le_refl _) ?_
         intro w1 ho1 hg1
         have hb1 : Below w.heap.size w w1 := (Below.refl _ _).grown hg1 (Nat.le_refl _) (by simp)
         obtain ⟨w2, hrun, ho2, hg2⟩ := run_copy_rd (P := Try.prog) w1 22 3 5 5 Try.underlying22 sizeByteB w.heap.size w.heap.size l (l + 6) c A (List.replicate l 0) xs (by simp) HN.out.symm ho1 (by have h := ha0.below hb1; rw [← HN.out] at h; exact h)
         have hb2 : Below w.heap.size w w2 := Below.own (v := .slice (some ⟨w.heap.size, 0, none⟩) l (l + 6)) hb1 hg2 ho1 (Nat.le_refl _)
         have HO := Lib.hid ho2
         clear ho1 ho2 hg2 hg1 ha0)
      | (go_at_call 46; refine (impl_InRange _ _ _ _).mono ?_; rintro e w' ⟨rfl, rfl⟩))
    go_ret
    exact ⟨_, rfl, HO.out, hb2⟩

set_option maxRecDepth 100000 in
set_option maxHeartbeats 4000000 in
theorem spec_AppendUvarint (va : Value) (xs : List Int) (n : Int) (w : World) (ha : Rd .u8 w va xs) (hn : (Lit.int .i64 n).wf = true) (hlen : xs.length ≤ 1099511627776) :
    Calls Try.prog 19 #[va, .int .i64 n] w fun e w' => ∃ v, e = .returned v ∧ Own 5 .u8 w' w.heap.size v (xs ++ uvO n) ∧ Below w.heap.size w w' := by
  have ha0 := ha
  obtain ⟨A, c, rfl, h1, h2, h3⟩ := ha
  obtain ⟨i0, hi, hz0, hz1, hz2⟩ := info_parts infoByteB
  obtain ⟨l, hl⟩ : ∃ l, l = xs.length := ⟨_, rfl⟩
  rw [← hl] at h1 h3 hlen ⊢
  have HN := Lib.hid hl
  have bn := wf_i64_bd hn
  clear h3 hl h1 h2 hn
  by_cases hin : 0 ≤ n ∧ n ≤ 1000000000000
  · obtain ⟨N, rfl⟩ : ∃ N : Nat, n = (N : Int) := ⟨n.toNat, by omega⟩
    have hN : N ≤ 1000000000000 := by omega
    rw [uvO_in hN]
    have hir : M.inR (N : Int) 0 1000000000000 = true := M.inR_true hin
    clear hin
    have hl0 := ha0.below (Below.al (Below.refl _ w) (.cells #[] 5))
    have ho0 : Own 5 .u8 (w.alloc (.cells #[] 5)) w.heap.size (.slice (some ⟨w.heap.size, 0, none⟩) 0 0) [] := Own.lit w w.heap.size [] (Nat.le_refl _) (by simp [maxLen])
    rw [← HN.out] at hl0
    go_enter Try.func19, Try.ntmps19
    go_wp2_with (at_builtin; refine wpList_append_rd _ rfl (.tmp 6) (.tmp 7) 22 rfl w.heap.size 5 i0 (.int .u8 0) 1 Try.underlying22 hi hz0 hz1 hz2 rfl _ _ [] xs rfl ho0 rfl hl0 (by rw [← HN.out]; simp [maxLen]; omega) (by rw [← HN.out]; simp; omega) (by simp) ?_; intro v2 w2 hown2 hg2)
    have hb2 : Below w.heap.size w w2 := Below.own (Below.al (Below.refl _ w) _) hg2 ho0 (Nat.le_refl _)
    have HO : Hid (Own 5 .u8 w2 w.heap.size v2 (xs ++ [])) := Lib.hid (by simpa using hown2)
    clear hown2 hg2 ho0 hl0 ha0
    go_wp2_with (go_at_call 45; refine (spec_l1In _ _ _ _).mono ?_; rintro e w' ⟨rfl, rfl⟩)
    go_loopw [1, 5] (fun u v wr => ∃ (m : Nat) (pre : List Int), u = .int .i64 m ∧ m ≤ 1000000000000 ∧ PreR N m pre ∧ Own 5 .u8 wr w.heap.size v (xs ++ pre) ∧ Below w.heap.size w wr) (fun u _ _ => (intOf u).toNat)
    case atStart => exact ⟨N, [], rfl, hN, by simp [PreR], HO.out, hb2⟩
    case round =>
      clear HO hb2 hir
      obtain ⟨m, pre, rfl, hm, hpre, hown, hbel⟩ := hrel
      have hpl := pre_len hN hpre
      clear hN bn
      have HL : Hid ((xs ++ pre).length = l + pre.length) := Lib.hid (by rw [HN.out]; simp)
      by_cases hlt : m < 128
      · have hs := pre_last hpre hlt
        have HS := Lib.hid hs
        clear hs hpre
        have M1 : (m : Int) ≤ 1000000000000 := by omega
        clear hm
        have hl1 : Rd .u8 (wr.alloc (.cells #[.int .u8 (m : Int)] 5)) (.slice (some ⟨wr.heap.size, 0, none⟩) 1 1) [(m : Int)] := Rd.lit 5 wr [(m : Int)] (by simp [maxLen])
        have ho1 := hown.below (Below.al (Below.refl _ wr) (.cells #[.int .u8 (m : Int)] 5))
        go_wp2_with (at_builtin; refine wpList_append_rd _ rfl (.tmp 24) (.tmp 27) 22 rfl w.heap.size 5 i0 (.int .u8 0) 1 Try.underlying22 hi hz0 hz1 hz2 rfl _ _ (xs ++ pre) [(m : Int)] rfl ho1 rfl hl1 (by rw [HL.out]; simp [maxLen]; omega) (by rw [HL.out]; simp; omega) (by have := hbel.size; simp; omega) ?_; intro v2 w2 hown2 hg2)
        have hb2 : Below w.heap.size w w2 := Below.own (Below.al hbel _) hg2 ho1 (Nat.le_refl _)
        rw [List.append_assoc, HS.out] at hown2
        clear hg2 hl1 ho1 hown hbel
        have HO := Lib.hid hown2
        clear hown2
        go_wp2
        go_ret
        exact ⟨_, rfl, HO.out, hb2⟩
      · have hs := pre_next hpre hlt
        have HS := Lib.hid hs
        clear hs hpre
        have M1 : (m : Int) ≤ 1000000000000 := by omega
        clear hm
        have hlt' : 128 ≤ m := by omega
        have hm1 := and127_i64 (m : Int) (by omega) (by omega)
        have hm2 := or128_i64 (m : Int)
        have hl1 : Rd .u8 (wr.alloc (.cells #[.int .u8 ((m : Int) % 128 + 128)] 5)) (.slice (some ⟨wr.heap.size, 0, none⟩) 1 1) [(m : Int) % 128 + 128] := Rd.lit 5 wr [(m : Int) % 128 + 128] (by simp [maxLen])
        have ho1 := hown.below (Below.al (Below.refl _ wr) (.cells #[.int .u8 ((m : Int) % 128 + 128)] 5))
        go_wp2_with (at_builtin; refine wpList_append_rd _ rfl (.tmp 15) (.tmp 20) 22 rfl w.heap.size 5 i0 (.int .u8 0) 1 Try.underlying22 hi hz0 hz1 hz2 rfl _ _ (xs ++ pre) [(m : Int) % 128 + 128] rfl ho1 rfl hl1 (by rw [HL.out]; simp [maxLen]; omega) (by rw [HL.out]; simp; omega) (by have := hbel.size; simp; omega) ?_; intro v2 w2 hown2 hg2)
        have hb2 : Below w.heap.size w w2 := Below.own (Below.al hbel _) hg2 ho1 (Nat.le_refl _)
        rw [List.append_assoc] at hown2
        clear hg2 hl1 ho1 hown hbel hm1 hm2
        have HO := Lib.hid hown2
        clear hown2
        go_wp2
        go_roundw
        case rel => exact ⟨m / 128, _, by go_num, by omega, HS.out, HO.out, hb2⟩
        case measure => simp [intOf]; omega
  · rw [uvO_out hin]
    have hir : M.inR n 0 1000000000000 = false := M.inR_false hin
    have hl0 := ha0.below (Below.al (Below.refl _ w) (.cells #[] 5))
    have ho0 : Own 5 .u8 (w.alloc (.cells #[] 5)) w.heap.size (.slice (some ⟨w.heap.size, 0, none⟩) 0 0) [] := Own.lit w w.heap.size [] (Nat.le_refl _) (by simp [maxLen])
    rw [← HN.out] at hl0
    go_enter Try.func19, Try.ntmps19
    go_wp2_with (at_builtin; refine wpList_append_rd _ rfl (.tmp 6) (.tmp 7) 22 rfl w.heap.size 5 i0 (.int .u8 0) 1 Try.underlying22 hi hz0 hz1 hz2 rfl _ _ [] xs rfl ho0 rfl hl0 (by rw [← HN.out]; simp [maxLen]; omega) (by rw [← HN.out]; simp; omega) (by simp) ?_; intro v2 w2 hown2 hg2)
    have hb2 : Below w.heap.size w w2 := Below.own (Below.al (Below.refl _ w) _) hg2 ho0 (Nat.le_refl _)
    have HO : Hid (Own 5 .u8 w2 w.heap.size v2 (xs ++ [])) := Lib.hid (by simpa using hown2)
    clear hown2 hg2 ho0 hl0 ha0
    go_wp2_with (go_at_call 45; refine (spec_l1In _ _ _ _).mono ?_; rintro e w' ⟨rfl, rfl⟩)
    go_ret
    exact ⟨_, rfl, HO.out, hb2⟩

set_option maxRecDepth 100000 in
set_option maxHeartbeats 4000000 in
theorem spec_AppendBytes (va vb : Value) (xs ys : List Int) (w : World) (ha : Rd .u8 w va xs) (hb : Rd .u8 w vb ys) (hlen : xs.length ≤ 549755813888) (hlen2 : ys.length ≤ 549755813888) :
    Calls Try.prog 23 #[va, vb] w fun e w' => ∃ v, e = .returned v ∧ Own 5 .u8 w' w.heap.size v ((xs ++ uvO ys.length) ++ ys) ∧ Below w.heap.size w w' := by
  have ha0 := ha
  have hb0 := hb
  obtain ⟨A, c, rfl, h1, h2, _⟩ := ha
  obtain ⟨A', c', rfl, h1', h2', _⟩ := hb
  unfold maxLen at h2 h2'
  obtain ⟨i0, hi, hz0, hz1, hz2⟩ := info_parts infoByteB
  have hu := uvO_len (ys.length : Int)
  go_enter Try.func23, Try.ntmps23
  go_wp2_with fail
  refine (spec_AppendUvarint _ xs _ _ ha0 (WalkArith.wf_i64 (by omega)) (by omega)).mono ?_
  rintro e w1 ⟨v1, rfl, o1, b1⟩
  have hr1 := hb0.below b1
  go_wp2_with (at_builtin; refine wpList_append_rd _ rfl (.tmp 8) (.tmp 9) 22 rfl w.heap.size 5 i0 (.int .u8 0) 1 Try.underlying22 hi hz0 hz1 hz2 rfl _ _ (xs ++ uvO ys.length) ys rfl o1 rfl hr1 (by simp [maxLen]; omega) (by simp; omega) b1.size ?_; intro v2 w2 hown2 hg2)
  have hb2 : Below w.heap.size w w2 := Below.own b1 hg2 o1 (Nat.le_refl _)
  have HO := Lib.hid hown2
  clear hown2 hg2 o1 hr1
  go_ret
  exact ⟨_, rfl, HO.out, hb2⟩
set_option maxRecDepth 100000 in
set_option maxHeartbeats 4000000 in
theorem impl_AppendBytes (va vb : Value) (xs ys : List Int) (w : World) (ha : Rd .u8 w va xs) (hb : Rd .u8 w vb ys) (hlen : xs.length ≤ 549755813888) (hlen2 : ys.length ≤ 549755813888) :
    Calls Try.prog 24 #[va, vb] w fun e w' => ∃ v, e = .returned v ∧ Own 5 .u8 w' w.heap.size v ((xs ++ uvO ys.length) ++ ys) ∧ Below w.heap.size w w' := by
  have ha0 := ha
  have hb0 := hb
  obtain ⟨A, c, rfl, h1, h2, _⟩ := ha
  obtain ⟨A', c', rfl, h1', h2', _⟩ := hb
  unfold maxLen at h2 h2'
  obtain ⟨i0, hi, hz0, hz1, hz2⟩ := info_parts infoByteB
  have hu := uvO_len (ys.length : Int)
  go_enter Try.func24, Try.ntmps24
  go_wp2_with fail
  refine (impl_AppendUvarint _ xs _ _ ha0 (WalkArith.wf_i64 (by omega)) (by omega)).mono ?_
  rintro e w1 ⟨v1, rfl, o1, b1⟩
  have hr1 := hb0.below b1
  go_wp2_with (at_builtin; refine wpList_append_rd _ rfl (.tmp 10) (.tmp 11) 22 rfl w.heap.size 5 i0 (.int .u8 0) 1 Try.underlying22 hi hz0 hz1 hz2 rfl _ _ (xs ++ uvO ys.length) ys rfl o1 rfl hr1 (by simp [maxLen]; omega) (by simp; omega) b1.size ?_; intro v2 w2 hown2 hg2)
  have hb2 : Below w.heap.size w w2 := Below.own b1 hg2 o1 (Nat.le_refl _)
  have HO := Lib.hid hown2
  clear hown2 hg2 o1 hr1
  go_ret
  exact ⟨_, rfl, HO.out, hb2⟩
set_option maxRecDepth 100000 in
set_option maxHeartbeats 4000000 in
theorem spec_EncodeInts (va : Value) (vs : List Int) (w : World) (ha : Rd .i64 w va vs) (hw : ∀ z ∈ vs, (Lit.int .i64 z).wf = true) (hlen : vs.length ≤ 1048576) :
    Calls Try.prog 30 #[va] w fun e w' => ∃ v, e = .returned v ∧ Own 5 .u8 w' w.heap.size v (encL vs) ∧ Below w.heap.size w w' := by
  obtain ⟨A, c, rfl, h1, h2, h3⟩ := ha
  obtain ⟨i0, hi, hz0, hz1, hz2⟩ := info_parts infoByteB
  obtain ⟨n, hn⟩ : ∃ n, n = vs.length := ⟨_, rfl⟩
  rw [← hn] at h1 h3 hlen ⊢
  have H3 := Lib.hid h3
  have HN := Lib.hid hn
  have HW := Lib.hid hw
  clear h3 hn h1 h2 hw
  have ho0 : Own 5 .u8 (w.alloc (.cells #[] 5)) w.heap.size (.slice (some ⟨w.heap.size, 0, none⟩) 0 0) (encL (vs.take 0)) := Own.lit w w.heap.size [] (Nat.le_refl _) (by simp [maxLen])
  go_enter Try.func30, Try.ntmps30
  go_wp2
  go_loopw [3, 4] (fun v i wr => ∃ k : Nat, k ≤ n ∧ i = .int .i64 k ∧ Own 5 .u8 wr w.heap.size v (encL (vs.take k)) ∧ Below w.heap.size w wr) (fun _ i _ => n - (intOf i).toNat)
  case atStart => exact ⟨0, Nat.zero_le _, rfl, ho0, Below.al (Below.refl _ _) _⟩
  case round =>
    clear ho0
    obtain ⟨k, hk, rfl, hown, hbel⟩ := hrel
    by_cases hlt : k < n
    · obtain ⟨b, off, rfl, hbw, hcell⟩ := H3.out (by omega)
      have c1 := (hbel.cell (p := ⟨b, off + k, none⟩) hbw).trans (hcell k hlt)
      clear hcell H3
      have hkx : k < vs.length := by rw [← HN.out]; exact hlt
      have hwx := HW.out _ (getD_mem vs k hkx)
      have hs := encL_succ vs k hkx
      have HS := Lib.hid hs
      have hle := encL_take_len vs k
      clear hs hkx
      obtain ⟨x, hx⟩ : ∃ x, x = vs.getD k 0 := ⟨_, rfl⟩
      rw [← hx] at c1 hwx HS
      clear hx
      go_wp2_with fail
      refine (spec_AppendUvarint _ (encL (vs.take k)) _ _ hown.rd hwx (by omega)).mono ?_
      rintro e w1 ⟨v1, rfl, o1, b1⟩
      rw [← HS.out] at o1
      have hb2 := Below.next hbel b1
      have HO : Hid (Own 5 .u8 w1 w.heap.size v1 (encL (vs.take (k + 1)))) := Lib.hid (o1.le hbel.size)
      clear o1 b1 hown hbel
      go_wp2
      go_roundw
      case rel => exact ⟨k + 1, by omega, by go_num, HO.out, hb2⟩
      case measure => simp [intOf]; omega
    · obtain rfl : k = n := by omega
      have he : vs.take k = vs := by rw [HN.out]; exact List.take_length
      rw [he] at hown
      clear he
      have HO := Lib.hid hown
      clear hown
      go_wp2
      go_ret
      exact ⟨_, rfl, HO.out, hbel⟩
set_option maxRecDepth 100000 in
set_option maxHeartbeats 4000000 in
theorem impl_EncodeInts (va : Value) (vs : List Int) (w : World) (ha : Rd .i64 w va vs) (hw : ∀ z ∈ vs, (Lit.int .i64 z).wf = true) (hlen : vs.length ≤ 1048576) :
    Calls Try.prog 32 #[va] w fun e w' => ∃ v, e = .returned v ∧ Own 5 .u8 w' w.heap.size v (encL vs) ∧ Below w.heap.size w w' := by
  obtain ⟨A, c, rfl, h1, h2, h3⟩ := ha
  obtain ⟨i0, hi, hz0, hz1, hz2⟩ := info_parts infoByteB
  obtain ⟨n, hn⟩ : ∃ n, n = vs.length := ⟨_, rfl⟩
  rw [← hn] at h1 h3 hlen ⊢
  have H3 := Lib.hid h3
  have HN := Lib.hid hn
  have HW := Lib.hid hw
  clear h3 hn h1 h2 hw
  have ho0 : Own 5 .u8 (w.alloc (.cells #[] 5)) w.heap.size (.slice (some ⟨w.heap.size, 0, none⟩) 0 0) (encL (vs.take 0)) := Own.lit w w.heap.size [] (Nat.le_refl _) (by simp [maxLen])
  go_enter Try.func32, Try.ntmps32
  go_wp2
  go_loopw [3, 9] (fun v i wr => ∃ k : Nat, k ≤ n ∧ i = .int .i64 k ∧ Own 5 .u8 wr w.heap.size v (encL (vs.take k)) ∧ Below w.heap.size w wr) (fun _ i _ => n - (intOf i).toNat)
  case atStart => exact ⟨0, Nat.zero_le _, rfl, ho0, Below.al (Below.refl _ _) _⟩
  case round =>
    clear ho0
    obtain ⟨k, hk, rfl, hown, hbel⟩ := hrel
    by_cases hlt : k < n
    · obtain ⟨b, off, rfl, hbw, hcell⟩ := H3.out (by omega)
      have c1 := (hbel.cell (p := ⟨b, off + k, none⟩) hbw).trans (hcell k hlt)
      clear hcell H3
      have hkx : k < vs.length := by rw [← HN.out]; exact hlt
      have hwx := HW.out _ (getD_mem vs k hkx)
      have hs := encL_succ vs k hkx
      have HS := Lib.hid hs
      have hle := encL_take_len vs k
      clear hs hkx
      obtain ⟨x, hx⟩ : ∃ x, x = vs.getD k 0 := ⟨_, rfl⟩
      rw [← hx] at c1 hwx HS
      clear hx
      go_wp2_with fail
      refine (impl_AppendUvarint _ [] _ _ (Rd.nil _ _) hwx (by simp)).mono ?_
      rintro e w1 ⟨v1, rfl, o1, b1⟩
      have hr1 := o1.rd
      have hu := uvO_len x
      have how := hown.below b1
      have hbel1 := Below.next hbel b1
      rw [List.nil_append] at hr1
      go_wp2_with (at_builtin; refine wpList_append_rd _ rfl (.tmp 13) (.tmp 15) 22 rfl w.heap.size 5 i0 (.int .u8 0) 1 Try.underlying22 hi hz0 hz1 hz2 rfl _ _ (encL (vs.take k)) (uvO x) rfl how rfl hr1 (by unfold maxLen; omega) (by omega) hbel1.size ?_; intro v2 w2 hown2 hg2)
      have hb2 : Below w.heap.size w w2 := Below.own hbel1 hg2 how (Nat.le_refl _)
      rw [← HS.out] at hown2
      have HO := Lib.hid hown2
      clear hown2 hg2 how hown hbel hbel1 o1 b1 hr1
      go_wp2
      go_roundw
      case rel => exact ⟨k + 1, by omega, by go_num, HO.out, hb2⟩
      case measure => simp [intOf]; omega
    · obtain rfl : k = n := by omega
      have he : vs.take k = vs := by rw [HN.out]; exact List.take_length
      rw [he] at hown
      clear he
      have HO := Lib.hid hown
      clear hown
      go_wp2
      go_ret
      exact ⟨_, rfl, HO.out, hbel⟩

end Go.Proofs.Ytpkaffnmoebgiaa
