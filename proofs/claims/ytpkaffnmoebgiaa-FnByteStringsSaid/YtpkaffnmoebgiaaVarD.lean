/-
  Contracts: lists of numbers read, by the program and by the reference.
-/
import Derived.Test.YtpkaffnmoebgiaaVarR
namespace Go.Proofs.Ytpkaffnmoebgiaa
open Go.RowKit

/-- Reading r more numbers from place p on, acc read so far. -/
def decI (xs : List Int) : Nat → Int → List Int → List Int × Int × Bool
  | 0, p, acc => (acc, p, true)
  | r + 1, p, acc => if (rdUv xs p).2.2 = true then decI xs r (rdUv xs p).2.1 (acc ++ [(rdUv xs p).1]) else ([], 0, false)
def decT (xs : List Int) (a n : Int) : List Int × Int × Bool := if (0 ≤ n ∧ n ≤ 100) ∧ (0 ≤ a ∧ a ≤ xs.length) then decI xs n.toNat a [] else ([], 0, false)
theorem decI_yes {xs : List Int} {r : Nat} {p R1 R2 : Int} {acc : List Int} (h : rdUv xs p = (R1, R2, true)) : decI xs (r + 1) p acc = decI xs r R2 (acc ++ [R1]) := by rw [decI, h]; simp
theorem decI_no {xs : List Int} {r : Nat} {p R1 R2 : Int} {acc : List Int} (h : rdUv xs p = (R1, R2, false)) : decI xs (r + 1) p acc = ([], 0, false) := by rw [decI, h]; simp
theorem decI_len (xs : List Int) (r : Nat) : ∀ (p : Int) (acc : List Int), (decI xs r p acc).1.length ≤ acc.length + r := by
  induction r with
  | zero => intro p acc; simp [decI]
  | succ r ih =>
    intro p acc
    rw [decI]
    split
    · have := ih (rdUv xs p).2.1 (acc ++ [(rdUv xs p).1])
      simp at this
      omega
    · simp
theorem decT_len (xs : List Int) (a n : Int) : (decT xs a n).1.length ≤ 100 := by
  unfold decT
  split
  · have := decI_len xs n.toNat a []
    simp at this
    omega
  · simp
def DecR (xs : List Int) (r : Nat) (p : Int) (acc L : List Int) (q : Int) (ok : Bool) : Prop := decI xs r p acc = (L, q, ok)

set_option maxRecDepth 100000 in
set_option maxHeartbeats 4000000 in
theorem spec_DecodeInts (va : Value) (xs : List Int) (a n : Int) (w : World) (ha : Rd .u8 w va xs) (hw : ∀ z ∈ xs, (Lit.int .u8 z).wf = true) (hat : (Lit.int .i64 a).wf = true) (hlen : xs.length ≤ 1099511627776)
    (L : List Int) (q : Int) (ok : Bool) (hT : decT xs a n = (L, q, ok)) :
    Calls Try.prog 35 #[va, .int .i64 a, .int .i64 n] w fun e w' => ∃ v, e = .returned (.tuple #[v, .int .i64 q, .bool ok]) ∧ Own 3 .i64 w' w.heap.size v L ∧ Below w.heap.size w w' := by
  obtain ⟨i0, hi, hz0, hz1, hz2⟩ := info_parts infoIntB
  have HU : Hid (∀ (p : Int) (w : World) (R1 R2 : Int) (R3 : Bool), (Lit.int .i64 p).wf = true → Rd .u8 w va xs → rdUv xs p = (R1, R2, R3) → Calls Try.prog 17 #[va, .int .i64 p] w fun e w' => e = .returned (.tuple #[.int .i64 R1, .int .i64 R2, .bool R3]) ∧ w = w') :=
    Lib.hid (fun p w R1 R2 R3 hp h hR => spec_ReadUvarint va xs p w hp h hw hlen R1 R2 R3 hR)
  have ha0 := ha
  obtain ⟨A, c, rfl, h1, h2, _⟩ := ha
  have hc1 : c ≤ 9223372036854775807 := h2
  obtain ⟨l, hl⟩ : ∃ l, l = xs.length := ⟨_, rfl⟩
  by_cases h : (0 ≤ n ∧ n ≤ 100) ∧ (0 ≤ a ∧ a ≤ xs.length)
  · have hD : decI xs n.toNat a [] = (L, q, ok) := by rw [← hT]; unfold decT; rw [if_pos h]
    obtain ⟨C, rfl⟩ : ∃ C : Nat, n = (C : Int) := ⟨n.toNat, by omega⟩
    rw [Int.toNat_natCast] at hD
    have HD : Hid (DecR xs C a [] L q ok) := Lib.hid hD
    have hi1 : M.inR (C : Int) 0 100 = true := M.inR_true h.1
    have hi2 : M.inR a 0 (xs.length : Int) = true := M.inR_true h.2
    have hC : C ≤ 100 := by omega
    rw [← hl] at h1 hlen HU ha0 hi2 ⊢
    have HA := Lib.hid ha0
    have HLL := Lib.hid hl
    clear ha0 hT hD hl h2 hw h
    go_enter Try.func35, Try.ntmps35
    have ho0 : Own 3 .i64 (w.alloc (.cells #[] 3)) w.heap.size (.slice (some ⟨w.heap.size, 0, none⟩) 0 0) [] := Own.lit w w.heap.size [] (Nat.le_refl _) (by simp [maxLen])
    have HO := Lib.hid ho0
    clear ho0
    go_wp2_with (go_at_call 45; refine (spec_l1In _ _ _ _).mono ?_; rintro e w' ⟨rfl, rfl⟩)
    go_loopw [1, 9, 10] (fun u v i wr => ∃ (k : Nat) (p : Int) (acc : List Int), k ≤ C ∧ i = .int .i64 k ∧ u = .int .i64 p ∧ (Lit.int .i64 p).wf = true ∧ acc.length = k ∧ DecR xs (C - k) p acc L q ok ∧ Own 3 .i64 wr w.heap.size v acc ∧ Below w.heap.size w wr) (fun _ _ i _ => C - (intOf i).toNat)
    case atStart => exact ⟨0, a, [], Nat.zero_le _, rfl, rfl, hat, rfl, HD.out, HO.out, Below.al (Below.refl _ _) _⟩
    case round =>
      clear HO HD hi1 hi2
      obtain ⟨k, p, acc, hk, rfl, rfl, hp, hacc, hD, hown, hbel⟩ := hrel
      have HK := Lib.hid hacc
      clear hacc
      by_cases hlt : k < C
      · obtain ⟨R1, R2, R3, hR⟩ : ∃ a' b' c', rdUv xs p = (a', b', c') := ⟨_, _, _, rfl⟩
        have hbd := rdUv_bd xs p
        rw [hR] at hbd
        obtain ⟨g1, g2, g3, g4, g5, g6⟩ := hbd
        simp only at g1 g2 g3 g4 g5 g6
        rw [← HLL.out] at g4
        have hCk : C - k = (C - k - 1) + 1 := by omega
        have HR := Lib.hid hR
        cases R3 with
        | false =>
          have hE := decI_no (r := C - k - 1) (acc := acc) hR
          unfold DecR at hD
          rw [hCk, hE] at hD
          simp only [Prod.mk.injEq] at hD
          obtain ⟨rfl, rfl, rfl⟩ := hD
          obtain ⟨rfl, rfl⟩ := g6 rfl
          clear hR hE hCk g5 g6 hown
          go_wp2_with fail
          refine (HU.out p wr _ _ _ hp (HA.out.below hbel) HR.out).mono ?_
          rintro e w' ⟨rfl, rfl⟩
          go_wp2_with fail
          go_ret3
          exact ⟨_, rfl, Own.lit wr w.heap.size [] hbel.size (by simp [maxLen]), Below.al hbel _⟩
        | true =>
          have hE := decI_yes (r := C - k - 1) (acc := acc) hR
          unfold DecR at hD
          rw [hCk, hE] at hD
          have HE : Hid (DecR xs (C - (k + 1)) R2 (acc ++ [R1]) L q ok) := Lib.hid (by unfold DecR; rw [← hD]; congr 1)
          clear hR hE hCk g5 g6 hD
          have hl1 : Rd .i64 (wr.alloc (.cells #[.int .i64 R1] 3)) (.slice (some ⟨wr.heap.size, 0, none⟩) 1 1) [R1] := Rd.lit 3 wr [R1] (by simp [maxLen])
          have ho1 := hown.below (Below.al (Below.refl _ wr) (.cells #[.int .i64 R1] 3))
          go_wp2_with fail
          refine (HU.out p wr _ _ _ hp (HA.out.below hbel) HR.out).mono ?_
          rintro e w' ⟨rfl, rfl⟩
          go_wp2_with (at_builtin; refine wpList_append_rd _ rfl (.tmp 41) (.tmp 43) 31 rfl w.heap.size 3 i0 (.int .i64 0) 8 Try.underlying31 hi hz0 hz1 hz2 rfl _ _ acc [R1] rfl ho1 rfl hl1 (by have := HK.out; simp [maxLen]; omega) (by have := HK.out; simp; omega) (by have := hbel.size; simp; omega) ?_; intro v2 w2 hown2 hg2)
          have hb2 : Below w.heap.size w w2 := Below.own (Below.al hbel _) hg2 ho1 (Nat.le_refl _)
          have HO2 := Lib.hid hown2
          clear hown2 hg2 hl1 ho1 hown hbel
          go_wp2
          go_roundw
          case rel => exact ⟨k + 1, R2, _, by omega, by go_num, rfl, WalkArith.wf_i64 (by omega), by rw [List.length_append, HK.out]; rfl, HE.out, HO2.out, hb2⟩
          case measure => simp [intOf]; omega
      · obtain rfl : k = C := by omega
        unfold DecR at hD
        rw [Nat.sub_self, decI] at hD
        simp only [Prod.mk.injEq] at hD
        obtain ⟨rfl, rfl, rfl⟩ := hD
        have HO2 := Lib.hid hown
        clear hown
        go_wp2
        go_ret3
        exact ⟨_, rfl, HO2.out, hbel⟩
  · have hD : decT xs a n = ([], 0, false) := by unfold decT; rw [if_neg h]
    rw [hD] at hT
    simp only [Prod.mk.injEq] at hT
    obtain ⟨rfl, rfl, rfl⟩ := hT
    rw [← hl] at h h1 hlen HU ha0 ⊢
    clear ha0 hD h2 hw hl
    by_cases hn : 0 ≤ n ∧ n ≤ 100
    · have hi1 : M.inR n 0 100 = true := M.inR_true hn
      have hi2 : M.inR a 0 (l : Int) = false := M.inR_false (fun hh => h ⟨hn, hh⟩)
      clear h hn
      go_enter Try.func35, Try.ntmps35
      go_wp2_with (go_at_call 45; refine (spec_l1In _ _ _ _).mono ?_; rintro e w' ⟨rfl, rfl⟩)
      go_ret3
      exact ⟨_, rfl, Own.lit w w.heap.size [] (Nat.le_refl _) (by simp [maxLen]), Below.al (Below.refl _ _) _⟩
    · have hi1 : M.inR n 0 100 = false := M.inR_false hn
      clear h hn
      go_enter Try.func35, Try.ntmps35
      go_wp2_with (go_at_call 45; refine (spec_l1In _ _ _ _).mono ?_; rintro e w' ⟨rfl, rfl⟩)
      go_ret3
      exact ⟨_, rfl, Own.lit w w.heap.size [] (Nat.le_refl _) (by simp [maxLen]), Below.al (Below.refl _ _) _⟩

set_option maxRecDepth 100000 in
set_option maxHeartbeats 4000000 in
theorem impl_DecodeInts (va : Value) (xs : List Int) (a n : Int) (w : World) (ha : Rd .u8 w va xs) (hw : ∀ z ∈ xs, (Lit.int .u8 z).wf = true) (hat : (Lit.int .i64 a).wf = true) (hlen : xs.length ≤ 1099511627776)
    (L : List Int) (q : Int) (ok : Bool) (hT : decT xs a n = (L, q, ok)) :
    Calls Try.prog 36 #[va, .int .i64 a, .int .i64 n] w fun e w' => ∃ v, e = .returned (.tuple #[v, .int .i64 q, .bool ok]) ∧ Own 3 .i64 w' w.heap.size v L ∧ Below w.heap.size w w' := by
  obtain ⟨i0, hi, hz0, hz1, hz2⟩ := info_parts infoIntB
  have HU : Hid (∀ (p : Int) (w : World) (R1 R2 : Int) (R3 : Bool), (Lit.int .i64 p).wf = true → Rd .u8 w va xs → rdUv xs p = (R1, R2, R3) → Calls Try.prog 18 #[va, .int .i64 p] w fun e w' => e = .returned (.tuple #[.int .i64 R1, .int .i64 R2, .bool R3]) ∧ w = w') :=
    Lib.hid (fun p w R1 R2 R3 hp h hR => impl_ReadUvarint va xs p w hp h hw hlen R1 R2 R3 hR)
  have ha0 := ha
  obtain ⟨A, c, rfl, h1, h2, _⟩ := ha
  have hc1 : c ≤ 9223372036854775807 := h2
  obtain ⟨l, hl⟩ : ∃ l, l = xs.length := ⟨_, rfl⟩
  by_cases h : (0 ≤ n ∧ n ≤ 100) ∧ (0 ≤ a ∧ a ≤ xs.length)
  · have hD : decI xs n.toNat a [] = (L, q, ok) := by rw [← hT]; unfold decT; rw [if_pos h]
    obtain ⟨C, rfl⟩ : ∃ C : Nat, n = (C : Int) := ⟨n.toNat, by omega⟩
    rw [Int.toNat_natCast] at hD
    have HD : Hid (DecR xs C a [] L q ok) := Lib.hid hD
    have hi1 : M.inR (C : Int) 0 100 = true := M.inR_true h.1
    have hi2 : M.inR a 0 (xs.length : Int) = true := M.inR_true h.2
    have hC : C ≤ 100 := by omega
    rw [← hl] at h1 hlen HU ha0 hi2 ⊢
    have HA := Lib.hid ha0
    have HLL := Lib.hid hl
    clear ha0 hT hD hl h2 hw h
    go_enter Try.func36, Try.ntmps36
    go_wp2_with (first
      | (at_make
         refine wpList_make_own _ rfl _ _ 31 rfl w.heap.size 3 i0 (.int .i64 0) 1 Try.underlying31 hi hz0 hz1 .i64 .i64 (C : Int) C rfl rfl (by omega) (by rw [hz2]; omega) (by unfold maxLen; omega) (Nat.le_refl _) ?_
         intro w1 hown1 hg1
         have hb1 : Below w.heap.size w w1 := (Below.refl _ _).grown hg1 (Nat.le_refl _) (by simp)
         have HO : Hid (Own 3 .i64 w1 w.heap.size (.slice (some ⟨w.heap.size, 0, none⟩) 0 C) []) := Lib.hid hown1
         clear hown1 hg1)
      | (go_at_call 46; refine (impl_InRange _ _ _ _).mono ?_; rintro e w' ⟨rfl, rfl⟩))
    go_loopw [10, 9, 11] (fun u v i wr => ∃ (k : Nat) (p : Int) (acc : List Int), k ≤ C ∧ i = .int .i64 k ∧ u = .int .i64 p ∧ (Lit.int .i64 p).wf = true ∧ acc.length = k ∧ DecR xs (C - k) p acc L q ok ∧ Own 3 .i64 wr w.heap.size v acc ∧ Below w.heap.size w wr) (fun _ _ i _ => C - (intOf i).toNat)
    case atStart => exact ⟨0, a, [], Nat.zero_le _, rfl, rfl, hat, rfl, HD.out, HO.out, hb1⟩
    case round =>
      clear HO hb1 HD hi1 hi2
      obtain ⟨k, p, acc, hk, rfl, rfl, hp, hacc, hD, hown, hbel⟩ := hrel
      have HK := Lib.hid hacc
      clear hacc
      by_cases hlt : k < C
      · obtain ⟨R1, R2, R3, hR⟩ : ∃ a' b' c', rdUv xs p = (a', b', c') := ⟨_, _, _, rfl⟩
        have hbd := rdUv_bd xs p
        rw [hR] at hbd
        obtain ⟨g1, g2, g3, g4, g5, g6⟩ := hbd
        simp only at g1 g2 g3 g4 g5 g6
        rw [← HLL.out] at g4
        have hCk : C - k = (C - k - 1) + 1 := by omega
        have HR := Lib.hid hR
        cases R3 with
        | false =>
          have hE := decI_no (r := C - k - 1) (acc := acc) hR
          unfold DecR at hD
          rw [hCk, hE] at hD
          simp only [Prod.mk.injEq] at hD
          obtain ⟨rfl, rfl, rfl⟩ := hD
          obtain ⟨rfl, rfl⟩ := g6 rfl
          clear hR hE hCk g5 g6 hown
          go_wp2_with fail
          refine (HU.out p wr _ _ _ hp (HA.out.below hbel) HR.out).mono ?_
          rintro e w' ⟨rfl, rfl⟩
          go_wp2_with fail
          go_ret3
          exact ⟨_, rfl, Own.lit wr w.heap.size [] hbel.size (by simp [maxLen]), Below.al hbel _⟩
        | true =>
          have hE := decI_yes (r := C - k - 1) (acc := acc) hR
          unfold DecR at hD
          rw [hCk, hE] at hD
          have HE : Hid (DecR xs (C - (k + 1)) R2 (acc ++ [R1]) L q ok) := Lib.hid (by unfold DecR; rw [← hD]; congr 1)
          clear hR hE hCk g5 g6 hD
          have hl1 : Rd .i64 (wr.alloc (.cells #[.int .i64 R1] 3)) (.slice (some ⟨wr.heap.size, 0, none⟩) 1 1) [R1] := Rd.lit 3 wr [R1] (by simp [maxLen])
          have ho1 := hown.below (Below.al (Below.refl _ wr) (.cells #[.int .i64 R1] 3))
          go_wp2_with fail
          refine (HU.out p wr _ _ _ hp (HA.out.below hbel) HR.out).mono ?_
          rintro e w' ⟨rfl, rfl⟩
          go_wp2_with (at_builtin; refine wpList_append_rd _ rfl (.tmp 44) (.tmp 46) 31 rfl w.heap.size 3 i0 (.int .i64 0) 8 Try.underlying31 hi hz0 hz1 hz2 rfl _ _ acc [R1] rfl ho1 rfl hl1 (by have := HK.out; simp [maxLen]; omega) (by have := HK.out; simp; omega) (by have := hbel.size; simp; omega) ?_; intro v2 w2 hown2 hg2)
          have hb2 : Below w.heap.size w w2 := Below.own (Below.al hbel _) hg2 ho1 (Nat.le_refl _)
          have HO2 := Lib.hid hown2
          clear hown2 hg2 hl1 ho1 hown hbel
          go_wp2
          go_roundw
          case rel => exact ⟨k + 1, R2, _, by omega, by go_num, rfl, WalkArith.wf_i64 (by omega), by rw [List.length_append, HK.out]; rfl, HE.out, HO2.out, hb2⟩
          case measure => simp [intOf]; omega
      · obtain rfl : k = C := by omega
        unfold DecR at hD
        rw [Nat.sub_self, decI] at hD
        simp only [Prod.mk.injEq] at hD
        obtain ⟨rfl, rfl, rfl⟩ := hD
        have HO2 := Lib.hid hown
        clear hown
        go_wp2
        go_ret3
        exact ⟨_, rfl, HO2.out, hbel⟩
  · have hD : decT xs a n = ([], 0, false) := by unfold decT; rw [if_neg h]
    rw [hD] at hT
    simp only [Prod.mk.injEq] at hT
    obtain ⟨rfl, rfl, rfl⟩ := hT
    rw [← hl] at h h1 hlen HU ha0 ⊢
    clear ha0 hD h2 hw hl
    by_cases hn : 0 ≤ n ∧ n ≤ 100
    · have hi1 : M.inR n 0 100 = true := M.inR_true hn
      have hi2 : M.inR a 0 (l : Int) = false := M.inR_false (fun hh => h ⟨hn, hh⟩)
      clear h hn
      go_enter Try.func36, Try.ntmps36
      go_wp2_with (go_at_call 46; refine (impl_InRange _ _ _ _).mono ?_; rintro e w' ⟨rfl, rfl⟩)
      go_ret3
      exact ⟨_, rfl, Own.lit w w.heap.size [] (Nat.le_refl _) (by simp [maxLen]), Below.al (Below.refl _ _) _⟩
    · have hi1 : M.inR n 0 100 = false := M.inR_false hn
      clear h hn
      go_enter Try.func36, Try.ntmps36
      go_wp2_with (go_at_call 46; refine (impl_InRange _ _ _ _).mono ?_; rintro e w' ⟨rfl, rfl⟩)
      go_ret3
      exact ⟨_, rfl, Own.lit w w.heap.size [] (Nat.le_refl _) (by simp [maxLen]), Below.al (Below.refl _ _) _⟩

end Go.Proofs.Ytpkaffnmoebgiaa
