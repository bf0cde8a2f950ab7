/-
  Contracts: byte strings and lists of numbers read, by the program and by the reference.
-/
import Derived.Test.YtpkaffnmoebgiaaVarA
namespace Go.Proofs.Ytpkaffnmoebgiaa
open Go.RowKit

/-- What is read as a byte string. -/
abbrev RBok (xs : List Int) (at_ most : Int) : Prop := (rdUv xs at_).2.2 = true ∧ (rdUv xs at_).1 ≤ most ∧ (rdUv xs at_).1 ≤ xs.length - (rdUv xs at_).2.1
def rdB (xs : List Int) (at_ most : Int) : List Int := if RBok xs at_ most then (xs.drop (rdUv xs at_).2.1.toNat).take (rdUv xs at_).1.toNat else []
def rdN (xs : List Int) (at_ most : Int) : Int := if RBok xs at_ most then (rdUv xs at_).2.1 + (rdUv xs at_).1 else 0
def rdOk (xs : List Int) (at_ most : Int) : Bool := if RBok xs at_ most then true else false
theorem rdB_len (xs : List Int) (at_ most : Int) : (rdB xs at_ most).length ≤ xs.length := by
  unfold rdB; split
  · simp; omega
  · simp
theorem rdB_wf {xs : List Int} (at_ most : Int) (h : ∀ z ∈ xs, (Lit.int .u8 z).wf = true) : ∀ z ∈ rdB xs at_ most, (Lit.int .u8 z).wf = true := by
  unfold rdB; split
  · intro z hz; exact h z (List.mem_of_mem_drop (List.mem_of_mem_take hz))
  · simp

/-- A part of a slice that reads as numbers. -/
theorem rd_part {kd : IntKind} {w : World} {b off l c : Nat} {xs : List Int} (hl : l = xs.length) (hlc : l ≤ c) (hm : c ≤ maxLen) (hb : b < w.heap.size) (hc : ∀ j, j < l → w.cell? ⟨b, off + j, none⟩ = some (.int kd (xs.getD j 0)))
    (p n : Nat) (hp : p + n ≤ l) : Rd kd w (.slice (some ⟨b, off + p, none⟩) n (c - p)) ((xs.drop p).take n) := by
  have hlen : ((xs.drop p).take n).length = n := by simp; omega
  refine ⟨_, _, by rw [hlen], by omega, by omega, fun _ => ⟨b, off + p, rfl, hb, fun j hj => ?_⟩⟩
  rw [hlen] at hj
  rw [Nat.add_assoc, hc (p + j) (by omega)]
  congr 2
  rw [List.getD_eq_getElem?_getD, List.getD_eq_getElem?_getD, List.getElem?_take, if_pos hj, List.getElem?_drop]

set_option maxRecDepth 100000 in
set_option maxHeartbeats 4000000 in
theorem impl_ReadBytes (va : Value) (xs : List Int) (a m : Int) (w : World) (ha : Rd .u8 w va xs) (hw : ∀ z ∈ xs, (Lit.int .u8 z).wf = true) (hat : (Lit.int .i64 a).wf = true) (hlen : xs.length ≤ 1099511627776) :
    Calls Try.prog 34 #[va, .int .i64 a, .int .i64 m] w fun e w' => ∃ v, e = .returned (.tuple #[v, .int .i64 (rdN xs a m), .bool (rdOk xs a m)]) ∧ Own 5 .u8 w' w.heap.size v (rdB xs a m) ∧ Below w.heap.size w w' := by
  obtain ⟨i0, hi, hz0, hz1, hz2⟩ := info_parts infoByteB
  obtain ⟨R1, R2, R3, hR⟩ : ∃ a' b' c', rdUv xs a = (a', b', c') := ⟨_, _, _, rfl⟩
  have hbd := rdUv_bd xs a
  rw [hR] at hbd
  obtain ⟨g1, g2, g3, g4, g5, g6⟩ := hbd
  have ha0 := ha
  have HR := Lib.hid hR
  have HU : Hid (∀ w : World, Rd .u8 w va xs → Calls Try.prog 18 #[va, .int .i64 a] w fun e w' => e = .returned (.tuple #[.int .i64 R1, .int .i64 R2, .bool R3]) ∧ w = w') := Lib.hid (fun w h => impl_ReadUvarint va xs a w hat h hw hlen R1 R2 R3 HR.out)
  by_cases hok : RBok xs a m
  · have e1 : rdB xs a m = (xs.drop R2.toNat).take R1.toNat := by unfold rdB; rw [if_pos hok, hR]
    have e2 : rdN xs a m = R2 + R1 := by unfold rdN; rw [if_pos hok, hR]
    have e3 : rdOk xs a m = true := by unfold rdOk; rw [if_pos hok]
    unfold RBok at hok
    rw [hR] at hok
    obtain ⟨k1, k2, k3⟩ := hok
    simp only at k1 k2 k3 g1 g2 g3 g4 g5 g6
    subst k1
    have g5' := g5 rfl
    obtain ⟨N, rfl⟩ : ∃ N : Nat, R1 = (N : Int) := ⟨R1.toNat, by omega⟩
    obtain ⟨P, rfl⟩ : ∃ P : Nat, R2 = (P : Int) := ⟨R2.toNat, by omega⟩
    rw [e1, e2, e3]
    simp only [Int.toNat_natCast]
    obtain ⟨A, c, rfl, h1, h2, h3⟩ := ha
    obtain ⟨b, off, rfl, hbw, hcell⟩ := h3 (by omega)
    obtain ⟨l, hl⟩ : ∃ l, l = xs.length := ⟨_, rfl⟩
    rw [← hl] at h1 hcell hlen k3 g4 HU ⊢
    have HL : Hid (((xs.drop P).take N).length ≤ 1099511627776) := Lib.hid (by simp; omega)
    rw [← hl] at ha0
    have HA := Lib.hid ha0
    by_cases hPc : P = c
    · obtain rfl : N = 0 := by omega
      have HPart : Hid (Rd .u8 w (.slice (some ⟨b, off, none⟩) 0 0) ((xs.drop P).take 0)) := Lib.hid ⟨_, _, rfl, by simp, by simp [maxLen], fun h => by simp at h⟩
      have hPP : Hid (P = c) := Lib.hid hPc
      subst hPc
      clear hcell h3 hR HR e1 e2 e3 g5 g6 hw hl ha0
      have hc1 : P ≤ 9223372036854775807 := h2
      clear h2
      go_enter Try.func34, Try.ntmps34
      go_wp2_with fail
      refine (HU.out _ HA.out).mono ?_
      rintro e w' ⟨rfl, rfl⟩
      go_wp2_with fail
      refine (impl_copyBytes _ ((xs.drop P).take 0) _ HPart.out HL.out).mono ?_
      rintro e w1 ⟨v1, rfl, o1, b1⟩
      have HO := Lib.hid o1
      clear o1
      go_wp2_with fail
      go_ret3
      exact ⟨_, rfl, HO.out, b1⟩

    · have HPart : Hid (Rd .u8 w (.slice (some ⟨b, off + P, none⟩) N (c - P)) ((xs.drop P).take N)) := Lib.hid (rd_part hl h1 h2 hbw hcell P N (by omega))
      clear hcell h3 hR HR e1 e2 e3 g5 g6 hw hl ha0
      have hc1 : c ≤ 9223372036854775807 := h2
      clear h2
      have hPc' : P < c := by omega
      go_enter Try.func34, Try.ntmps34
      go_wp2_with fail
      refine (HU.out _ HA.out).mono ?_
      rintro e w' ⟨rfl, rfl⟩
      go_wp2_with fail
      refine (impl_copyBytes _ ((xs.drop P).take N) _ HPart.out HL.out).mono ?_
      rintro e w1 ⟨v1, rfl, o1, b1⟩
      have HO := Lib.hid o1
      clear o1
      go_wp2_with fail
      go_ret3
      exact ⟨_, rfl, HO.out, b1⟩

  · have e1 : rdB xs a m = [] := by unfold rdB; rw [if_neg hok]
    have e2 : rdN xs a m = 0 := by unfold rdN; rw [if_neg hok]
    have e3 : rdOk xs a m = false := by unfold rdOk; rw [if_neg hok]
    unfold RBok at hok
    rw [hR] at hok
    rw [e1, e2, e3]
    simp only at hok g1 g2 g3 g4 g5 g6
    obtain ⟨A, c, rfl, h1, h2, _⟩ := ha
    have hc1 : c ≤ 9223372036854775807 := h2
    obtain ⟨l, hl⟩ : ∃ l, l = xs.length := ⟨_, rfl⟩
    rw [← hl] at h1 hlen g4 HU ha0 hok ⊢
    have HA := Lib.hid ha0
    clear ha0 hR HR e1 e2 e3 hw hl h2 hat
    cases R3 with
    | false =>
      obtain ⟨rfl, rfl⟩ := g6 rfl
      clear hok g5 g6
      go_enter Try.func34, Try.ntmps34
      go_wp2_with fail
      refine (HU.out _ HA.out).mono ?_
      rintro e w' ⟨rfl, rfl⟩
      go_wp2_with fail
      go_ret3
      exact ⟨_, rfl, Own.lit w w.heap.size [] (Nat.le_refl _) (by simp [maxLen]), Below.al (Below.refl _ _) _⟩
    | true =>
      have g5' := g5 rfl
      clear g5 g6
      by_cases hm : m < R1
      · clear hok
        go_enter Try.func34, Try.ntmps34
        go_wp2_with fail
        refine (HU.out _ HA.out).mono ?_
        rintro e w' ⟨rfl, rfl⟩
        go_wp2_with fail
        go_ret3
        exact ⟨_, rfl, Own.lit w w.heap.size [] (Nat.le_refl _) (by simp [maxLen]), Below.al (Below.refl _ _) _⟩
      · have h3 : (l : Int) - R2 < R1 := by
          have : ¬ (R1 ≤ (l : Int) - R2) := fun h => hok ⟨rfl, by omega, h⟩
          omega
        clear hok
        go_enter Try.func34, Try.ntmps34
        go_wp2_with fail
        refine (HU.out _ HA.out).mono ?_
        rintro e w' ⟨rfl, rfl⟩
        go_wp2_with fail
        go_ret3
        exact ⟨_, rfl, Own.lit w w.heap.size [] (Nat.le_refl _) (by simp [maxLen]), Below.al (Below.refl _ _) _⟩

set_option maxRecDepth 100000 in
set_option maxHeartbeats 4000000 in
theorem spec_ReadBytes (va : Value) (xs : List Int) (a m : Int) (w : World) (ha : Rd .u8 w va xs) (hw : ∀ z ∈ xs, (Lit.int .u8 z).wf = true) (hat : (Lit.int .i64 a).wf = true) (hlen : xs.length ≤ 1099511627776) :
    Calls Try.prog 33 #[va, .int .i64 a, .int .i64 m] w fun e w' => ∃ v, e = .returned (.tuple #[v, .int .i64 (rdN xs a m), .bool (rdOk xs a m)]) ∧ Own 5 .u8 w' w.heap.size v (rdB xs a m) ∧ Below w.heap.size w w' := by
  obtain ⟨i0, hi, hz0, hz1, hz2⟩ := info_parts infoByteB
  obtain ⟨R1, R2, R3, hR⟩ : ∃ a' b' c', rdUv xs a = (a', b', c') := ⟨_, _, _, rfl⟩
  have hbd := rdUv_bd xs a
  rw [hR] at hbd
  obtain ⟨g1, g2, g3, g4, g5, g6⟩ := hbd
  have ha0 := ha
  have HR := Lib.hid hR
  have HU : Hid (∀ w : World, Rd .u8 w va xs → Calls Try.prog 17 #[va, .int .i64 a] w fun e w' => e = .returned (.tuple #[.int .i64 R1, .int .i64 R2, .bool R3]) ∧ w = w') := Lib.hid (fun w h => spec_ReadUvarint va xs a w hat h hw hlen R1 R2 R3 HR.out)
  by_cases hok : RBok xs a m
  · have e1 : rdB xs a m = (xs.drop R2.toNat).take R1.toNat := by unfold rdB; rw [if_pos hok, hR]
    have e2 : rdN xs a m = R2 + R1 := by unfold rdN; rw [if_pos hok, hR]
    have e3 : rdOk xs a m = true := by unfold rdOk; rw [if_pos hok]
    unfold RBok at hok
    rw [hR] at hok
    obtain ⟨k1, k2, k3⟩ := hok
    simp only at k1 k2 k3 g1 g2 g3 g4 g5 g6
    subst k1
    have g5' := g5 rfl
    obtain ⟨N, rfl⟩ : ∃ N : Nat, R1 = (N : Int) := ⟨R1.toNat, by omega⟩
    obtain ⟨P, rfl⟩ : ∃ P : Nat, R2 = (P : Int) := ⟨R2.toNat, by omega⟩
    rw [e1, e2, e3]
    simp only [Int.toNat_natCast]
    obtain ⟨A, c, rfl, h1, h2, h3⟩ := ha
    obtain ⟨b, off, rfl, hbw, hcell⟩ := h3 (by omega)
    obtain ⟨l, hl⟩ : ∃ l, l = xs.length := ⟨_, rfl⟩
    rw [← hl] at h1 hcell hlen k3 g4 HU ⊢
    have HL : Hid (((xs.drop P).take N).length ≤ 1099511627776) := Lib.hid (by simp; omega)
    rw [← hl] at ha0
    have HA := Lib.hid ha0
    by_cases hPc : P = c
    · obtain rfl : N = 0 := by omega
      have HPart : Hid (Rd .u8 w (.slice (some ⟨b, off, none⟩) 0 0) ((xs.drop P).take 0)) := Lib.hid ⟨_, _, rfl, by simp, by simp [maxLen], fun h => by simp at h⟩
      have hPP : Hid (P = c) := Lib.hid hPc
      subst hPc
      clear hcell h3 hR HR e1 e2 e3 g5 g6 hw hl ha0
      have hc1 : P ≤ 9223372036854775807 := h2
      clear h2
      go_enter Try.func33, Try.ntmps33
      go_wp2_with fail
      refine (HU.out _ HA.out).mono ?_
      rintro e w' ⟨rfl, rfl⟩
      have hl0 := HPart.out.below (Below.al (Below.refl _ w) (.cells #[] 5))
      have ho0 : Own 5 .u8 (w.alloc (.cells #[] 5)) w.heap.size (.slice (some ⟨w.heap.size, 0, none⟩) 0 0) [] := Own.lit w w.heap.size [] (Nat.le_refl _) (by simp [maxLen])
      go_wp2_with (at_builtin; refine wpList_append_rd _ rfl (.tmp 35) (.tmp 41) 22 rfl w.heap.size 5 i0 (.int .u8 0) 1 Try.underlying22 hi hz0 hz1 hz2 rfl _ _ [] ((xs.drop P).take 0) rfl ho0 rfl hl0 (by have := HL.out; unfold maxLen; rw [List.length_nil]; omega) (by have := HL.out; rw [List.length_nil]; omega) (by simp) ?_; intro v2 w2 hown2 hg2)
      have hb2 : Below w.heap.size w w2 := Below.own (Below.al (Below.refl _ w) _) hg2 ho0 (Nat.le_refl _)
      rw [List.nil_append] at hown2
      have HO := Lib.hid hown2
      clear hown2 hg2 ho0 hl0
      go_wp2_with fail
      go_ret3
      exact ⟨_, rfl, HO.out, hb2⟩

    · have HPart : Hid (Rd .u8 w (.slice (some ⟨b, off + P, none⟩) N (c - P)) ((xs.drop P).take N)) := Lib.hid (rd_part hl h1 h2 hbw hcell P N (by omega))
      clear hcell h3 hR HR e1 e2 e3 g5 g6 hw hl ha0
      have hc1 : c ≤ 9223372036854775807 := h2
      clear h2
      have hPc' : P < c := by omega
      go_enter Try.func33, Try.ntmps33
      go_wp2_with fail
      refine (HU.out _ HA.out).mono ?_
      rintro e w' ⟨rfl, rfl⟩
      have hl0 : Rd .u8 (w.alloc (.cells #[] 5)) (.slice (some ⟨b, off + P, none⟩) (P + N - P) (c - P)) ((xs.drop P).take N) := by
        rw [show P + N - P = N by omega]
        exact HPart.out.below (Below.al (Below.refl _ w) (.cells #[] 5))
      have ho0 : Own 5 .u8 (w.alloc (.cells #[] 5)) w.heap.size (.slice (some ⟨w.heap.size, 0, none⟩) 0 0) [] := Own.lit w w.heap.size [] (Nat.le_refl _) (by simp [maxLen])
      go_wp2_with (at_builtin; refine wpList_append_rd _ rfl (.tmp 35) (.tmp 41) 22 rfl w.heap.size 5 i0 (.int .u8 0) 1 Try.underlying22 hi hz0 hz1 hz2 rfl _ _ [] ((xs.drop P).take N) rfl ho0 rfl hl0 (by have := HL.out; unfold maxLen; rw [List.length_nil]; omega) (by have := HL.out; rw [List.length_nil]; omega) (by simp) ?_; intro v2 w2 hown2 hg2)
      have hb2 : Below w.heap.size w w2 := Below.own (Below.al (Below.refl _ w) _) hg2 ho0 (Nat.le_refl _)
      rw [List.nil_append] at hown2
      have HO := Lib.hid hown2
      clear hown2 hg2 ho0 hl0
      go_wp2_with fail
      go_ret3
      exact ⟨_, rfl, HO.out, hb2⟩

  · have e1 : rdB xs a m = [] := by unfold rdB; rw [if_neg hok]
    have e2 : rdN xs a m = 0 := by unfold rdN; rw [if_neg hok]
    have e3 : rdOk xs a m = false := by unfold rdOk; rw [if_neg hok]
    unfold RBok at hok
    rw [hR] at hok
    rw [e1, e2, e3]
    simp only at hok g1 g2 g3 g4 g5 g6
    obtain ⟨A, c, rfl, h1, h2, _⟩ := ha
    have hc1 : c ≤ 9223372036854775807 := h2
    obtain ⟨l, hl⟩ : ∃ l, l = xs.length := ⟨_, rfl⟩
    rw [← hl] at h1 hlen g4 HU ha0 hok ⊢
    have HA := Lib.hid ha0
    clear ha0 hR HR e1 e2 e3 hw hl h2 hat
    cases R3 with
    | false =>
      obtain ⟨rfl, rfl⟩ := g6 rfl
      clear hok g5 g6
      go_enter Try.func33, Try.ntmps33
      go_wp2_with fail
      refine (HU.out _ HA.out).mono ?_
      rintro e w' ⟨rfl, rfl⟩
      go_wp2_with fail
      go_ret3
      exact ⟨_, rfl, Own.lit w w.heap.size [] (Nat.le_refl _) (by simp [maxLen]), Below.al (Below.refl _ _) _⟩
    | true =>
      have g5' := g5 rfl
      clear g5 g6
      by_cases hm : m < R1
      · clear hok
        go_enter Try.func33, Try.ntmps33
        go_wp2_with fail
        refine (HU.out _ HA.out).mono ?_
        rintro e w' ⟨rfl, rfl⟩
        go_wp2_with fail
        go_ret3
        exact ⟨_, rfl, Own.lit w w.heap.size [] (Nat.le_refl _) (by simp [maxLen]), Below.al (Below.refl _ _) _⟩
      · have h3 : (l : Int) - R2 < R1 := by
          have : ¬ (R1 ≤ (l : Int) - R2) := fun h => hok ⟨rfl, by omega, h⟩
          omega
        clear hok
        go_enter Try.func33, Try.ntmps33
        go_wp2_with fail
        refine (HU.out _ HA.out).mono ?_
        rintro e w' ⟨rfl, rfl⟩
        go_wp2_with fail
        go_ret3
        exact ⟨_, rfl, Own.lit w w.heap.size [] (Nat.le_refl _) (by simp [maxLen]), Below.al (Below.refl _ _) _⟩

end Go.Proofs.Ytpkaffnmoebgiaa
