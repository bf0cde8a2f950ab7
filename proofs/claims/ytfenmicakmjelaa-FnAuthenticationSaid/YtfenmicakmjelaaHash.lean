/-
  Contracts: the symbolic hash: one step, the fold over a slice, the keyed hash.
-/
import Derived.Test.YtfenmicakmjelaaWords
import Derived.Test.YtfenmicakmjelaaArith
namespace Go.Proofs.Ytfenmicakmjelaa
open Go.RowKit

theorem infoIntH : (Try.prog.info? 3).map (fun i => (i.zero, i.size, i.bytes)) = some (some (.int .i64 0), 1, 8) := by kernel_rfl

namespace M
def from_ (s : Int) (l : List Int) : Int := l.foldl step s
theorem from_bd (s : Int) (l : List Int) (h0 : 0 ≤ s) (h1 : s < 2147483647) : 0 ≤ from_ s l ∧ from_ s l < 2147483647 := foldl_bd l s h0 h1
theorem from_snoc (s : Int) (l : List Int) (x : Int) : from_ s (l ++ [x]) = step (from_ s l) x := by simp [from_]
theorem from_nil (s : Int) : from_ s [] = s := rfl
theorem hash_from (l : List Int) : hash l = from_ 11 l := rfl
theorem kh_from (k : Int) (l : List Int) : kh k l = step (from_ (step 11 k) l) k := kh_eq k l
end M

theorem impl_hashStep (acc v : Int) (w : World) (h0 : 0 ≤ acc) (h1 : acc < 2147483647) (hv : (Lit.int .i64 v).wf = true) :
    Calls Try.prog 65 #[.int .i64 acc, .int .i64 v] w fun e w' => e = .returned (.int .i64 (M.step acc v)) ∧ w = w' := by
  have hm : M.mod v 2147483647 = v % 2147483647 := M.mod_in (by omega)
  go_enter Try.func65, Try.ntmps65
  go_wp2_with (go_at_call 50; refine (impl_Mod _ _ _ hv (by decide)).mono ?_; rintro e w' ⟨rfl, rfl⟩)
  go_ret
  exact ⟨rfl, rfl⟩


set_option maxHeartbeats 1000000 in
theorem impl_KeyedHash (key : Int) (va : Value) (xs : List Int) (w : World) (hkey : (Lit.int .i64 key).wf = true) (ha : Rd .i64 w va xs) (hw : ∀ z ∈ xs, (Lit.int .i64 z).wf = true) :
    Calls Try.prog 47 #[.int .i64 key, va] w fun e w' => e = .returned (.int .i64 (M.kh key xs)) ∧ w = w' := by
  obtain ⟨A, c, rfl, h1, h2, h3⟩ := ha
  unfold maxLen at h2
  obtain ⟨n, hn⟩ : ∃ n, n = xs.length := ⟨_, rfl⟩
  rw [← hn] at h1 h3 ⊢
  have H3 := Lib.hid h3
  have HN := Lib.hid hn
  have HW := Lib.hid hw
  clear h3 hn hw
  obtain ⟨s0, hs0⟩ : ∃ s0, s0 = M.step 11 key := ⟨_, rfl⟩
  have hb0 := M.step_bd 11 key
  rw [M.kh_from, ← hs0]
  rw [← hs0] at hb0
  have HS0 := Lib.hid hs0
  clear hs0
  obtain ⟨d0, d1⟩ := hb0
  go_enter Try.func47, Try.ntmps47
  go_wp2_with (go_at_call 65; refine (impl_hashStep _ _ _ (by omega) (by omega) hkey).mono ?_; rw [← HS0.out]; rintro e w' ⟨rfl, rfl⟩)
  go_loop [5, 12] (fun q i => ∃ k : Nat, k ≤ n ∧ i = .int .i64 k ∧ q = .int .i64 (M.from_ s0 (xs.take k))) (fun _ i => n - (intOf i).toNat)
  case atStart => exact ⟨0, Nat.zero_le _, rfl, rfl⟩
  case round =>
    obtain ⟨k, hk, rfl, rfl⟩ := hrel
    have hb := M.from_bd s0 (xs.take k) d0 d1
    by_cases hlt : k < n
    · obtain ⟨b, off, rfl, hbw, hcell⟩ := H3.out (by omega)
      have c1 := hcell k hlt
      clear hcell H3
      have hkx : k < xs.length := by rw [← HN.out]; exact hlt
      have wx := HW.out _ (getD_mem xs k hkx)
      have hs := M.from_snoc s0 (xs.take k) (xs.getD k 0)
      rw [← take_succ_getD xs k hkx] at hs
      have HS := Lib.hid hs
      clear hs
      obtain ⟨x, hx⟩ : ∃ x, x = xs.getD k 0 := ⟨_, rfl⟩
      obtain ⟨a, hq⟩ : ∃ a, a = M.from_ s0 (xs.take k) := ⟨_, rfl⟩
      rw [← hx] at c1 wx HS
      rw [← hq] at hb HS ⊢
      clear hx hq
      obtain ⟨b0, b1⟩ := hb
      go_wp2_with (go_at_call 65; refine (impl_hashStep _ _ _ b0 b1 wx).mono ?_; rintro e w' ⟨rfl, rfl⟩)
      go_round
      case rel => exact ⟨k + 1, by omega, by go_num, by rw [HS.out]⟩
      case measure => simp [intOf]; omega
    · obtain rfl : k = n := by omega
      have he : xs.take k = xs := by rw [HN.out]; exact List.take_length
      rw [he] at hb ⊢
      obtain ⟨b0, b1⟩ := hb
      obtain ⟨a, hq⟩ : ∃ a, a = M.from_ s0 xs := ⟨_, rfl⟩
      rw [← hq] at b0 b1 ⊢
      have HQ := Lib.hid hq
      clear he hq
      go_wp2_with (go_at_call 65; refine (impl_hashStep _ _ _ b0 b1 hkey).mono ?_; rintro e w' ⟨rfl, rfl⟩)
      go_ret
      exact ⟨by rw [HQ.out]; rfl, rfl⟩

set_option maxHeartbeats 1000000 in
theorem spec_Hash (va : Value) (xs : List Int) (w : World) (ha : Rd .i64 w va xs) (hw : ∀ z ∈ xs, (Lit.int .i64 z).wf = true) :
    Calls Try.prog 69 #[va] w fun e w' => e = .returned (.int .i64 (M.hash xs)) ∧ w = w' := by
  obtain ⟨A, c, rfl, h1, h2, h3⟩ := ha
  unfold maxLen at h2
  obtain ⟨n, hn⟩ : ∃ n, n = xs.length := ⟨_, rfl⟩
  rw [← hn] at h1 h3 ⊢
  have H3 := Lib.hid h3
  have HN := Lib.hid hn
  have HW := Lib.hid hw
  clear h3 hn hw
  go_enter Try.func69, Try.ntmps69
  go_wp2
  go_loop [3, 4] (fun q i => ∃ k : Nat, k ≤ n ∧ i = .int .i64 k ∧ q = .int .i64 (M.from_ 11 (xs.take k))) (fun _ i => n - (intOf i).toNat)
  case atStart => exact ⟨0, Nat.zero_le _, rfl, rfl⟩
  case round =>
    obtain ⟨k, hk, rfl, rfl⟩ := hrel
    by_cases hlt : k < n
    · obtain ⟨b, off, rfl, hbw, hcell⟩ := H3.out (by omega)
      have c1 := hcell k hlt
      clear hcell H3
      have hkx : k < xs.length := by rw [← HN.out]; exact hlt
      have wx := HW.out _ (getD_mem xs k hkx)
      have hb := M.from_bd 11 (xs.take k) (by omega) (by omega)
      have hs := M.from_snoc 11 (xs.take k) (xs.getD k 0)
      rw [← take_succ_getD xs k hkx] at hs
      have HS := Lib.hid hs
      clear hs
      obtain ⟨x, hx⟩ : ∃ x, x = xs.getD k 0 := ⟨_, rfl⟩
      obtain ⟨a, hq⟩ : ∃ a, a = M.from_ 11 (xs.take k) := ⟨_, rfl⟩
      rw [← hx] at c1 wx HS
      rw [← hq] at hb HS ⊢
      clear hx hq
      obtain ⟨b0, b1⟩ := hb
      have hm : M.mod x 2147483647 = x % 2147483647 := M.mod_in (by omega)
      go_wp2_with (go_at_call 61; refine (spec_Mod _ _ _ wx (by decide)).mono ?_; rintro e w' ⟨rfl, rfl⟩)
      go_round
      case rel => exact ⟨k + 1, by omega, by go_num, by rw [HS.out]; rfl⟩
      case measure => simp [intOf]; omega
    · obtain rfl : k = n := by omega
      have he : xs.take k = xs := by rw [HN.out]; exact List.take_length
      rw [he]
      clear he
      rw [← M.hash_from]
      go_wp2
      go_ret
      exact ⟨rfl, rfl⟩

set_option maxHeartbeats 1000000 in
theorem spec_KeyedHash (key : Int) (va : Value) (xs : List Int) (w : World) (hkey : (Lit.int .i64 key).wf = true) (ha : Rd .i64 w va xs) (hw : ∀ z ∈ xs, (Lit.int .i64 z).wf = true) (hlen : xs.length ≤ 1099511627776) :
    Calls Try.prog 56 #[.int .i64 key, va] w fun e w' => e = .returned (.int .i64 (M.kh key xs)) ∧ Below w.heap.size w w' := by
  obtain ⟨i0, hi, hz0, hz1, hz2⟩ := info_parts infoIntH
  have hl0 : Own 3 .i64 (w.alloc (.cells #[.int .i64 key] 3)) w.heap.size (.slice (some ⟨w.heap.size, 0, none⟩) 1 1) [key] := Own.lit w w.heap.size [key] (Nat.le_refl _) (by simp [maxLen])
  have hr0 : Rd .i64 (w.alloc (.cells #[.int .i64 key] 3)) va xs := ha.alloc _
  clear ha
  go_enter Try.func56, Try.ntmps56
  go_wp2_with (first
    | (at_builtin
       refine wpList_append_rd _ rfl (.tmp 6) (.tmp 7) 77 rfl w.heap.size 3 i0 (.int .i64 0) 8 Try.underlying77 hi hz0 hz1 hz2 rfl (.slice (some ⟨w.heap.size, 0, none⟩) 1 1) va [key] xs rfl hl0 rfl hr0 (by simp [maxLen]; omega) (by simp; omega) (by simp) ?_
       intro v1 w1 hown1 hg1
       have hb1 : Below w.heap.size w w1 := Below.own (Below.al (Below.refl _ _) _) hg1 hl0 (Nat.le_refl _)
       have hl2 : Rd .i64 (w1.alloc (.cells #[.int .i64 key] 3)) (.slice (some ⟨w1.heap.size, 0, none⟩) 1 1) [key] := Rd.lit 3 w1 [key] (by simp [maxLen])
       have ho2 : Own 3 .i64 (w1.alloc (.cells #[.int .i64 key] 3)) w.heap.size v1 ([key] ++ xs) := hown1.below (Below.al (Below.refl _ _) _))
    | (at_builtin
       refine wpList_append_rd _ rfl (.tmp 8) (.tmp 10) 77 rfl w.heap.size 3 i0 (.int .i64 0) 8 Try.underlying77 hi hz0 hz1 hz2 rfl v1 (.slice (some ⟨w1.heap.size, 0, none⟩) 1 1) ([key] ++ xs) [key] rfl ho2 rfl hl2 (by simp [maxLen]; omega) (by simp; omega) (by have := hb1.size; simp; omega) ?_
       intro v2 w2 hown2 hg2))
  have hb2 : Below w.heap.size w w2 := Below.own (Below.al hb1 _) hg2 ho2 (Nat.le_refl _)
  have hr2 := hown2.rd
  clear hg2 ho2 hl2 hown1 hb1 hg1 hl0 hr0
  go_wp2_with (go_at_call 69; refine (spec_Hash _ _ _ hr2 ?_).mono ?_)
  · intro z hz
    simp at hz
    rcases hz with rfl | hz | rfl
    · exact hkey
    · exact hw z hz
    · exact hkey
  · rintro e w' ⟨rfl, rfl⟩
    go_wp2
    go_ret
    exact ⟨rfl, hb2⟩
end Go.Proofs.Ytfenmicakmjelaa
