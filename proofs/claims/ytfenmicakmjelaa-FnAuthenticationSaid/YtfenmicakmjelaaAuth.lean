/-
  Contracts: masks, sequence numbers, authentication vectors and resynchronization tokens.
-/
import Derived.Test.YtfenmicakmjelaaHash
import Derived.Test.YtfenmicakmjelaaIds
import Derived.Test.YtfenmicakmjelaaMemA
namespace Go.Proofs.Ytfenmicakmjelaa
open Go.RowKit

namespace M
def mask (k r : Int) : Int := kh k [1, r] % 1000000
theorem mask_bd (k r : Int) : 0 ≤ mask k r ∧ mask k r < 1000000 := by unfold mask; omega
def unmask (k r a : Int) : Int := (a % 1000000 - mask k r) % 1000000
theorem unmask_bd (k r a : Int) : 0 ≤ unmask k r a ∧ unmask k r a < 1000000 := by unfold unmask; omega
def pos1 (h : Int) : Int := if h = 0 then 1 else h
theorem max_pos1 (h : Int) (h0 : 0 ≤ h) : max 1 h = pos1 h := by
  unfold max pos1
  by_cases e : h = 0
  · rw [if_neg (by omega), if_pos e]
  · rw [if_neg e]
    by_cases e1 : 1 < h
    · rw [if_pos e1]
    · rw [if_neg e1]; omega
theorem pos1_bd (h : Int) (h0 : 0 ≤ h) (h1 : h < 2147483647) : 1 ≤ pos1 h ∧ pos1 h < 2147483647 := by
  unfold pos1; by_cases e : h = 0
  · rw [if_pos e]; omega
  · rw [if_neg e]; omega
def nv0 (r s : Int) : Int := if inR s 0 999999 = true then r else 0
def nv1 (k r s : Int) : Int := if inR s 0 999999 = true then (s + mask k r) % 1000000 else 0
def nv2 (k r s : Int) : Int := if inR s 0 999999 = true then kh k [2, r, s] else 0
def nv3 (k r s : Int) : Int := if inR s 0 999999 = true then kh k [3, r] else 0
def nv4 (k r s : Int) : Int := if inR s 0 999999 = true then pos1 (kh k [4, r, s]) else 0
def token (k r l : Int) : Int := if inR l 0 999999 = true then 1000000 * (kh k [5, r, l] % 1000) + l else -1
theorem token_bd (k r l : Int) : -1 ≤ token k r l ∧ token k r l < 1000000000 := by
  unfold token
  by_cases e : inR l 0 999999 = true
  · rw [if_pos e]
    have := (inR_iff _ _ _).1 e
    omega
  · rw [if_neg e]; omega
def pOk (k r t : Int) : Bool := decide (token k r (t % 1000000) = t)
def pSeq (k r t : Int) : Int := if pOk k r t = true then t % 1000000 else 0
def verify (k last r a m : Int) : Int :=
  if m = kh k [2, r, unmask k r a] then (if unmask k r a ≤ last then 2 else if last + 1000 < unmask k r a then 3 else 0) else 1
end M

theorem impl_SequenceMask (k r : Int) (w : World) (hk : (Lit.int .i64 k).wf = true) (hr : (Lit.int .i64 r).wf = true) :
    Calls Try.prog 46 #[.int .i64 k, .int .i64 r] w fun e w' => e = .returned (.int .i64 (M.mask k r)) ∧ w' = w.alloc (.cells #[.int .i64 1, .int .i64 r] 3) := by
  obtain ⟨b0, b1⟩ := M.kh_bd k [1, r]
  go_enter Try.func46, Try.ntmps46
  go_wp2_with fail
  refine (impl_KeyedHash _ _ [1, r] _ hk (Rd.litN 3 _ [1, r] _ _ (by simp) rfl (by simp [maxLen])) (wf2 (by decide) hr)).mono ?_
  rintro e w' ⟨rfl, rfl⟩
  go_wp2
  go_ret
  exact ⟨rfl, rfl⟩
theorem spec_SequenceMask (k r : Int) (w : World) (hk : (Lit.int .i64 k).wf = true) (hr : (Lit.int .i64 r).wf = true) :
    Calls Try.prog 68 #[.int .i64 k, .int .i64 r] w fun e w' => e = .returned (.int .i64 (M.mask k r)) ∧ Below w.heap.size w w' := by
  obtain ⟨b0, b1⟩ := M.kh_bd k [1, r]
  have hm : M.mod (M.kh k [1, r]) 1000000 = M.mask k r := M.mod_in (by omega)
  go_enter Try.func68, Try.ntmps68
  go_wp2_with fail
  refine (spec_KeyedHash _ _ [1, r] _ hk (Rd.litN 3 _ [1, r] _ _ (by simp) rfl (by simp [maxLen])) (wf2 (by decide) hr) (by simp)).mono ?_
  rintro e w1 ⟨rfl, hb⟩
  go_wp2_with fail
  refine (spec_Mod _ _ _ (WalkArith.wf_i64 (by omega)) (by decide)).mono ?_
  rw [hm]
  rintro e w' ⟨rfl, rfl⟩
  go_wp2
  go_ret
  exact ⟨rfl, Below.next (Below.al (Below.refl _ _) _) hb⟩
theorem impl_UnmaskSequence (k r a : Int) (w : World) (hk : (Lit.int .i64 k).wf = true) (hr : (Lit.int .i64 r).wf = true) (ha : (Lit.int .i64 a).wf = true) :
    Calls Try.prog 20 #[.int .i64 k, .int .i64 r, .int .i64 a] w fun e w' => e = .returned (.int .i64 (M.unmask k r a)) ∧ w' = w.alloc (.cells #[.int .i64 1, .int .i64 r] 3) := by
  obtain ⟨b0, b1⟩ := M.mask_bd k r
  have hm : M.mod a 1000000 = a % 1000000 := M.mod_in (by omega)
  have hm2 : M.mod (a % 1000000 - M.mask k r) 1000000 = M.unmask k r a := M.mod_in (by omega)
  go_enter Try.func20, Try.ntmps20
  go_wp2_with fail
  refine (impl_Mod _ _ _ ha (by decide)).mono ?_
  rw [hm]
  rintro e w' ⟨rfl, rfl⟩
  go_wp2_with fail
  refine (impl_SequenceMask _ _ _ hk hr).mono ?_
  rintro e w1 ⟨rfl, rfl⟩
  go_wp2_with fail
  refine (impl_Mod _ _ _ (WalkArith.wf_i64 (by omega)) (by decide)).mono ?_
  rw [hm2]
  rintro e w' ⟨rfl, rfl⟩
  go_wp2
  go_ret
  exact ⟨rfl, rfl⟩
theorem impl_ResyncToken (k r l : Int) (w : World) (hk : (Lit.int .i64 k).wf = true) (hr : (Lit.int .i64 r).wf = true) (hl : (Lit.int .i64 l).wf = true) :
    Calls Try.prog 48 #[.int .i64 k, .int .i64 r, .int .i64 l] w fun e w' => e = .returned (.int .i64 (M.token k r l)) ∧ Below w.heap.size w w' := by
  unfold M.token
  cases hin : M.inR l 0 999999
  · rw [if_neg (by simp)]
    go_enter Try.func48, Try.ntmps48
    go_wp2_with fail
    refine (impl_InRange _ _ _ _).mono ?_
    rw [hin]
    rintro e w' ⟨rfl, rfl⟩
    go_wp2
    go_ret
    exact ⟨rfl, Below.refl _ _⟩
  · rw [if_pos rfl]
    obtain ⟨l0, l1⟩ := (M.inR_iff _ _ _).1 hin
    obtain ⟨b0, b1⟩ := M.kh_bd k [5, r, l]
    have hm : M.mod (M.kh k [5, r, l]) 1000 = M.kh k [5, r, l] % 1000 := M.mod_in (by omega)
    have HM := Lib.hid hm
    clear hm
    go_enter Try.func48, Try.ntmps48
    go_wp2_with fail
    refine (impl_InRange _ _ _ _).mono ?_
    rw [hin]
    rintro e w' ⟨rfl, rfl⟩
    go_wp2_with fail
    refine (impl_KeyedHash _ _ [5, r, l] _ hk (Rd.litN 3 _ [5, r, l] _ _ (by simp) rfl (by simp [maxLen])) (wf3 (by decide) hr hl)).mono ?_
    rintro e w1 ⟨rfl, hb⟩
    go_wp2
    go_ret
    exact ⟨rfl, by rw [← hb]; exact Below.al (Below.refl _ _) _⟩
theorem spec_UnmaskSequence (k r a : Int) (w : World) (hk : (Lit.int .i64 k).wf = true) (hr : (Lit.int .i64 r).wf = true) (ha : (Lit.int .i64 a).wf = true) :
    Calls Try.prog 55 #[.int .i64 k, .int .i64 r, .int .i64 a] w fun e w' => e = .returned (.int .i64 (M.unmask k r a)) ∧ Below w.heap.size w w' := by
  obtain ⟨b0, b1⟩ := M.mask_bd k r
  have hm : M.mod a 1000000 = a % 1000000 := M.mod_in (by omega)
  have hm2 : M.mod (a % 1000000 - M.mask k r) 1000000 = M.unmask k r a := M.mod_in (by omega)
  go_enter Try.func55, Try.ntmps55
  go_wp2_with fail
  refine (spec_Mod _ _ _ ha (by decide)).mono ?_
  rw [hm]
  rintro e w' ⟨rfl, rfl⟩
  go_wp2_with fail
  refine (spec_SequenceMask _ _ _ hk hr).mono ?_
  rintro e w1 ⟨rfl, hb⟩
  go_wp2_with fail
  refine (spec_Mod _ _ _ (WalkArith.wf_i64 (by omega)) (by decide)).mono ?_
  rw [hm2]
  rintro e w' ⟨rfl, rfl⟩
  go_wp2
  go_ret
  exact ⟨rfl, hb⟩
theorem spec_ResyncToken (k r l : Int) (w : World) (hk : (Lit.int .i64 k).wf = true) (hr : (Lit.int .i64 r).wf = true) (hl : (Lit.int .i64 l).wf = true) :
    Calls Try.prog 34 #[.int .i64 k, .int .i64 r, .int .i64 l] w fun e w' => e = .returned (.int .i64 (M.token k r l)) ∧ Below w.heap.size w w' := by
  unfold M.token
  cases hin : M.inR l 0 999999
  · rw [if_neg (by simp)]
    go_enter Try.func34, Try.ntmps34
    go_wp2_with fail
    refine (spec_l1In _ _ _ _).mono ?_
    rw [hin]
    rintro e w' ⟨rfl, rfl⟩
    go_wp2
    go_ret
    exact ⟨rfl, Below.refl _ _⟩
  · rw [if_pos rfl]
    obtain ⟨l0, l1⟩ := (M.inR_iff _ _ _).1 hin
    obtain ⟨b0, b1⟩ := M.kh_bd k [5, r, l]
    have hm : M.mod (M.kh k [5, r, l]) 1000 = M.kh k [5, r, l] % 1000 := M.mod_in (by omega)
    have HM := Lib.hid hm
    clear hm
    go_enter Try.func34, Try.ntmps34
    go_wp2_with fail
    refine (spec_l1In _ _ _ _).mono ?_
    rw [hin]
    rintro e w' ⟨rfl, rfl⟩
    go_wp2_with fail
    refine (spec_KeyedHash _ _ [5, r, l] _ hk (Rd.litN 3 _ [5, r, l] _ _ (by simp) rfl (by simp [maxLen])) (wf3 (by decide) hr hl) (by simp)).mono ?_
    rintro e w1 ⟨rfl, hb⟩
    go_wp2_with fail
    refine (spec_Mod _ _ _ (WalkArith.wf_i64 (by omega)) (by decide)).mono ?_
    rw [HM.out]
    rintro e w' ⟨rfl, rfl⟩
    go_wp2
    go_ret
    exact ⟨rfl, Below.next (Below.al (Below.refl _ _) _) hb⟩
theorem impl_ParseResyncToken (k r t : Int) (w : World) (hk : (Lit.int .i64 k).wf = true) (hr : (Lit.int .i64 r).wf = true) (ht : (Lit.int .i64 t).wf = true) :
    Calls Try.prog 63 #[.int .i64 k, .int .i64 r, .int .i64 t] w fun e w' => e = .returned (.tuple #[.int .i64 (M.pSeq k r t), .bool (M.pOk k r t)]) ∧ Below w.heap.size w w' := by
  obtain ⟨t0, t1⟩ := bounds_i64 ht
  by_cases hneg : t < 0
  · have hf : M.pOk k r t = false := by
      have := M.token_bd k r (t % 1000000)
      have h2 : M.token k r (t % 1000000) ≠ t ∨ True := .inr trivial
      unfold M.pOk M.token
      rw [M.inR_true (by omega), if_pos rfl]
      have := M.kh_bd k [5, r, t % 1000000]
      simp
      omega
    unfold M.pSeq
    rw [hf, if_neg (by simp)]
    go_enter Try.func63, Try.ntmps63
    go_wp2
    go_ret2
    exact ⟨rfl, Below.refl _ _⟩
  · have hs : t.tmod 1000000 = t % 1000000 := Int.tmod_eq_emod_of_nonneg (by omega)
    cases hp : M.pOk k r t
    · have hne : (M.token k r (t % 1000000) != t) = true := by unfold M.pOk at hp; simpa using hp
      unfold M.pSeq
      rw [hp, if_neg (by simp)]
      go_enter Try.func63, Try.ntmps63
      go_wp2_with fail
      refine (impl_ResyncToken _ _ _ _ hk hr (WalkArith.wf_i64 (by omega))).mono ?_
      rintro e w1 ⟨rfl, hb⟩
      go_wp2
      go_ret2
      exact ⟨rfl, hb⟩
    · have hne : (M.token k r (t % 1000000) != t) = false := by unfold M.pOk at hp; simpa using hp
      unfold M.pSeq
      rw [hp, if_pos rfl]
      go_enter Try.func63, Try.ntmps63
      go_wp2_with fail
      refine (impl_ResyncToken _ _ _ _ hk hr (WalkArith.wf_i64 (by omega))).mono ?_
      rintro e w1 ⟨rfl, hb⟩
      go_wp2
      go_ret2
      exact ⟨rfl, hb⟩
theorem spec_ParseResyncToken (k r t : Int) (w : World) (hk : (Lit.int .i64 k).wf = true) (hr : (Lit.int .i64 r).wf = true) (ht : (Lit.int .i64 t).wf = true) :
    Calls Try.prog 62 #[.int .i64 k, .int .i64 r, .int .i64 t] w fun e w' => e = .returned (.tuple #[.int .i64 (M.pSeq k r t), .bool (M.pOk k r t)]) ∧ Below w.heap.size w w' := by
  have hm : M.mod t 1000000 = t % 1000000 := M.mod_in (by omega)
  cases hp : M.pOk k r t
  · have hne : (t != M.token k r (t % 1000000)) = true := by unfold M.pOk at hp; simp at hp ⊢; exact fun h => hp h.symm
    unfold M.pSeq
    rw [hp, if_neg (by simp)]
    go_enter Try.func62, Try.ntmps62
    go_wp2_with fail
    refine (spec_Mod _ _ _ ht (by decide)).mono ?_
    rw [hm]
    rintro e w' ⟨rfl, rfl⟩
    go_wp2_with fail
    refine (spec_ResyncToken _ _ _ _ hk hr (WalkArith.wf_i64 (by omega))).mono ?_
    rintro e w1 ⟨rfl, hb⟩
    go_wp2
    go_ret2
    exact ⟨rfl, hb⟩
  · have hne : (t != M.token k r (t % 1000000)) = false := by unfold M.pOk at hp; simp at hp ⊢; exact hp.symm
    unfold M.pSeq
    rw [hp, if_pos rfl]
    go_enter Try.func62, Try.ntmps62
    go_wp2_with fail
    refine (spec_Mod _ _ _ ht (by decide)).mono ?_
    rw [hm]
    rintro e w' ⟨rfl, rfl⟩
    go_wp2_with fail
    refine (spec_ResyncToken _ _ _ _ hk hr (WalkArith.wf_i64 (by omega))).mono ?_
    rintro e w1 ⟨rfl, hb⟩
    go_wp2
    go_ret2
    exact ⟨rfl, hb⟩
end Go.Proofs.Ytfenmicakmjelaa
