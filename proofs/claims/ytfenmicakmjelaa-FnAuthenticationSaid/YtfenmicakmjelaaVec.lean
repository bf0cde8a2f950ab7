/-
  Contracts: authentication vectors made and compared.
-/
import Derived.Test.YtfenmicakmjelaaAuth
import Derived.Deep.RegionHeld3
import Derived.Test.YtfenmicakmjelaaMemA
namespace Go.Proofs.Ytfenmicakmjelaa
open Go.RowKit

set_option maxHeartbeats 2000000 in
theorem impl_NewAuthVector (k r s : Int) (w : World) (hk : (Lit.int .i64 k).wf = true) (hr : (Lit.int .i64 r).wf = true) (hs : (Lit.int .i64 s).wf = true) :
    Calls Try.prog 16 #[.int .i64 k, .int .i64 r, .int .i64 s] w fun e w' => e = .returned (.agg #[.int .i64 (M.nv0 r s), .int .i64 (M.nv1 k r s), .int .i64 (M.nv2 k r s), .int .i64 (M.nv3 k r s), .int .i64 (M.nv4 k r s)]) ∧ Below w.heap.size w w' := by
  unfold M.nv0 M.nv1 M.nv2 M.nv3 M.nv4
  cases hin : M.inR s 0 999999
  · simp only [Bool.false_eq_true, if_false]
    go_enter Try.func16, Try.ntmps16
    go_wp2_with fail
    refine (impl_InRange _ _ _ _).mono ?_
    rw [hin]
    rintro e w' ⟨rfl, rfl⟩
    go_wp2
    refine bodyPost_ret (v := .agg #[.int .i64 0, .int .i64 0, .int .i64 0, .int .i64 0, .int .i64 0]) (by simp [results, Try.results16, go_sem]) rfl ⟨rfl, ?_⟩
    exact (by repeat (first | (with_reducible exact Below.refl _ _) | (with_reducible refine Below.al ?_ _) | (with_reducible refine Below.dn ?_ _)))
  · simp only [if_true]
    obtain ⟨s0, s1⟩ := (M.inR_iff _ _ _).1 hin
    obtain ⟨m0, m1⟩ := M.mask_bd k r
    unfold M.pos1
    cases hz : (M.kh k [4, r, s] == 0)
    all_goals
      have hz' := hz
      simp only [beq_iff_eq, beq_eq_false_iff_ne, ne_eq] at hz'
      simp only [hz', if_true, if_false]
      have HZ := Lib.hid hz'
      clear hz'
      go_enter Try.func16, Try.ntmps16
      go_wp2_with fail
      refine (impl_InRange _ _ _ _).mono ?_
      rw [hin]
      rintro e w' ⟨rfl, rfl⟩
      go_wp2_with fail
      refine (impl_SequenceMask _ _ _ hk hr).mono ?_
      rintro e w' ⟨rfl, rfl⟩
      go_wp2_with fail
      refine (impl_KeyedHash _ _ [2, r, s] _ hk (Rd.litN 3 _ [2, r, s] _ _ (by simp) rfl (by simp [maxLen])) (wf3 (by decide) hr hs)).mono ?_
      rintro e w' ⟨rfl, rfl⟩
      go_wp2_with fail
      refine (impl_KeyedHash _ _ [3, r] _ hk (Rd.litN 3 _ [3, r] _ _ (by simp) rfl (by simp [maxLen])) (wf2 (by decide) hr)).mono ?_
      rintro e w' ⟨rfl, rfl⟩
      go_wp2_with fail
      refine (impl_KeyedHash _ _ [4, r, s] _ hk (Rd.litN 3 _ [4, r, s] _ _ (by simp) rfl (by simp [maxLen])) (wf3 (by decide) hr hs)).mono ?_
      rintro e w' ⟨rfl, rfl⟩
      go_wp2
    · refine bodyPost_ret (v := .agg #[.int .i64 r, .int .i64 ((s + M.mask k r) % 1000000), .int .i64 (M.kh k [2, r, s]), .int .i64 (M.kh k [3, r]), .int .i64 (M.kh k [4, r, s])]) (by simp [results, Try.results16, go_sem]) rfl ⟨rfl, ?_⟩
      exact (by repeat (first | (with_reducible exact Below.refl _ _) | (with_reducible refine Below.al ?_ _) | (with_reducible refine Below.dn ?_ _)))
    · refine bodyPost_ret (v := .agg #[.int .i64 r, .int .i64 ((s + M.mask k r) % 1000000), .int .i64 (M.kh k [2, r, s]), .int .i64 (M.kh k [3, r]), .int .i64 1]) (by simp [results, Try.results16, go_sem]) rfl ⟨rfl, ?_⟩
      exact (by repeat (first | (with_reducible exact Below.refl _ _) | (with_reducible refine Below.al ?_ _) | (with_reducible refine Below.dn ?_ _)))

set_option maxHeartbeats 2000000 in
theorem spec_NewAuthVector (k r s : Int) (w : World) (hk : (Lit.int .i64 k).wf = true) (hr : (Lit.int .i64 r).wf = true) (hs : (Lit.int .i64 s).wf = true) :
    Calls Try.prog 57 #[.int .i64 k, .int .i64 r, .int .i64 s] w fun e w' => e = .returned (.agg #[.int .i64 (M.nv0 r s), .int .i64 (M.nv1 k r s), .int .i64 (M.nv2 k r s), .int .i64 (M.nv3 k r s), .int .i64 (M.nv4 k r s)]) ∧ Below w.heap.size w w' := by
  unfold M.nv0 M.nv1 M.nv2 M.nv3 M.nv4
  cases hin : M.inR s 0 999999
  · simp only [Bool.false_eq_true, if_false]
    go_enter Try.func57, Try.ntmps57
    go_wp2_with fail
    refine (spec_l1In _ _ _ _).mono ?_
    rw [hin]
    rintro e w' ⟨rfl, rfl⟩
    go_wp2
    refine bodyPost_ret (v := .agg #[.int .i64 0, .int .i64 0, .int .i64 0, .int .i64 0, .int .i64 0]) (by simp [results, Try.results57, go_sem]) rfl ⟨rfl, ?_⟩
    exact (by repeat (first | (with_reducible exact Below.refl _ _) | (with_reducible refine Below.al ?_ _) | (with_reducible refine Below.dn ?_ _)))
  · simp only [if_true]
    obtain ⟨s0, s1⟩ := (M.inR_iff _ _ _).1 hin
    obtain ⟨m0, m1⟩ := M.mask_bd k r
    obtain ⟨q0, q1⟩ := M.kh_bd k [4, r, s]
    have hm : M.mod (s + M.mask k r) 1000000 = (s + M.mask k r) % 1000000 := M.mod_in (by omega)
    have hp : M.max 1 (M.kh k [4, r, s]) = M.pos1 (M.kh k [4, r, s]) := M.max_pos1 _ q0
    have HM := Lib.hid hm
    have HP := Lib.hid hp
    clear hm hp
    have hg0 : (w.alloc (.cells #[.int .i64 0, .int .i64 0, .int .i64 0, .int .i64 0, .int .i64 0] 45)).heap[w.heap.size]? = some (.cells #[.int .i64 0, .int .i64 0, .int .i64 0, .int .i64 0, .int .i64 0] 45 (0, 0)) := heap_alloc_new w _
    have HG0 := Lib.hid hg0
    have B0 := Below.al (Below.refl w.heap.size w) (.cells #[.int .i64 0, .int .i64 0, .int .i64 0, .int .i64 0, .int .i64 0] 45)
    clear hg0
    go_enter Try.func57, Try.ntmps57
    go_wp2_with fail
    refine (spec_l1In _ _ _ _).mono ?_
    rw [hin]
    rintro e w' ⟨rfl, rfl⟩
    go_wp2_with fail
    refine (spec_SequenceMask _ _ _ hk hr).mono ?_
    rintro e u1 ⟨rfl, b1⟩
    have HG1 := Lib.hid (cells_of_below b1 HG0.out)
    replace B0 := Below.next B0 b1
    go_wp2_with fail
    refine (spec_Mod _ _ _ (WalkArith.wf_i64 (by omega)) (by decide)).mono ?_
    rw [HM.out]
    rintro e w' ⟨rfl, rfl⟩
    go_wp2_with fail
    refine (spec_KeyedHash _ _ [2, r, s] _ hk (Rd.litN 3 _ [2, r, s] _ _ (by simp) rfl (by simp [maxLen])) (wf3 (by decide) hr hs) (by simp)).mono ?_
    rintro e u2 ⟨rfl, b2⟩
    have HG2 := Lib.hid (cells_of_below b2 ((Below.heap_alloc u1 _ _ (Array.getElem?_eq_some_iff.1 HG1.out).1).trans HG1.out))
    replace B0 := Below.next (Below.al B0 _) b2
    go_wp2_with fail
    refine (spec_KeyedHash _ _ [3, r] _ hk (Rd.litN 3 _ [3, r] _ _ (by simp) rfl (by simp [maxLen])) (wf2 (by decide) hr) (by simp)).mono ?_
    rintro e u3 ⟨rfl, b3⟩
    have HG3 := Lib.hid (cells_of_below b3 ((Below.heap_alloc u2 _ _ (Array.getElem?_eq_some_iff.1 HG2.out).1).trans HG2.out))
    replace B0 := Below.next (Below.al B0 _) b3
    go_wp2_with fail
    refine (spec_KeyedHash _ _ [4, r, s] _ hk (Rd.litN 3 _ [4, r, s] _ _ (by simp) rfl (by simp [maxLen])) (wf3 (by decide) hr hs) (by simp)).mono ?_
    rintro e u4 ⟨rfl, b4⟩
    have HG4 := Lib.hid (cells_of_below b4 ((Below.heap_alloc u3 _ _ (Array.getElem?_eq_some_iff.1 HG3.out).1).trans HG3.out))
    replace B0 := Below.next (Below.al B0 _) b4
    clear b1 b2 b3 b4
    have c0 := cell_of HG4.out 0
    have c1 := cell_of HG4.out 1
    have c2 := cell_of HG4.out 2
    have c3 := cell_of HG4.out 3
    have c4 := cell_of HG4.out 4
    simp only [List.getElem?_toArray, List.getElem?_cons_zero, List.getElem?_cons_succ] at c0 c1 c2 c3 c4
    have fr := free_of HG4.out
    go_wp2_with fail
    refine (spec_Max _ _ _).mono ?_
    rw [HP.out]
    rintro e w' ⟨rfl, rfl⟩
    go_wp2
    refine bodyPost_ret (v := .agg #[.int .i64 r, .int .i64 ((s + M.mask k r) % 1000000), .int .i64 (M.kh k [2, r, s]), .int .i64 (M.kh k [3, r]), .int .i64 (M.pos1 (M.kh k [4, r, s]))]) (by simp [results, Try.results57, go_sem, *]) rfl ⟨rfl, ?_⟩
    exact (by repeat (first | (with_reducible exact B0) | (with_reducible refine Below.st ?_ _ _ _ (by omega)) | (with_reducible refine Below.al ?_ _) | (with_reducible refine Below.dn ?_ _) | (with_reducible refine Below.drew ?_)))

set_option maxHeartbeats 4000000 in
theorem impl_VerifyVector (k last r a m x y : Int) (w : World) (hk : (Lit.int .i64 k).wf = true) (hl : (Lit.int .i64 last).wf = true) (hr : (Lit.int .i64 r).wf = true) (ha : (Lit.int .i64 a).wf = true) :
    Calls Try.prog 21 #[.int .i64 k, .int .i64 last, .agg #[.int .i64 r, .int .i64 a, .int .i64 m, .int .i64 x, .int .i64 y]] w fun e w' => e = .returned (.int .i64 (M.verify k last r a m)) ∧ Below w.heap.size w w' := by
  obtain ⟨l0, l1⟩ := bounds_i64 hl
  obtain ⟨s0, s1⟩ := M.unmask_bd k r a
  have hu : (Lit.int .i64 (M.unmask k r a)).wf = true := WalkArith.wf_i64 (by omega)
  have HG0 : Hid ((w.alloc (.cells #[.int .i64 r, .int .i64 a, .int .i64 m, .int .i64 x, .int .i64 y] 45)).heap[w.heap.size]? = some (.cells #[.int .i64 r, .int .i64 a, .int .i64 m, .int .i64 x, .int .i64 y] 45 (0, 0))) := Lib.hid (heap_alloc_new w _)
  have B0 := Below.al (Below.refl w.heap.size w) (.cells #[.int .i64 r, .int .i64 a, .int .i64 m, .int .i64 x, .int .i64 y] 45)
  have hv : ∃ n : Int, n = M.verify k last r a m := ⟨_, rfl⟩
  obtain ⟨n, hn⟩ := hv
  rw [← hn]
  unfold M.verify at hn
  cases hm : (m != M.kh k [2, r, M.unmask k r a])
  · have hme : m = M.kh k [2, r, M.unmask k r a] := by simpa using hm
    rw [if_pos hme] at hn
    have HM := Lib.hid hm
    clear hme hm
    by_cases h2 : M.unmask k r a ≤ last
    · rw [if_pos h2] at hn
      have HN := Lib.hid hn
      clear hn
      go_enter Try.func21, Try.ntmps21
      go_wp2_with fail
      refine (impl_UnmaskSequence _ _ _ _ hk hr ha).mono ?_
      rintro e u1 ⟨rfl, h1⟩
      have b1 := below_of_alloc h1
      clear h1
      have HG1 := Lib.hid (cells_of_below b1 HG0.out)
      replace B0 := Below.next B0 b1
      have c0 := cell_of HG1.out 0
      have c2 := cell_of HG1.out 2
      simp only [List.getElem?_toArray, List.getElem?_cons_zero, List.getElem?_cons_succ] at c0 c2
      have lg : w.heap.size < u1.heap.size := (Array.getElem?_eq_some_iff.1 HG1.out).1
      have hlk : Rd .i64 (u1.drew.alloc (.cells #[.int .i64 2, .int .i64 r, .int .i64 (M.unmask k r a)] 3)) (.slice (some ⟨u1.heap.size, 0, none⟩) 3 3) [2, r, M.unmask k r a] := Rd.lit 3 u1.drew [2, r, M.unmask k r a] (by simp [maxLen])
      have HWF := Lib.hid (wf3 (a := 2) (by decide) hr hu)
      have hl3 : [2, r, M.unmask k r a].length ≤ 1099511627776 := by simp
      have hd2 : Below (u1.drew.alloc (.cells #[.int .i64 2, .int .i64 r, .int .i64 (M.unmask k r a)] 3)).heap.size (u1.drew.alloc (.cells #[.int .i64 2, .int .i64 r, .int .i64 (M.unmask k r a)] 3)) (u1.drew.alloc (.cells #[.int .i64 2, .int .i64 r, .int .i64 (M.unmask k r a)] 3)) := Below.refl _ _
      have HGA := Lib.hid ((Below.heap_alloc u1.drew (.cells #[.int .i64 2, .int .i64 r, .int .i64 (M.unmask k r a)] 3) _ (Array.getElem?_eq_some_iff.1 HG1.out).1).trans HG1.out)
      clear hd2
      go_wp2
      go_region_held3 (fun w' => w'.cell? ⟨w.heap.size, 0, none⟩ = some (.int .i64 r) ∧ w'.cell? ⟨w.heap.size, 2, none⟩ = some (.int .i64 m)) (go_keep)
        (first
          | (go_at_call 47; refine (impl_KeyedHash _ _ [2, r, M.unmask k r a] _ hk hlk HWF.out).mono ?_; rintro e w' ⟨rfl, rfl⟩))
      have hmt := HM.out
      go_wp2
      go_ret
      exact ⟨by rw [HN.out]; rfl, (by repeat (first | (with_reducible exact B0) | (with_reducible refine Below.st ?_ _ _ _ (by omega)) | (with_reducible refine Below.al ?_ _) | (with_reducible refine Below.dn ?_ _) | (with_reducible refine Below.drew ?_)))⟩
    · rw [if_neg h2] at hn
      by_cases h3 : last + 1000 < M.unmask k r a
      · rw [if_pos h3] at hn
        clear h2
        have h2 : last < M.unmask k r a := by omega
        have HN := Lib.hid hn
        clear hn
        go_enter Try.func21, Try.ntmps21
        go_wp2_with fail
        refine (impl_UnmaskSequence _ _ _ _ hk hr ha).mono ?_
        rintro e u1 ⟨rfl, h1⟩
        have b1 := below_of_alloc h1
        clear h1
        have HG1 := Lib.hid (cells_of_below b1 HG0.out)
        replace B0 := Below.next B0 b1
        have c0 := cell_of HG1.out 0
        have c2 := cell_of HG1.out 2
        simp only [List.getElem?_toArray, List.getElem?_cons_zero, List.getElem?_cons_succ] at c0 c2
        have lg : w.heap.size < u1.heap.size := (Array.getElem?_eq_some_iff.1 HG1.out).1
        have hlk : Rd .i64 (u1.drew.alloc (.cells #[.int .i64 2, .int .i64 r, .int .i64 (M.unmask k r a)] 3)) (.slice (some ⟨u1.heap.size, 0, none⟩) 3 3) [2, r, M.unmask k r a] := Rd.lit 3 u1.drew [2, r, M.unmask k r a] (by simp [maxLen])
        have HWF := Lib.hid (wf3 (a := 2) (by decide) hr hu)
        have hl3 : [2, r, M.unmask k r a].length ≤ 1099511627776 := by simp
        have hd2 : Below (u1.drew.alloc (.cells #[.int .i64 2, .int .i64 r, .int .i64 (M.unmask k r a)] 3)).heap.size (u1.drew.alloc (.cells #[.int .i64 2, .int .i64 r, .int .i64 (M.unmask k r a)] 3)) (u1.drew.alloc (.cells #[.int .i64 2, .int .i64 r, .int .i64 (M.unmask k r a)] 3)) := Below.refl _ _
        have HGA := Lib.hid ((Below.heap_alloc u1.drew (.cells #[.int .i64 2, .int .i64 r, .int .i64 (M.unmask k r a)] 3) _ (Array.getElem?_eq_some_iff.1 HG1.out).1).trans HG1.out)
        clear hd2
        go_wp2
        go_region_held3 (fun w' => w'.cell? ⟨w.heap.size, 0, none⟩ = some (.int .i64 r) ∧ w'.cell? ⟨w.heap.size, 2, none⟩ = some (.int .i64 m)) (go_keep)
          (first
            | (go_at_call 47; refine (impl_KeyedHash _ _ [2, r, M.unmask k r a] _ hk hlk HWF.out).mono ?_; rintro e w' ⟨rfl, rfl⟩))
        have hmt := HM.out
        go_wp2
        go_ret
        exact ⟨by rw [HN.out]; rfl, (by repeat (first | (with_reducible exact B0) | (with_reducible refine Below.st ?_ _ _ _ (by omega)) | (with_reducible refine Below.al ?_ _) | (with_reducible refine Below.dn ?_ _) | (with_reducible refine Below.drew ?_)))⟩
      · rw [if_neg h3] at hn
        have h4 : last < M.unmask k r a := by omega
        have h5 : M.unmask k r a ≤ last + 1000 := by omega
        clear h2 h3
        have HN := Lib.hid hn
        clear hn
        go_enter Try.func21, Try.ntmps21
        go_wp2_with fail
        refine (impl_UnmaskSequence _ _ _ _ hk hr ha).mono ?_
        rintro e u1 ⟨rfl, h1⟩
        have b1 := below_of_alloc h1
        clear h1
        have HG1 := Lib.hid (cells_of_below b1 HG0.out)
        replace B0 := Below.next B0 b1
        have c0 := cell_of HG1.out 0
        have c2 := cell_of HG1.out 2
        simp only [List.getElem?_toArray, List.getElem?_cons_zero, List.getElem?_cons_succ] at c0 c2
        have lg : w.heap.size < u1.heap.size := (Array.getElem?_eq_some_iff.1 HG1.out).1
        have hlk : Rd .i64 (u1.drew.alloc (.cells #[.int .i64 2, .int .i64 r, .int .i64 (M.unmask k r a)] 3)) (.slice (some ⟨u1.heap.size, 0, none⟩) 3 3) [2, r, M.unmask k r a] := Rd.lit 3 u1.drew [2, r, M.unmask k r a] (by simp [maxLen])
        have HWF := Lib.hid (wf3 (a := 2) (by decide) hr hu)
        have hl3 : [2, r, M.unmask k r a].length ≤ 1099511627776 := by simp
        have hd2 : Below (u1.drew.alloc (.cells #[.int .i64 2, .int .i64 r, .int .i64 (M.unmask k r a)] 3)).heap.size (u1.drew.alloc (.cells #[.int .i64 2, .int .i64 r, .int .i64 (M.unmask k r a)] 3)) (u1.drew.alloc (.cells #[.int .i64 2, .int .i64 r, .int .i64 (M.unmask k r a)] 3)) := Below.refl _ _
        have HGA := Lib.hid ((Below.heap_alloc u1.drew (.cells #[.int .i64 2, .int .i64 r, .int .i64 (M.unmask k r a)] 3) _ (Array.getElem?_eq_some_iff.1 HG1.out).1).trans HG1.out)
        clear hd2
        go_wp2
        go_region_held3 (fun w' => w'.cell? ⟨w.heap.size, 0, none⟩ = some (.int .i64 r) ∧ w'.cell? ⟨w.heap.size, 2, none⟩ = some (.int .i64 m)) (go_keep)
          (first
            | (go_at_call 47; refine (impl_KeyedHash _ _ [2, r, M.unmask k r a] _ hk hlk HWF.out).mono ?_; rintro e w' ⟨rfl, rfl⟩))
        have hmt := HM.out
        go_wp2
        go_ret
        exact ⟨by rw [HN.out]; rfl, (by repeat (first | (with_reducible exact B0) | (with_reducible refine Below.st ?_ _ _ _ (by omega)) | (with_reducible refine Below.al ?_ _) | (with_reducible refine Below.dn ?_ _) | (with_reducible refine Below.drew ?_)))⟩
  · have hme : ¬ m = M.kh k [2, r, M.unmask k r a] := by simpa using hm
    rw [if_neg hme] at hn
    have HM := Lib.hid hm
    clear hme hm
    have HN := Lib.hid hn
    clear hn
    go_enter Try.func21, Try.ntmps21
    go_wp2_with fail
    refine (impl_UnmaskSequence _ _ _ _ hk hr ha).mono ?_
    rintro e u1 ⟨rfl, h1⟩
    have b1 := below_of_alloc h1
    clear h1
    have HG1 := Lib.hid (cells_of_below b1 HG0.out)
    replace B0 := Below.next B0 b1
    have c0 := cell_of HG1.out 0
    have c2 := cell_of HG1.out 2
    simp only [List.getElem?_toArray, List.getElem?_cons_zero, List.getElem?_cons_succ] at c0 c2
    have lg : w.heap.size < u1.heap.size := (Array.getElem?_eq_some_iff.1 HG1.out).1
    have hlk : Rd .i64 (u1.drew.alloc (.cells #[.int .i64 2, .int .i64 r, .int .i64 (M.unmask k r a)] 3)) (.slice (some ⟨u1.heap.size, 0, none⟩) 3 3) [2, r, M.unmask k r a] := Rd.lit 3 u1.drew [2, r, M.unmask k r a] (by simp [maxLen])
    have HWF := Lib.hid (wf3 (a := 2) (by decide) hr hu)
    have hl3 : [2, r, M.unmask k r a].length ≤ 1099511627776 := by simp
    have hd2 : Below (u1.drew.alloc (.cells #[.int .i64 2, .int .i64 r, .int .i64 (M.unmask k r a)] 3)).heap.size (u1.drew.alloc (.cells #[.int .i64 2, .int .i64 r, .int .i64 (M.unmask k r a)] 3)) (u1.drew.alloc (.cells #[.int .i64 2, .int .i64 r, .int .i64 (M.unmask k r a)] 3)) := Below.refl _ _
    have HGA := Lib.hid ((Below.heap_alloc u1.drew (.cells #[.int .i64 2, .int .i64 r, .int .i64 (M.unmask k r a)] 3) _ (Array.getElem?_eq_some_iff.1 HG1.out).1).trans HG1.out)
    clear hd2
    go_wp2
    go_region_held3 (fun w' => w'.cell? ⟨w.heap.size, 0, none⟩ = some (.int .i64 r) ∧ w'.cell? ⟨w.heap.size, 2, none⟩ = some (.int .i64 m)) (go_keep)
      (first
        | (go_at_call 47; refine (impl_KeyedHash _ _ [2, r, M.unmask k r a] _ hk hlk HWF.out).mono ?_; rintro e w' ⟨rfl, rfl⟩))
    have hmt := HM.out
    go_wp2
    go_ret
    exact ⟨by rw [HN.out]; rfl, (by repeat (first | (with_reducible exact B0) | (with_reducible refine Below.st ?_ _ _ _ (by omega)) | (with_reducible refine Below.al ?_ _) | (with_reducible refine Below.dn ?_ _) | (with_reducible refine Below.drew ?_)))⟩
set_option maxHeartbeats 4000000 in
theorem spec_VerifyVector (k last r a m x y : Int) (w : World) (hk : (Lit.int .i64 k).wf = true) (hl : (Lit.int .i64 last).wf = true) (hr : (Lit.int .i64 r).wf = true) (ha : (Lit.int .i64 a).wf = true) :
    Calls Try.prog 33 #[.int .i64 k, .int .i64 last, .agg #[.int .i64 r, .int .i64 a, .int .i64 m, .int .i64 x, .int .i64 y]] w fun e w' => e = .returned (.int .i64 (M.verify k last r a m)) ∧ Below w.heap.size w w' := by
  obtain ⟨l0, l1⟩ := bounds_i64 hl
  obtain ⟨s0, s1⟩ := M.unmask_bd k r a
  have hu : (Lit.int .i64 (M.unmask k r a)).wf = true := WalkArith.wf_i64 (by omega)
  have HG0 : Hid ((w.alloc (.cells #[.int .i64 r, .int .i64 a, .int .i64 m, .int .i64 x, .int .i64 y] 45)).heap[w.heap.size]? = some (.cells #[.int .i64 r, .int .i64 a, .int .i64 m, .int .i64 x, .int .i64 y] 45 (0, 0))) := Lib.hid (heap_alloc_new w _)
  have B0 := Below.al (Below.refl w.heap.size w) (.cells #[.int .i64 r, .int .i64 a, .int .i64 m, .int .i64 x, .int .i64 y] 45)
  have hv : ∃ n : Int, n = M.verify k last r a m := ⟨_, rfl⟩
  obtain ⟨n, hn⟩ := hv
  rw [← hn]
  unfold M.verify at hn
  cases hm : (m != M.kh k [2, r, M.unmask k r a])
  · have hme : m = M.kh k [2, r, M.unmask k r a] := by simpa using hm
    rw [if_pos hme] at hn
    have HM := Lib.hid hm
    clear hme hm
    by_cases h2 : M.unmask k r a ≤ last
    · rw [if_pos h2] at hn
      have HN := Lib.hid hn
      clear hn
      go_enter Try.func33, Try.ntmps33
      go_wp2_with fail
      refine (spec_UnmaskSequence _ _ _ _ hk hr ha).mono ?_
      rintro e u1 ⟨rfl, b1⟩
      have HG1 := Lib.hid (cells_of_below b1 HG0.out)
      replace B0 := Below.next B0 b1
      have c0 := cell_of HG1.out 0
      have c2 := cell_of HG1.out 2
      simp only [List.getElem?_toArray, List.getElem?_cons_zero, List.getElem?_cons_succ] at c0 c2
      have lg : w.heap.size < u1.heap.size := (Array.getElem?_eq_some_iff.1 HG1.out).1
      have hlk : Rd .i64 (u1.drew.alloc (.cells #[.int .i64 2, .int .i64 r, .int .i64 (M.unmask k r a)] 3)) (.slice (some ⟨u1.heap.size, 0, none⟩) 3 3) [2, r, M.unmask k r a] := Rd.lit 3 u1.drew [2, r, M.unmask k r a] (by simp [maxLen])
      have HWF := Lib.hid (wf3 (a := 2) (by decide) hr hu)
      have hl3 : [2, r, M.unmask k r a].length ≤ 1099511627776 := by simp
      have hd2 : Below (u1.drew.alloc (.cells #[.int .i64 2, .int .i64 r, .int .i64 (M.unmask k r a)] 3)).heap.size (u1.drew.alloc (.cells #[.int .i64 2, .int .i64 r, .int .i64 (M.unmask k r a)] 3)) (u1.drew.alloc (.cells #[.int .i64 2, .int .i64 r, .int .i64 (M.unmask k r a)] 3)) := Below.refl _ _
      have HGA := Lib.hid ((Below.heap_alloc u1.drew (.cells #[.int .i64 2, .int .i64 r, .int .i64 (M.unmask k r a)] 3) _ (Array.getElem?_eq_some_iff.1 HG1.out).1).trans HG1.out)
      clear hd2
      go_wp2
      go_region_held3 (fun w' => w'.cell? ⟨w.heap.size, 0, none⟩ = some (.int .i64 r) ∧ w'.cell? ⟨w.heap.size, 2, none⟩ = some (.int .i64 m)) (go_keep)
        (first
          | (go_at_call 56; refine (spec_KeyedHash _ _ [2, r, M.unmask k r a] _ hk hlk HWF.out hl3).mono ?_; rintro e u2 ⟨rfl, b2⟩; have HG2 := Lib.hid (cells_of_below b2 HGA.out); have e0 := cell_of HG2.out 0; have e2 := cell_of HG2.out 2; simp only [List.getElem?_toArray, List.getElem?_cons_zero, List.getElem?_cons_succ] at e0 e2))
      have hmt := HM.out
      go_wp2
      go_ret
      exact ⟨by rw [HN.out]; rfl, (by repeat (first | (with_reducible exact Below.next (Below.al (Below.drew B0) _) b2) | (with_reducible refine Below.st ?_ _ _ _ (by omega)) | (with_reducible refine Below.al ?_ _) | (with_reducible refine Below.dn ?_ _) | (with_reducible refine Below.drew ?_)))⟩
    · rw [if_neg h2] at hn
      by_cases h3 : last + 1000 < M.unmask k r a
      · rw [if_pos h3] at hn
        clear h2
        have h2 : last < M.unmask k r a := by omega
        have HN := Lib.hid hn
        clear hn
        go_enter Try.func33, Try.ntmps33
        go_wp2_with fail
        refine (spec_UnmaskSequence _ _ _ _ hk hr ha).mono ?_
        rintro e u1 ⟨rfl, b1⟩
        have HG1 := Lib.hid (cells_of_below b1 HG0.out)
        replace B0 := Below.next B0 b1
        have c0 := cell_of HG1.out 0
        have c2 := cell_of HG1.out 2
        simp only [List.getElem?_toArray, List.getElem?_cons_zero, List.getElem?_cons_succ] at c0 c2
        have lg : w.heap.size < u1.heap.size := (Array.getElem?_eq_some_iff.1 HG1.out).1
        have hlk : Rd .i64 (u1.drew.alloc (.cells #[.int .i64 2, .int .i64 r, .int .i64 (M.unmask k r a)] 3)) (.slice (some ⟨u1.heap.size, 0, none⟩) 3 3) [2, r, M.unmask k r a] := Rd.lit 3 u1.drew [2, r, M.unmask k r a] (by simp [maxLen])
        have HWF := Lib.hid (wf3 (a := 2) (by decide) hr hu)
        have hl3 : [2, r, M.unmask k r a].length ≤ 1099511627776 := by simp
        have hd2 : Below (u1.drew.alloc (.cells #[.int .i64 2, .int .i64 r, .int .i64 (M.unmask k r a)] 3)).heap.size (u1.drew.alloc (.cells #[.int .i64 2, .int .i64 r, .int .i64 (M.unmask k r a)] 3)) (u1.drew.alloc (.cells #[.int .i64 2, .int .i64 r, .int .i64 (M.unmask k r a)] 3)) := Below.refl _ _
        have HGA := Lib.hid ((Below.heap_alloc u1.drew (.cells #[.int .i64 2, .int .i64 r, .int .i64 (M.unmask k r a)] 3) _ (Array.getElem?_eq_some_iff.1 HG1.out).1).trans HG1.out)
        clear hd2
        go_wp2
        go_region_held3 (fun w' => w'.cell? ⟨w.heap.size, 0, none⟩ = some (.int .i64 r) ∧ w'.cell? ⟨w.heap.size, 2, none⟩ = some (.int .i64 m)) (go_keep)
          (first
            | (go_at_call 56; refine (spec_KeyedHash _ _ [2, r, M.unmask k r a] _ hk hlk HWF.out hl3).mono ?_; rintro e u2 ⟨rfl, b2⟩; have HG2 := Lib.hid (cells_of_below b2 HGA.out); have e0 := cell_of HG2.out 0; have e2 := cell_of HG2.out 2; simp only [List.getElem?_toArray, List.getElem?_cons_zero, List.getElem?_cons_succ] at e0 e2))
        have hmt := HM.out
        go_wp2
        go_ret
        exact ⟨by rw [HN.out]; rfl, (by repeat (first | (with_reducible exact Below.next (Below.al (Below.drew B0) _) b2) | (with_reducible refine Below.st ?_ _ _ _ (by omega)) | (with_reducible refine Below.al ?_ _) | (with_reducible refine Below.dn ?_ _) | (with_reducible refine Below.drew ?_)))⟩
      · rw [if_neg h3] at hn
        have h4 : last < M.unmask k r a := by omega
        have h5 : M.unmask k r a ≤ last + 1000 := by omega
        clear h2 h3
        have HN := Lib.hid hn
        clear hn
        go_enter Try.func33, Try.ntmps33
        go_wp2_with fail
        refine (spec_UnmaskSequence _ _ _ _ hk hr ha).mono ?_
        rintro e u1 ⟨rfl, b1⟩
        have HG1 := Lib.hid (cells_of_below b1 HG0.out)
        replace B0 := Below.next B0 b1
        have c0 := cell_of HG1.out 0
        have c2 := cell_of HG1.out 2
        simp only [List.getElem?_toArray, List.getElem?_cons_zero, List.getElem?_cons_succ] at c0 c2
        have lg : w.heap.size < u1.heap.size := (Array.getElem?_eq_some_iff.1 HG1.out).1
        have hlk : Rd .i64 (u1.drew.alloc (.cells #[.int .i64 2, .int .i64 r, .int .i64 (M.unmask k r a)] 3)) (.slice (some ⟨u1.heap.size, 0, none⟩) 3 3) [2, r, M.unmask k r a] := Rd.lit 3 u1.drew [2, r, M.unmask k r a] (by simp [maxLen])
        have HWF := Lib.hid (wf3 (a := 2) (by decide) hr hu)
        have hl3 : [2, r, M.unmask k r a].length ≤ 1099511627776 := by simp
        have hd2 : Below (u1.drew.alloc (.cells #[.int .i64 2, .int .i64 r, .int .i64 (M.unmask k r a)] 3)).heap.size (u1.drew.alloc (.cells #[.int .i64 2, .int .i64 r, .int .i64 (M.unmask k r a)] 3)) (u1.drew.alloc (.cells #[.int .i64 2, .int .i64 r, .int .i64 (M.unmask k r a)] 3)) := Below.refl _ _
        have HGA := Lib.hid ((Below.heap_alloc u1.drew (.cells #[.int .i64 2, .int .i64 r, .int .i64 (M.unmask k r a)] 3) _ (Array.getElem?_eq_some_iff.1 HG1.out).1).trans HG1.out)
        clear hd2
        go_wp2
        go_region_held3 (fun w' => w'.cell? ⟨w.heap.size, 0, none⟩ = some (.int .i64 r) ∧ w'.cell? ⟨w.heap.size, 2, none⟩ = some (.int .i64 m)) (go_keep)
          (first
            | (go_at_call 56; refine (spec_KeyedHash _ _ [2, r, M.unmask k r a] _ hk hlk HWF.out hl3).mono ?_; rintro e u2 ⟨rfl, b2⟩; have HG2 := Lib.hid (cells_of_below b2 HGA.out); have e0 := cell_of HG2.out 0; have e2 := cell_of HG2.out 2; simp only [List.getElem?_toArray, List.getElem?_cons_zero, List.getElem?_cons_succ] at e0 e2))
        have hmt := HM.out
        go_wp2
        go_ret
        exact ⟨by rw [HN.out]; rfl, (by repeat (first | (with_reducible exact Below.next (Below.al (Below.drew B0) _) b2) | (with_reducible refine Below.st ?_ _ _ _ (by omega)) | (with_reducible refine Below.al ?_ _) | (with_reducible refine Below.dn ?_ _) | (with_reducible refine Below.drew ?_)))⟩
  · have hme : ¬ m = M.kh k [2, r, M.unmask k r a] := by simpa using hm
    rw [if_neg hme] at hn
    have HM := Lib.hid hm
    clear hme hm
    have HN := Lib.hid hn
    clear hn
    go_enter Try.func33, Try.ntmps33
    go_wp2_with fail
    refine (spec_UnmaskSequence _ _ _ _ hk hr ha).mono ?_
    rintro e u1 ⟨rfl, b1⟩
    have HG1 := Lib.hid (cells_of_below b1 HG0.out)
    replace B0 := Below.next B0 b1
    have c0 := cell_of HG1.out 0
    have c2 := cell_of HG1.out 2
    simp only [List.getElem?_toArray, List.getElem?_cons_zero, List.getElem?_cons_succ] at c0 c2
    have lg : w.heap.size < u1.heap.size := (Array.getElem?_eq_some_iff.1 HG1.out).1
    have hlk : Rd .i64 (u1.drew.alloc (.cells #[.int .i64 2, .int .i64 r, .int .i64 (M.unmask k r a)] 3)) (.slice (some ⟨u1.heap.size, 0, none⟩) 3 3) [2, r, M.unmask k r a] := Rd.lit 3 u1.drew [2, r, M.unmask k r a] (by simp [maxLen])
    have HWF := Lib.hid (wf3 (a := 2) (by decide) hr hu)
    have hl3 : [2, r, M.unmask k r a].length ≤ 1099511627776 := by simp
    have hd2 : Below (u1.drew.alloc (.cells #[.int .i64 2, .int .i64 r, .int .i64 (M.unmask k r a)] 3)).heap.size (u1.drew.alloc (.cells #[.int .i64 2, .int .i64 r, .int .i64 (M.unmask k r a)] 3)) (u1.drew.alloc (.cells #[.int .i64 2, .int .i64 r, .int .i64 (M.unmask k r a)] 3)) := Below.refl _ _
    have HGA := Lib.hid ((Below.heap_alloc u1.drew (.cells #[.int .i64 2, .int .i64 r, .int .i64 (M.unmask k r a)] 3) _ (Array.getElem?_eq_some_iff.1 HG1.out).1).trans HG1.out)
    clear hd2
    go_wp2
    go_region_held3 (fun w' => w'.cell? ⟨w.heap.size, 0, none⟩ = some (.int .i64 r) ∧ w'.cell? ⟨w.heap.size, 2, none⟩ = some (.int .i64 m)) (go_keep)
      (first
        | (go_at_call 56; refine (spec_KeyedHash _ _ [2, r, M.unmask k r a] _ hk hlk HWF.out hl3).mono ?_; rintro e u2 ⟨rfl, b2⟩; have HG2 := Lib.hid (cells_of_below b2 HGA.out); have e0 := cell_of HG2.out 0; have e2 := cell_of HG2.out 2; simp only [List.getElem?_toArray, List.getElem?_cons_zero, List.getElem?_cons_succ] at e0 e2))
    have hmt := HM.out
    go_wp2
    go_ret
    exact ⟨by rw [HN.out]; rfl, (by repeat (first | (with_reducible exact Below.next (Below.al (Below.drew B0) _) b2) | (with_reducible refine Below.st ?_ _ _ _ (by omega)) | (with_reducible refine Below.al ?_ _) | (with_reducible refine Below.dn ?_ _) | (with_reducible refine Below.drew ?_)))⟩
end Go.Proofs.Ytfenmicakmjelaa
