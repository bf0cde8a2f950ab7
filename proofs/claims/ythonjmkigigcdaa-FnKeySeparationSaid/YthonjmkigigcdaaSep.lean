/-
  Contract: a key derived from a key on the way (a proper prefix), by the program.
-/
import Derived.Test.YthonjmkigigcdaaPre
import Derived.Deep.RegionHeld3
namespace Go.Proofs.Ythonjmkigigcdaa
open Go.RowKit

/-- A part of a slice that reads as numbers. -/
theorem rd_rest {kd : IntKind} {w : World} {B : Option Addr} {m d : Nat} {ys : List Int} (h : Rd kd w (.slice B m d) ys) (hm : m = ys.length) (p : Nat) (hp : p < m) :
    ∃ b off, B = some ⟨b, off, none⟩ ∧ Rd kd w (.slice (some ⟨b, off + p, none⟩) (m - p) (d - p)) (ys.drop p) := by
  obtain ⟨A, c, hv, h1, h2, h3⟩ := h
  simp only [Value.slice.injEq] at hv
  obtain ⟨rfl, rfl, rfl⟩ := hv
  obtain ⟨b, off, rfl, hb, hc⟩ := h3 (by omega)
  refine ⟨b, off, rfl, _, _, by rw [List.length_drop], by rw [List.length_drop]; omega, by omega, fun _ => ⟨b, off + p, rfl, hb, fun j hj => ?_⟩⟩
  rw [List.length_drop] at hj
  rw [Nat.add_assoc, hc (p + j) (by omega)]
  congr 2
  rw [List.getD_eq_getElem?_getD, List.getD_eq_getElem?_getD, List.getElem?_drop]
theorem kfp_pre {xs ys : List Int} (h : M.pre xs ys = true) (k : Int) : M.kfp (M.kfp k xs) (ys.drop xs.length) = M.kfp k ys := by
  unfold M.pre at h
  simp only [Bool.and_eq_true, decide_eq_true_eq, eqL] at h
  have e : ys = xs ++ ys.drop xs.length := by
    conv => lhs; rw [← List.take_append_drop xs.length ys]
    rw [← h.2]
  unfold M.kfp
  rw [← List.foldl_append, ← e]

set_option maxRecDepth 100000 in
set_option maxHeartbeats 8000000 in
theorem impl_DeriveFrom (k : Int) (va vb : Value) (xs ys : List Int) (w : World) (hk : (Lit.int .i64 k).wf = true) (ha : Rd .i64 w va xs) (hb : Rd .i64 w vb ys) (hwx : ∀ z ∈ xs, (Lit.int .i64 z).wf = true) (hwy : ∀ z ∈ ys, (Lit.int .i64 z).wf = true)
    (hp : M.pre xs ys = true) (hlt : xs.length < ys.length) :
    Calls Try.prog 29 #[.int .i64 k, .agg #[va], .agg #[vb]] w fun e w' => e = .returned (.tuple #[.int .i64 (M.kfp k ys), .bool true]) ∧ Below w.heap.size w w' := by
  obtain ⟨A, c, rfl, h1, h2, _⟩ := id ha
  obtain ⟨B, d, rfl, g1, g2, _⟩ := id hb
  unfold maxLen at h2 g2
  have hkf := kfp_pre hp k
  have hkw := M.kfp_wf k xs hk
  have hwd : ∀ z ∈ ys.drop xs.length, (Lit.int .i64 z).wf = true := fun z hz => hwy z (List.mem_of_mem_drop hz)
  obtain ⟨n, hn⟩ : ∃ n, n = xs.length := ⟨_, rfl⟩
  obtain ⟨m, hm⟩ : ∃ m, m = ys.length := ⟨_, rfl⟩
  rw [← hn] at h1 ha hlt hkf hwd ⊢
  rw [← hm] at g1 hb hlt ⊢
  obtain ⟨b, off, rfl, hrest⟩ := rd_rest hb hm n hlt
  have HK := Lib.hid hkf
  have HP := Lib.hid hp
  have HA := Lib.hid ha
  have HB := Lib.hid hb
  have HR := Lib.hid hrest
  have HWX := Lib.hid hwx
  have HWD := Lib.hid hwd
  clear hkf hp ha hb hrest hwx hwy hwd hn hm
  have i1 : (n : Int) ≤ (m : Int) := by omega
  have i2 : (n : Int) ≤ (d : Int) := by omega
  have i3 : (0 : Int) ≤ (n : Int) := by omega
  have i4 : ¬ n = d := by omega
  have i5 : (m : Int) ≤ (d : Int) := by omega
  have nP := newBlk w #[.slice A n c] 24 w.heap.size rfl
  have nQ := newBlk (w.alloc (.cells #[.slice A n c] 24)) #[.slice (some ⟨b, off, none⟩) m d] 24 (w.heap.size + 1) (by simp)
  have nP2 := oldBlk (.cells #[.slice (some ⟨b, off, none⟩) m d] 24) nP
  have B0 : Below w.heap.size w ((w.alloc (.cells #[.slice A n c] 24)).alloc (.cells #[.slice (some ⟨b, off, none⟩) m d] 24)) := Below.al (Below.al (Below.refl _ _) _) _
  have BP := Lib.hid nP2
  have BQ := Lib.hid nQ
  clear nP nQ nP2
  go_enter Try.func29, Try.ntmps29
  go_wp2_with fail
  refine (impl_IsPrefixPath _ _ xs ys _ (HA.out.below B0) (HB.out.below B0)).mono ?_
  rw [HP.out]
  rintro e u1 ⟨rfl, b1⟩
  replace BP := Lib.hid (drewBlk (cells_of_below b1 BP.out))
  replace BQ := Lib.hid (drewBlk (cells_of_below b1 BQ.out))
  replace B0 := Below.drew (Below.next B0 b1)
  clear b1 HP
  have x0P := cell_of BP.out 0
  have x0R := cell_of BQ.out 0
  simp only [List.getElem?_toArray, List.getElem?_cons_zero] at x0P x0R
  go_wp2_with fail
  go_region_held3 (fun w' => w'.cell? ⟨w.heap.size, 0, none⟩ = some (.slice A n c) ∧ w'.cell? ⟨w.heap.size + 1, 0, none⟩ = some (.slice (some ⟨b, off, none⟩) m d)) (go_keep)
    (first
      | (go_at_call 43; refine (impl_KeyForPath _ _ xs _ hk (HA.out.below B0) HWX.out).mono ?_; rintro e u2 ⟨rfl, b2⟩; have C2 := Lib.hid (cells_of_below b2 BP.out); have D2 := Lib.hid (cells_of_below b2 BQ.out); replace B0 := Below.next B0 b2; have y0P := cell_of C2.out 0; have y0R := cell_of D2.out 0; simp only [List.getElem?_toArray, List.getElem?_cons_zero] at y0P y0R)
      | (go_at_call 47; refine (impl_deriveSteps _ _ (ys.drop n) _ hkw (HR.out.below B0) HWD.out).mono ?_; rw [HK.out]; rintro e u3 ⟨rfl, b3⟩; have C3 := Lib.hid (cells_of_below b3 C2.out); have D3 := Lib.hid (cells_of_below b3 D2.out); replace B0 := Below.next B0 b3; have z0P := cell_of C3.out 0; have z0R := cell_of D3.out 0; simp only [List.getElem?_toArray, List.getElem?_cons_zero] at z0P z0R))
  all_goals
    go_wp2_with fail
    go_ret2
    exact ⟨rfl, B0⟩

end Go.Proofs.Ythonjmkigigcdaa
