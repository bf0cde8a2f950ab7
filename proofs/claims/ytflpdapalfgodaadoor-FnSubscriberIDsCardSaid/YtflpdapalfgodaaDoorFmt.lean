/-
  Contracts: numbers and identities written out, by the program and by the reference.
-/
import Derived.Test.YtflpdapalfgodaaDoorPars
import Derived.Test.YtflpdapalfgodaaDoorTab
import Derived.Test.YtflpdapalfgodaaDoorShelf
import Derived.Test.YtflpdapalfgodaaDoorIds
import Derived.Test.YtflpdapalfgodaaDoorMemA
import Derived.Lib.AppendIntMem
import Derived.Lib.ItoaLen
import Derived.Deep.RegionHeld3
namespace Go.Proofs.YtflpdapalfgodaaDoor
open Go.RowKit Go.Lib

/-- A string of these bytes. -/
def str (l : List UInt8) : ByteArray := ⟨l.toArray⟩
theorem itoa_len (n : Int) (h : (Lit.int .i64 n).wf = true) : (itoa n).length ≤ 21 := by
  have b := wf_i64_bd h
  exact itoa_length_le n b.1 b.2
theorem impl_FormatInt (n : Int) (w : World) (hn : (Lit.int .i64 n).wf = true) (hT : Tab w) :
    Calls Tryd.prog 12 #[.int .i64 n] w fun e w' => e = .returned (.string ⟨(itoa n).toArray⟩) ∧ Below w.heap.size w w' := by
  have b := wf_i64_bd hn
  go_enter Tryd.func12, Tryd.ntmps12
  go_wp2_with fail
  refine (Tryd.strconv_Itoa n b.1 b.2 _ hT).mono ?_
  rintro e w' ⟨rfl, k, os, rfl⟩
  have bb := below_grow w.heap.size w (Nat.le_refl _) k os
  obtain ⟨u, hu⟩ : ∃ u, u = Sort.grow (w.drewN k) os := ⟨_, rfl⟩
  rw [← hu] at bb ⊢
  clear hu
  go_wp2_with fail
  go_ret
  exact ⟨rfl, bb⟩

/-- A temporary identity written out. -/
def fmtT (a b : Int) : ByteArray := ((⟨#[116]⟩ ++ ⟨(itoa a).toArray⟩) ++ ⟨#[46]⟩) ++ ⟨(itoa b).toArray⟩

/-- An identity of a subscriber written out. -/
def fmtY (a b : Int) : ByteArray := (⟨(itoa a).toArray⟩ ++ ⟨#[45]⟩) ++ ⟨(itoa b).toArray⟩
def fmtS (a b : Int) : ByteArray := if M.vSid a b = true then fmtY a b else ⟨#[]⟩

set_option maxRecDepth 100000 in
set_option maxHeartbeats 4000000 in
theorem spec_FormatTempID (a b : Int) (w : World) (ha : (Lit.int .i64 a).wf = true) (hb : (Lit.int .i64 b).wf = true) :
    Calls Tryd.prog 24 #[.agg #[.int .i64 a, .int .i64 b]] w fun e w' => e = .returned (.string (fmtT a b)) ∧ Below w.heap.size w w' := by
  have la := itoa_len a ha
  have lb := itoa_len b hb
  obtain ⟨sa, hsa⟩ : ∃ s : ByteArray, s = ⟨(itoa a).toArray⟩ := ⟨_, rfl⟩
  obtain ⟨sb, hsb⟩ : ∃ s : ByteArray, s = ⟨(itoa b).toArray⟩ := ⟨_, rfl⟩
  have za : sa.size ≤ 21 := by rw [hsa]; simpa [ByteArray.size] using la
  have zb : sb.size ≤ 21 := by rw [hsb]; simpa [ByteArray.size] using lb
  have Ca : ∀ u : World, Calls Tryd.prog 23 #[.int .i64 a] u fun e w' => e = .returned (.string sa) ∧ Below u.heap.size u w' := fun u => hsa ▸ spec_FormatInt a u ha
  have Cb : ∀ u : World, Calls Tryd.prog 23 #[.int .i64 b] u fun e w' => e = .returned (.string sb) ∧ Below u.heap.size u w' := fun u => hsb ▸ spec_FormatInt b u hb
  have HV : fmtT a b = ((⟨#[116]⟩ ++ sa) ++ ⟨#[46]⟩) ++ sb := by rw [hsa, hsb]; rfl
  rw [HV]
  have HA := Lib.hid Ca
  have HB := Lib.hid Cb
  have q1 : ¬ 9223372036854775807 < 1 + sa.size := by omega
  have q2 : ¬ 9223372036854775807 < 1 + sa.size + 1 := by omega
  have q3 : ¬ 9223372036854775807 < 1 + sa.size + 1 + sb.size := by omega
  clear HV hsa hsb la lb Ca Cb ha hb
  have c0 : (w.alloc (.cells #[.int .i64 a, .int .i64 b] 43)).cell? ⟨w.heap.size, 0, none⟩ = some (.int .i64 a) := cell_of (newBlk w _ _ _ rfl) 0
  have c1 : (w.alloc (.cells #[.int .i64 a, .int .i64 b] 43)).cell? ⟨w.heap.size, 1, none⟩ = some (.int .i64 b) := cell_of (newBlk w _ _ _ rfl) 1
  have B0 : Below w.heap.size w (w.alloc (.cells #[.int .i64 a, .int .i64 b] 43)) := Below.al (Below.refl w.heap.size w) _
  obtain ⟨v, hv⟩ : ∃ v, v = (w.alloc (.cells #[.int .i64 a, .int .i64 b] 43)) := ⟨_, rfl⟩
  have zz : w.heap.size < v.heap.size := by rw [hv]; simp
  have zd : w.heap.size < v.drew.heap.size := zz
  go_enter Tryd.func24, Tryd.ntmps24
  go_wp2_with fail
  rw [← hv] at c0 c1 B0 ⊢
  clear hv
  go_region_held3 (fun w' => w'.cell? ⟨w.heap.size, 0, none⟩ = some (.int .i64 a) ∧ w'.cell? ⟨w.heap.size, 1, none⟩ = some (.int .i64 b)) (first | exact ⟨c0, c1⟩ | exact ⟨ka0, ka1⟩ | exact ⟨kb0, kb1⟩) (first
    | (go_at_call 23; (with_reducible refine (HA.out _).mono ?_); rintro e ua ⟨rfl, ba⟩; have na := ba.size; have ka0 : ua.cell? ⟨w.heap.size, 0, none⟩ = some (.int .i64 a) := ((bcell ba).1 _ _ (by first | exact zz | omega)).trans (by first | exact kb0 | exact c0); have ka1 : ua.cell? ⟨w.heap.size, 1, none⟩ = some (.int .i64 b) := ((bcell ba).1 _ _ (by first | exact zz | omega)).trans (by first | exact kb1 | exact c1))
    | (go_at_call 23; (with_reducible refine (HB.out _).mono ?_); rintro e ub ⟨rfl, bb⟩; have nb := bb.size; have kb0 : ub.cell? ⟨w.heap.size, 0, none⟩ = some (.int .i64 a) := ((bcell bb).1 _ _ (by first | exact zz | omega)).trans (by first | exact ka0 | exact c0); have kb1 : ub.cell? ⟨w.heap.size, 1, none⟩ = some (.int .i64 b) := ((bcell bb).1 _ _ (by first | exact zz | omega)).trans (by first | exact ka1 | exact c1)))
  all_goals
    go_wp2_with fail
    go_ret
    exact ⟨rfl, by first | exact Below.next (Below.next (Below.drew B0) ba) bb | exact Below.next (Below.next (Below.drew B0) bb) ba⟩

set_option maxRecDepth 100000 in
set_option maxHeartbeats 4000000 in
theorem impl_FormatTempID (a b : Int) (w : World) (ha : (Lit.int .i64 a).wf = true) (hb : (Lit.int .i64 b).wf = true) (hT : Tab w) :
    Calls Tryd.prog 26 #[.agg #[.int .i64 a, .int .i64 b]] w fun e w' => e = .returned (.string (fmtT a b)) ∧ Below w.heap.size w w' := by
  have la := itoa_len a ha
  have lb := itoa_len b hb
  obtain ⟨sa, hsa⟩ : ∃ s : ByteArray, s = ⟨(itoa a).toArray⟩ := ⟨_, rfl⟩
  obtain ⟨sb, hsb⟩ : ∃ s : ByteArray, s = ⟨(itoa b).toArray⟩ := ⟨_, rfl⟩
  have za : sa.size ≤ 21 := by rw [hsa]; simpa [ByteArray.size] using la
  have zb : sb.size ≤ 21 := by rw [hsb]; simpa [ByteArray.size] using lb
  have Ca : ∀ u : World, Tab u → Calls Tryd.prog 12 #[.int .i64 a] u fun e w' => e = .returned (.string sa) ∧ Below u.heap.size u w' := fun u hu => hsa ▸ impl_FormatInt a u ha hu
  have Cb : ∀ u : World, Tab u → Calls Tryd.prog 12 #[.int .i64 b] u fun e w' => e = .returned (.string sb) ∧ Below u.heap.size u w' := fun u hu => hsb ▸ impl_FormatInt b u hb hu
  have HV : fmtT a b = ((⟨#[116]⟩ ++ sa) ++ ⟨#[46]⟩) ++ sb := by rw [hsa, hsb]; rfl
  rw [HV]
  have HA := Lib.hid Ca
  have HB := Lib.hid Cb
  have q1 : ¬ 9223372036854775807 < 1 + sa.size := by omega
  have q2 : ¬ 9223372036854775807 < 1 + sa.size + 1 := by omega
  have q3 : ¬ 9223372036854775807 < 1 + sa.size + 1 + sb.size := by omega
  clear HV hsa hsb la lb Ca Cb ha hb
  have hT0 : Tab (w.alloc (.cells #[.int .i64 a, .int .i64 b] 43)).drew := Tab.below hT (Below.drew (Below.al (Below.refl w.heap.size w) _))
  have c0 : (w.alloc (.cells #[.int .i64 a, .int .i64 b] 43)).cell? ⟨w.heap.size, 0, none⟩ = some (.int .i64 a) := cell_of (newBlk w _ _ _ rfl) 0
  have c1 : (w.alloc (.cells #[.int .i64 a, .int .i64 b] 43)).cell? ⟨w.heap.size, 1, none⟩ = some (.int .i64 b) := cell_of (newBlk w _ _ _ rfl) 1
  have B0 : Below w.heap.size w (w.alloc (.cells #[.int .i64 a, .int .i64 b] 43)) := Below.al (Below.refl w.heap.size w) _
  obtain ⟨v, hv⟩ : ∃ v, v = (w.alloc (.cells #[.int .i64 a, .int .i64 b] 43)) := ⟨_, rfl⟩
  have zz : w.heap.size < v.heap.size := by rw [hv]; simp
  have zd : w.heap.size < v.drew.heap.size := zz
  go_enter Tryd.func26, Tryd.ntmps26
  go_wp2_with fail
  rw [← hv] at c0 c1 B0 hT0 ⊢
  clear hv
  go_region_held3 (fun w' => w'.cell? ⟨w.heap.size, 0, none⟩ = some (.int .i64 a) ∧ w'.cell? ⟨w.heap.size, 1, none⟩ = some (.int .i64 b)) (first | exact ⟨c0, c1⟩ | exact ⟨ka0, ka1⟩ | exact ⟨kb0, kb1⟩) (first
    | (go_at_call 12; (with_reducible refine (HA.out _ (by assumption)).mono ?_); rintro e ua ⟨rfl, ba⟩; have hta : Tab ua := Tab.below (by assumption) ba; have na := ba.size; have ka0 : ua.cell? ⟨w.heap.size, 0, none⟩ = some (.int .i64 a) := ((bcell ba).1 _ _ (by first | exact zz | omega)).trans (by first | exact kb0 | exact c0); have ka1 : ua.cell? ⟨w.heap.size, 1, none⟩ = some (.int .i64 b) := ((bcell ba).1 _ _ (by first | exact zz | omega)).trans (by first | exact kb1 | exact c1))
    | (go_at_call 12; (with_reducible refine (HB.out _ (by assumption)).mono ?_); rintro e ub ⟨rfl, bb⟩; have htb : Tab ub := Tab.below (by assumption) bb; have nb := bb.size; have kb0 : ub.cell? ⟨w.heap.size, 0, none⟩ = some (.int .i64 a) := ((bcell bb).1 _ _ (by first | exact zz | omega)).trans (by first | exact ka0 | exact c0); have kb1 : ub.cell? ⟨w.heap.size, 1, none⟩ = some (.int .i64 b) := ((bcell bb).1 _ _ (by first | exact zz | omega)).trans (by first | exact ka1 | exact c1)))
  all_goals
    go_wp2_with fail
    go_ret
    exact ⟨rfl, by first | exact Below.next (Below.next (Below.drew B0) ba) bb | exact Below.next (Below.next (Below.drew B0) bb) ba⟩

theorem spec_FormatSubscriberID_no (a b : Int) (w : World) (hV : M.vSid a b = false) :
    Calls Tryd.prog 27 #[.agg #[.int .i64 a, .int .i64 b]] w fun e w' => e = .returned (.string ⟨#[]⟩) ∧ Below w.heap.size w w' := by
  go_enter Tryd.func27, Tryd.ntmps27
  go_wp2_with (go_at_call 21; refine (spec_IsValidSubscriberID _ _ _).mono ?_; rw [hV]; rintro e w1 ⟨rfl, rfl⟩)
  go_ret
  exact ⟨rfl, (by repeat (first | (with_reducible exact Below.refl _ _) | (with_reducible refine Below.al ?_ _) | (with_reducible refine Below.dn ?_ _)))⟩
set_option maxRecDepth 100000 in
set_option maxHeartbeats 4000000 in
theorem spec_FormatSubscriberID_yes (a b : Int) (w : World) (ha : (Lit.int .i64 a).wf = true) (hb : (Lit.int .i64 b).wf = true) (hV : M.vSid a b = true) :
    Calls Tryd.prog 27 #[.agg #[.int .i64 a, .int .i64 b]] w fun e w' => e = .returned (.string (fmtY a b)) ∧ Below w.heap.size w w' := by
  have la := itoa_len a ha
  have lb := itoa_len b hb
  obtain ⟨sa, hsa⟩ : ∃ s : ByteArray, s = ⟨(itoa a).toArray⟩ := ⟨_, rfl⟩
  obtain ⟨sb, hsb⟩ : ∃ s : ByteArray, s = ⟨(itoa b).toArray⟩ := ⟨_, rfl⟩
  have za : sa.size ≤ 21 := by rw [hsa]; simpa [ByteArray.size] using la
  have zb : sb.size ≤ 21 := by rw [hsb]; simpa [ByteArray.size] using lb
  have Ca : ∀ u : World, Calls Tryd.prog 23 #[.int .i64 a] u fun e w' => e = .returned (.string sa) ∧ Below u.heap.size u w' := fun u => hsa ▸ spec_FormatInt a u ha
  have Cb : ∀ u : World, Calls Tryd.prog 23 #[.int .i64 b] u fun e w' => e = .returned (.string sb) ∧ Below u.heap.size u w' := fun u => hsb ▸ spec_FormatInt b u hb
  have HV : fmtY a b = (sa ++ ⟨#[45]⟩) ++ sb := by rw [hsa, hsb]; rfl
  rw [HV]
  have HA := Lib.hid Ca
  have HB := Lib.hid Cb
  have q1 : ¬ 9223372036854775807 < sa.size + 1 := by omega
  have q2 : ¬ 9223372036854775807 < sa.size + 1 + sb.size := by omega
  clear HV hsa hsb la lb Ca Cb ha hb
  have c0 : ((w.alloc (.cells #[.int .i64 a, .int .i64 b] 33)).alloc (.cells #[.int .i64 a, .int .i64 b] 33)).cell? ⟨w.heap.size, 0, none⟩ = some (.int .i64 a) := cell_of (oldBlk _ (newBlk w _ _ _ rfl)) 0
  have c1 : ((w.alloc (.cells #[.int .i64 a, .int .i64 b] 33)).alloc (.cells #[.int .i64 a, .int .i64 b] 33)).cell? ⟨w.heap.size, 1, none⟩ = some (.int .i64 b) := cell_of (oldBlk _ (newBlk w _ _ _ rfl)) 1
  have B0 : Below w.heap.size w ((w.alloc (.cells #[.int .i64 a, .int .i64 b] 33)).alloc (.cells #[.int .i64 a, .int .i64 b] 33)) := Below.al (Below.al (Below.refl w.heap.size w) _) _
  obtain ⟨v, hv⟩ : ∃ v, v = ((w.alloc (.cells #[.int .i64 a, .int .i64 b] 33)).alloc (.cells #[.int .i64 a, .int .i64 b] 33)) := ⟨_, rfl⟩
  have zz : w.heap.size < v.heap.size := by rw [hv]; simp <;> omega
  have zd : w.heap.size < v.drew.heap.size := zz
  have HH := Lib.hid hv
  clear hv
  rw [← HH.out] at c0 c1 B0
  have hc0 := Lib.hid c0
  have hc1 := Lib.hid c1
  clear c0 c1
  go_enter Tryd.func27, Tryd.ntmps27
  go_wp2_with (go_at_call 21; refine (spec_IsValidSubscriberID _ _ _).mono ?_; rw [hV]; rintro e w1 ⟨rfl, rfl⟩)
  have c0 := hc0.out
  have c1 := hc1.out
  rw [← HH.out]
  clear HH hc0 hc1 hV
  go_region_held3 (fun w' => w'.cell? ⟨w.heap.size, 0, none⟩ = some (.int .i64 a) ∧ w'.cell? ⟨w.heap.size, 1, none⟩ = some (.int .i64 b)) (first | exact ⟨c0, c1⟩ | exact ⟨ka0, ka1⟩ | exact ⟨kb0, kb1⟩) (first
    | (go_at_call 23; (with_reducible refine (HA.out _).mono ?_); rintro e ua ⟨rfl, ba⟩; have na := ba.size; have ka0 : ua.cell? ⟨w.heap.size, 0, none⟩ = some (.int .i64 a) := ((bcell ba).1 _ _ (by first | exact zz | omega)).trans (by first | exact kb0 | exact c0); have ka1 : ua.cell? ⟨w.heap.size, 1, none⟩ = some (.int .i64 b) := ((bcell ba).1 _ _ (by first | exact zz | omega)).trans (by first | exact kb1 | exact c1))
    | (go_at_call 23; (with_reducible refine (HB.out _).mono ?_); rintro e ub ⟨rfl, bb⟩; have nb := bb.size; have kb0 : ub.cell? ⟨w.heap.size, 0, none⟩ = some (.int .i64 a) := ((bcell bb).1 _ _ (by first | exact zz | omega)).trans (by first | exact ka0 | exact c0); have kb1 : ub.cell? ⟨w.heap.size, 1, none⟩ = some (.int .i64 b) := ((bcell bb).1 _ _ (by first | exact zz | omega)).trans (by first | exact ka1 | exact c1)))
  all_goals
    go_wp2_with fail
    go_ret
    exact ⟨rfl, by first | exact Below.next (Below.next (Below.drew B0) ba) bb | exact Below.next (Below.next (Below.drew B0) bb) ba⟩
theorem spec_FormatSubscriberID (a b : Int) (w : World) (ha : (Lit.int .i64 a).wf = true) (hb : (Lit.int .i64 b).wf = true) :
    Calls Tryd.prog 27 #[.agg #[.int .i64 a, .int .i64 b]] w fun e w' => e = .returned (.string (fmtS a b)) ∧ Below w.heap.size w w' := by
  unfold fmtS
  cases hV : M.vSid a b
  · exact spec_FormatSubscriberID_no a b w hV
  · exact spec_FormatSubscriberID_yes a b w ha hb hV

theorem impl_FormatSubscriberID_no (a b : Int) (w : World) (hV : M.vSid a b = false) :
    Calls Tryd.prog 18 #[.agg #[.int .i64 a, .int .i64 b]] w fun e w' => e = .returned (.string ⟨#[]⟩) ∧ Below w.heap.size w w' := by
  go_enter Tryd.func18, Tryd.ntmps18
  go_wp2_with (go_at_call 22; refine (impl_IsValidSubscriberID _ _ _).mono ?_; rw [hV]; rintro e w1 ⟨rfl, rfl⟩)
  go_ret
  exact ⟨rfl, (by repeat (first | (with_reducible exact Below.refl _ _) | (with_reducible refine Below.al ?_ _) | (with_reducible refine Below.dn ?_ _)))⟩
set_option maxRecDepth 100000 in
set_option maxHeartbeats 4000000 in
theorem impl_FormatSubscriberID_yes (a b : Int) (w : World) (ha : (Lit.int .i64 a).wf = true) (hb : (Lit.int .i64 b).wf = true) (hV : M.vSid a b = true) (hT : Tab w) :
    Calls Tryd.prog 18 #[.agg #[.int .i64 a, .int .i64 b]] w fun e w' => e = .returned (.string (fmtY a b)) ∧ Below w.heap.size w w' := by
  have la := itoa_len a ha
  have lb := itoa_len b hb
  obtain ⟨sa, hsa⟩ : ∃ s : ByteArray, s = ⟨(itoa a).toArray⟩ := ⟨_, rfl⟩
  obtain ⟨sb, hsb⟩ : ∃ s : ByteArray, s = ⟨(itoa b).toArray⟩ := ⟨_, rfl⟩
  have za : sa.size ≤ 21 := by rw [hsa]; simpa [ByteArray.size] using la
  have zb : sb.size ≤ 21 := by rw [hsb]; simpa [ByteArray.size] using lb
  have Ca : ∀ u : World, Tab u → Calls Tryd.prog 12 #[.int .i64 a] u fun e w' => e = .returned (.string sa) ∧ Below u.heap.size u w' := fun u hu => hsa ▸ impl_FormatInt a u ha hu
  have Cb : ∀ u : World, Tab u → Calls Tryd.prog 12 #[.int .i64 b] u fun e w' => e = .returned (.string sb) ∧ Below u.heap.size u w' := fun u hu => hsb ▸ impl_FormatInt b u hb hu
  have HV : fmtY a b = (sa ++ ⟨#[45]⟩) ++ sb := by rw [hsa, hsb]; rfl
  rw [HV]
  have HA := Lib.hid Ca
  have HB := Lib.hid Cb
  have q1 : ¬ 9223372036854775807 < sa.size + 1 := by omega
  have q2 : ¬ 9223372036854775807 < sa.size + 1 + sb.size := by omega
  clear HV hsa hsb la lb Ca Cb ha hb
  have hT0 : Tab ((w.alloc (.cells #[.int .i64 a, .int .i64 b] 33)).alloc (.cells #[.int .i64 a, .int .i64 b] 33)).drew := Tab.below hT (Below.drew (Below.al (Below.al (Below.refl w.heap.size w) _) _))
  have c0 : ((w.alloc (.cells #[.int .i64 a, .int .i64 b] 33)).alloc (.cells #[.int .i64 a, .int .i64 b] 33)).cell? ⟨w.heap.size, 0, none⟩ = some (.int .i64 a) := cell_of (oldBlk _ (newBlk w _ _ _ rfl)) 0
  have c1 : ((w.alloc (.cells #[.int .i64 a, .int .i64 b] 33)).alloc (.cells #[.int .i64 a, .int .i64 b] 33)).cell? ⟨w.heap.size, 1, none⟩ = some (.int .i64 b) := cell_of (oldBlk _ (newBlk w _ _ _ rfl)) 1
  have B0 : Below w.heap.size w ((w.alloc (.cells #[.int .i64 a, .int .i64 b] 33)).alloc (.cells #[.int .i64 a, .int .i64 b] 33)) := Below.al (Below.al (Below.refl w.heap.size w) _) _
  obtain ⟨v, hv⟩ : ∃ v, v = ((w.alloc (.cells #[.int .i64 a, .int .i64 b] 33)).alloc (.cells #[.int .i64 a, .int .i64 b] 33)) := ⟨_, rfl⟩
  have zz : w.heap.size < v.heap.size := by rw [hv]; simp <;> omega
  have zd : w.heap.size < v.drew.heap.size := zz
  have HH := Lib.hid hv
  clear hv
  rw [← HH.out] at c0 c1 B0 hT0
  have hc0 := Lib.hid c0
  have hc1 := Lib.hid c1
  clear c0 c1
  go_enter Tryd.func18, Tryd.ntmps18
  go_wp2_with (go_at_call 22; refine (impl_IsValidSubscriberID _ _ _).mono ?_; rw [hV]; rintro e w1 ⟨rfl, rfl⟩)
  have c0 := hc0.out
  have c1 := hc1.out
  rw [← HH.out]
  clear HH hc0 hc1 hV
  go_region_held3 (fun w' => w'.cell? ⟨w.heap.size, 0, none⟩ = some (.int .i64 a) ∧ w'.cell? ⟨w.heap.size, 1, none⟩ = some (.int .i64 b)) (first | exact ⟨c0, c1⟩ | exact ⟨ka0, ka1⟩ | exact ⟨kb0, kb1⟩) (first
    | (go_at_call 12; (with_reducible refine (HA.out _ (by assumption)).mono ?_); rintro e ua ⟨rfl, ba⟩; have hta : Tab ua := Tab.below (by assumption) ba; have na := ba.size; have ka0 : ua.cell? ⟨w.heap.size, 0, none⟩ = some (.int .i64 a) := ((bcell ba).1 _ _ (by first | exact zz | omega)).trans (by first | exact kb0 | exact c0); have ka1 : ua.cell? ⟨w.heap.size, 1, none⟩ = some (.int .i64 b) := ((bcell ba).1 _ _ (by first | exact zz | omega)).trans (by first | exact kb1 | exact c1))
    | (go_at_call 12; (with_reducible refine (HB.out _ (by assumption)).mono ?_); rintro e ub ⟨rfl, bb⟩; have htb : Tab ub := Tab.below (by assumption) bb; have nb := bb.size; have kb0 : ub.cell? ⟨w.heap.size, 0, none⟩ = some (.int .i64 a) := ((bcell bb).1 _ _ (by first | exact zz | omega)).trans (by first | exact ka0 | exact c0); have kb1 : ub.cell? ⟨w.heap.size, 1, none⟩ = some (.int .i64 b) := ((bcell bb).1 _ _ (by first | exact zz | omega)).trans (by first | exact ka1 | exact c1)))
  all_goals
    go_wp2_with fail
    go_ret
    exact ⟨rfl, by first | exact Below.next (Below.next (Below.drew B0) ba) bb | exact Below.next (Below.next (Below.drew B0) bb) ba⟩
theorem impl_FormatSubscriberID (a b : Int) (w : World) (ha : (Lit.int .i64 a).wf = true) (hb : (Lit.int .i64 b).wf = true) (hT : Tab w) :
    Calls Tryd.prog 18 #[.agg #[.int .i64 a, .int .i64 b]] w fun e w' => e = .returned (.string (fmtS a b)) ∧ Below w.heap.size w w' := by
  unfold fmtS
  cases hV : M.vSid a b
  · exact impl_FormatSubscriberID_no a b w hV
  · exact impl_FormatSubscriberID_yes a b w ha hb hV hT

end Go.Proofs.YtflpdapalfgodaaDoor
