/-
  For all pairs of byte slices of at most 1048576 bytes each (longer ones the law passes by itself) EqualBytes of the program answers as the reference does and leaves its arguments alone. No condition.
-/
import Derived.Test.YtpkaffnmoebgiaaRows
import Derived.Test.YtpkaffnmoebgiaaInts
import Derived.Test.YtpkaffnmoebgiaaEqB
namespace Go.Proofs.Ytpkaffnmoebgiaa.lawFnExactEqualBytes
open Go.Proofs.Ytpkaffnmoebgiaa
open Go.ChangeShapes Go.WideShapes Go.ChangeAt Go.RowKit
open Go.ChangeMaps (open_string shut_string)
set_option linter.unusedVariables false

set_option maxHeartbeats 2000000 in
theorem walk (v0 : Value) (z0 : List Int) (v1 : Value) (z1 : List Int) (w : World) (r0 : Rd .u8 w v0 z0) (h0 : ∀ n ∈ z0, (Lit.int .u8 n).wf = true) (r1 : Rd .u8 w v1 z1) (h1 : ∀ n ∈ z1, (Lit.int .u8 n).wf = true) :
    Calls Try.prog 3 #[v0, v1] w fun e w' => e = .returned (.bool true) ∧ Below w.heap.size w w' := by
  obtain ⟨A0, c0, rfl, hc0, hm0, _⟩ := id r0
  unfold maxLen at hm0
  obtain ⟨A1, c1, rfl, hc1, hm1, _⟩ := id r1
  unfold maxLen at hm1
  by_cases hl : z0.length ≤ 1048576
  · by_cases hk : z1.length ≤ 1048576
    · skip
      go_enter Try.func3, Try.ntmps3
      have B := Below.refl w.heap.size w
      go_wp2_with fail
      refine (laws_toByteS _ _ _ (r0.below B) (by omega)).mono ?_
      rintro e u1 ⟨v1, rfl, o1, b1⟩
      replace o1 := o1.le B.size
      replace B := Below.next B b1
      clear b1
      go_wp2_with fail
      refine (laws_toByteS _ _ _ (r1.below B) (by omega)).mono ?_
      rintro e u2 ⟨v2, rfl, o2, b2⟩
      have ap21 := own_apart o1 o2 (Nat.le_refl _)
      have ap12 := own_apart' o1 o2 (Nat.le_refl _)
      replace o2 := o2.le B.size
      replace o1 := o1.below b2
      replace B := Below.next B b2
      clear b2
      go_wp2_with fail
      refine (spec_EqualBytes _ _ _ _ _ o1.rd o2.rd h0 h1).mono ?_
      rintro e w' ⟨rfl, rfl⟩
      go_wp2_with fail
      refine (laws_toByteS _ _ _ (r0.below B) (by omega)).mono ?_
      rintro e u3 ⟨v3, rfl, o3, b3⟩
      have ap31 := own_apart o1 o3 (Nat.le_refl _)
      have ap13 := own_apart' o1 o3 (Nat.le_refl _)
      have ap32 := own_apart o2 o3 (Nat.le_refl _)
      have ap23 := own_apart' o2 o3 (Nat.le_refl _)
      replace o3 := o3.le B.size
      replace o1 := o1.below b3
      replace o2 := o2.below b3
      replace B := Below.next B b3
      clear b3
      go_wp2_with fail
      refine (laws_toByteS _ _ _ (r1.below B) (by omega)).mono ?_
      rintro e u4 ⟨v4, rfl, o4, b4⟩
      have ap41 := own_apart o1 o4 (Nat.le_refl _)
      have ap14 := own_apart' o1 o4 (Nat.le_refl _)
      have ap42 := own_apart o2 o4 (Nat.le_refl _)
      have ap24 := own_apart' o2 o4 (Nat.le_refl _)
      have ap43 := own_apart o3 o4 (Nat.le_refl _)
      have ap34 := own_apart' o3 o4 (Nat.le_refl _)
      replace o4 := o4.le B.size
      replace o1 := o1.below b4
      replace o2 := o2.below b4
      replace o3 := o3.below b4
      replace B := Below.next B b4
      clear b4
      go_wp2_with fail
      refine (impl_EqualBytes _ _ _ _ _ o3.rd o4.rd h0 h1).mono ?_
      rintro e w' ⟨rfl, rfl⟩
      go_wp2_with fail
      refine (laws_toByteS _ _ _ (r0.below B) (by omega)).mono ?_
      rintro e u5 ⟨v5, rfl, o5, b5⟩
      have ap51 := own_apart o1 o5 (Nat.le_refl _)
      have ap15 := own_apart' o1 o5 (Nat.le_refl _)
      have ap52 := own_apart o2 o5 (Nat.le_refl _)
      have ap25 := own_apart' o2 o5 (Nat.le_refl _)
      have ap53 := own_apart o3 o5 (Nat.le_refl _)
      have ap35 := own_apart' o3 o5 (Nat.le_refl _)
      have ap54 := own_apart o4 o5 (Nat.le_refl _)
      have ap45 := own_apart' o4 o5 (Nat.le_refl _)
      replace o5 := o5.le B.size
      replace o1 := o1.below b5
      replace o2 := o2.below b5
      replace o3 := o3.below b5
      replace o4 := o4.below b5
      replace B := Below.next B b5
      clear b5
      go_wp2_with fail
      refine (laws_eqByteS_same _ _ _ _ o3.rd o5.rd).mono ?_
      rintro e w' ⟨rfl, m6, rfl⟩
      replace o1 := o1.drewN m6
      replace o2 := o2.drewN m6
      replace o3 := o3.drewN m6
      replace o4 := o4.drewN m6
      replace o5 := o5.drewN m6
      replace B := Below.dn B m6
      go_wp2_with fail
      refine (laws_toByteS _ _ _ (r1.below B) (by omega)).mono ?_
      rintro e u7 ⟨v6, rfl, o6, b7⟩
      have ap61 := own_apart o1 o6 (Nat.le_refl _)
      have ap16 := own_apart' o1 o6 (Nat.le_refl _)
      have ap62 := own_apart o2 o6 (Nat.le_refl _)
      have ap26 := own_apart' o2 o6 (Nat.le_refl _)
      have ap63 := own_apart o3 o6 (Nat.le_refl _)
      have ap36 := own_apart' o3 o6 (Nat.le_refl _)
      have ap64 := own_apart o4 o6 (Nat.le_refl _)
      have ap46 := own_apart' o4 o6 (Nat.le_refl _)
      have ap65 := own_apart o5 o6 (Nat.le_refl _)
      have ap56 := own_apart' o5 o6 (Nat.le_refl _)
      replace o6 := o6.le B.size
      replace o1 := o1.below b7
      replace o2 := o2.below b7
      replace o3 := o3.below b7
      replace o4 := o4.below b7
      replace o5 := o5.below b7
      replace B := Below.next B b7
      clear b7
      go_wp2_with fail
      refine (laws_eqByteS_same _ _ _ _ o4.rd o6.rd).mono ?_
      rintro e w' ⟨rfl, m8, rfl⟩
      replace o1 := o1.drewN m8
      replace o2 := o2.drewN m8
      replace o3 := o3.drewN m8
      replace o4 := o4.drewN m8
      replace o5 := o5.drewN m8
      replace o6 := o6.drewN m8
      replace B := Below.dn B m8
      go_wp2_with fail
      go_ret
      exact ⟨rfl, B⟩
    · skip
      go_enter Try.func3, Try.ntmps3
      go_wp2_with fail
      go_ret
      exact ⟨rfl, Below.refl _ _⟩
  · skip
    go_enter Try.func3, Try.ntmps3
    go_wp2_with fail
    go_ret
    exact ⟨rfl, Below.refl _ _⟩

/-! The row: the frame round the walk. -/
theorem own : ownKnob Try.prog.godebug = none := by kernel_rfl
theorem laidOut : laidOutB Try.prog = true := by kernel_rfl
set_option maxRecDepth 100000 in
theorem lifted (os : Os) (started : os.Started) (H : Type) (enc : TypeId × Value → H) :
    ReturnsInHanded {} Try.checked os 3 .any (Rows.fnExactEqualBytesSpec.pre6 enc Try.prog Try.f3 Rows.fnExactEqualBytesRow.domain false) (Rows.fnExactEqualBytesSpec.post enc Try.prog Try.f3 false true false false) := by
  refine returnsInHanded_of_change (C := Try.checked) own started (by kernel_rfl) Try.func3
    (ChangeSpec.witness6 (enc := enc) (C := Try.checked) false ⟨#[], #[.slice none 0 0, .slice none 0 0], []⟩ 8 (by kernel_rfl) (by kernel_rfl) (by kernel_rfl) (by kernel_rfl)) ?_
  intro W base args ds gs before hval0 hW hcnd _
  have hval : ∀ (j : Nat) t v, Try.f3.params[j]? = some t → args[j]? = some v → Value.okWide Try.prog W .any base t v := hval0
  have hW' := hW
  obtain ⟨p, q, hA0, hV, rfl, hfz, hnd⟩ := hW
  have hA : DataW.TrodAll enc Try.prog W 0 (fun _ => true) true Try.f3.params.toList args.toList ds p := hA0
  rw [Try.params3] at hA hval
  obtain ⟨v0, vs0, d0, ds0, p0, q0, hargs, rfl, rfl, h0, rr0⟩ := trodAll_cons hA
  obtain ⟨v1, vs1, d1, ds1, p1, q1, rfl, rfl, rfl, h1, rr1⟩ := trodAll_cons rr0
  obtain ⟨rfl, rfl, rfl⟩ := trodAll_nil rr1
  obtain rfl : args = #[v0, v1] := by cases args; simp_all
  obtain ⟨rfl, rfl⟩ := trodVars_none hV
  have k0 := h0
  have lt0 : ∀ x ∈ p0, x.block < W.heap.size := by obtain ⟨m, hm⟩ := k0; exact DataW.trod_lt m _ _ _ hm
  obtain ⟨a0, len0, cap0, rfl⟩ := okWide_slice Try.underlying22 (hval 0 22 v0 rfl rfl)
  obtain ⟨z0, _, r0, w0⟩ := rd_of_trod Try.underlying22 Try.underlying5 (by kernel_rfl) (fun _ => rfl) h0
  have k1 := h1
  have lt1 : ∀ x ∈ p1, x.block < W.heap.size := by obtain ⟨m, hm⟩ := k1; exact DataW.trod_lt m _ _ _ hm
  obtain ⟨a1, len1, cap1, rfl⟩ := okWide_slice Try.underlying22 (hval 1 22 v1 rfl rfl)
  obtain ⟨z1, _, r1, w1⟩ := rd_of_trod Try.underlying22 Try.underlying5 (by kernel_rfl) (fun _ => rfl) h1
  clear hA0 hval0
  refine (walk _ z0 _ z1 W r0 w0 r1 w1).mono fun e W' ⟨he, bel⟩ => ?_
  subst he
  exact ⟨_, rfl, _, _, _, [], _, [], hW', trodAll_mk1 (shut_bool Try.underlying4 _), (trodAll_cons_mk (Below.trod laidOut (by kernel_rfl) (of_decide_eq_true (by kernel_rfl)) k0 bel lt0) (trodAll_cons_mk (Below.trod laidOut (by kernel_rfl) (of_decide_eq_true (by kernel_rfl)) k1 bel lt1) trodAll_mk0)), rfl, bel.frame _, fun h => by cases h⟩
theorem over : Rows.fnExactEqualBytesRow.holds Try.pinned (OpenSpec.ofChange Rows.fnExactEqualBytesSpec) :=
  OpenClaim.holds_of_wide 3 Try.f3 rfl rfl rfl rfl rfl rfl rfl ⟨rfl, rfl, rfl, rfl, rfl⟩ rfl rfl rfl rfl rfl (by kernel_rfl) Try.func3 (by kernel_rfl)
    (of_decide_eq_true (by kernel_rfl)) (by unfold Func.isWrapper; first | (rw [if_pos (by decide +kernel)]; kernel_rfl) | (rw [if_neg (by decide +kernel)]; exact ⟨rfl, rfl⟩))
    (fun os started H enc _ => lifted os started H enc)
/-- THE STATEMENT -/
theorem proved : Rows.FnExactEqualBytesSaid := over
#print axioms proved
end Go.Proofs.Ytpkaffnmoebgiaa.lawFnExactEqualBytes
