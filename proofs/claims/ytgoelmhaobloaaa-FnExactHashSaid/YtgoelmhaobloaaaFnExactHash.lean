/-
  For all slices of at most 1048576 numbers (longer ones the law passes by itself) Hash of the program gives what the reference gives and leaves its argument alone. No condition.
-/
import Derived.Test.YtgoelmhaobloaaaRows
import Derived.Test.YtgoelmhaobloaaaInts
import Derived.Test.YtgoelmhaobloaaaHash
namespace Go.Proofs.Ytgoelmhaobloaaa.lawFnExactHash
open Go.Proofs.Ytgoelmhaobloaaa
open Go.ChangeShapes Go.WideShapes Go.ChangeAt Go.RowKit
open Go.ChangeMaps (open_string shut_string)
set_option linter.unusedVariables false

set_option maxHeartbeats 2000000 in
theorem walk (v0 : Value) (z0 : List Int) (w : World) (r0 : Rd .i64 w v0 z0) (h0 : ∀ n ∈ z0, (Lit.int .i64 n).wf = true) :
    Calls Try.prog 4 #[v0] w fun e w' => e = .returned (.bool true) ∧ Below w.heap.size w w' := by
  obtain ⟨A0, c0, rfl, hc0, hm0, _⟩ := id r0
  unfold maxLen at hm0
  by_cases hl : z0.length ≤ 1048576
  · skip
    go_enter Try.func4, Try.ntmps4
    have B := Below.refl w.heap.size w
    go_wp2_with fail
    refine (laws_toIntS _ _ _ (r0.below B) (by omega)).mono ?_
    rintro e u1 ⟨v1, rfl, o1, b1⟩
    replace o1 := o1.le B.size
    replace B := Below.next B b1
    clear b1
    go_wp2_with fail
    refine (spec_Hash _ _ _ o1.rd h0).mono ?_
    rintro e w' ⟨rfl, rfl⟩
    go_wp2_with fail
    refine (laws_toIntS _ _ _ (r0.below B) (by omega)).mono ?_
    rintro e u2 ⟨v2, rfl, o2, b2⟩
    have ap21 := own_apart o1 o2 (Nat.le_refl _)
    have ap12 := own_apart' o1 o2 (Nat.le_refl _)
    replace o2 := o2.le B.size
    replace o1 := o1.below b2
    replace B := Below.next B b2
    clear b2
    go_wp2_with fail
    refine (impl_Hash _ _ _ o2.rd h0).mono ?_
    rintro e w' ⟨rfl, rfl⟩
    go_wp2_with fail
    refine (laws_toIntS _ _ _ (r0.below B) (by omega)).mono ?_
    rintro e u3 ⟨v3, rfl, o3, b3⟩
    have ap31 := own_apart o1 o3 (Nat.le_refl _)
    have ap13 := own_apart' o1 o3 (Nat.le_refl _)
    have ap32 := own_apart o2 o3 (Nat.le_refl _)
    have ap23 := own_apart' o2 o3 (Nat.le_refl _)
    replace o3 := o3.le B.size
    replace o1 := o1.below b3
    replace o2 := o2.below b3
    replace B := Below.next B b3
    clear b3
    go_wp2_with fail
    refine (laws_eqIntS_same _ _ _ _ o2.rd o3.rd).mono ?_
    rintro e w' ⟨rfl, m4, rfl⟩
    replace o1 := o1.drewN m4
    replace o2 := o2.drewN m4
    replace o3 := o3.drewN m4
    replace B := Below.dn B m4
    go_wp2_with fail
    go_ret
    exact ⟨rfl, B⟩
  · skip
    go_enter Try.func4, Try.ntmps4
    go_wp2_with fail
    go_ret
    exact ⟨rfl, Below.refl _ _⟩

/-! The row: the frame round the walk. -/
theorem own : ownKnob Try.prog.godebug = none := by kernel_rfl
theorem laidOut : laidOutB Try.prog = true := by kernel_rfl
set_option maxRecDepth 100000 in
theorem lifted (os : Os) (started : os.Started) (H : Type) (enc : TypeId × Value → H) :
    ReturnsInHanded {} Try.checked os 4 .any (Rows.fnExactHashSpec.pre6 enc Try.prog Try.f4 Rows.fnExactHashRow.domain false) (Rows.fnExactHashSpec.post enc Try.prog Try.f4 false true false false) := by
  refine returnsInHanded_of_change (C := Try.checked) own started (by kernel_rfl) Try.func4
    (ChangeSpec.witness6 (enc := enc) (C := Try.checked) false ⟨#[], #[.slice none 0 0], []⟩ 8 (by kernel_rfl) (by kernel_rfl) (by kernel_rfl) (by kernel_rfl)) ?_
  intro W base args ds gs before hval0 hW hcnd _
  have hval : ∀ (j : Nat) t v, Try.f4.params[j]? = some t → args[j]? = some v → Value.okWide Try.prog W .any base t v := hval0
  have hW' := hW
  obtain ⟨p, q, hA0, hV, rfl, hfz, hnd⟩ := hW
  have hA : DataW.TrodAll enc Try.prog W 0 (fun _ => true) true Try.f4.params.toList args.toList ds p := hA0
  rw [Try.params4] at hA hval
  obtain ⟨v0, vs0, d0, ds0, p0, q0, hargs, rfl, rfl, h0, rr0⟩ := trodAll_cons hA
  obtain ⟨rfl, rfl, rfl⟩ := trodAll_nil rr0
  obtain rfl : args = #[v0] := by cases args; simp_all
  obtain ⟨rfl, rfl⟩ := trodVars_none hV
  have k0 := h0
  have lt0 : ∀ x ∈ p0, x.block < W.heap.size := by obtain ⟨m, hm⟩ := k0; exact DataW.trod_lt m _ _ _ hm
  obtain ⟨a0, len0, cap0, rfl⟩ := okWide_slice Try.underlying22 (hval 0 22 v0 rfl rfl)
  obtain ⟨z0, _, r0, w0⟩ := rd_of_trod Try.underlying22 Try.underlying3 (by kernel_rfl) (fun _ => rfl) h0
  clear hA0 hval0
  refine (walk _ z0 W r0 w0).mono fun e W' ⟨he, bel⟩ => ?_
  subst he
  exact ⟨_, rfl, _, _, _, [], _, [], hW', trodAll_mk1 (shut_bool Try.underlying4 _), (trodAll_cons_mk (Below.trod laidOut (by kernel_rfl) (of_decide_eq_true (by kernel_rfl)) k0 bel lt0) trodAll_mk0), rfl, bel.frame _, fun h => by cases h⟩
theorem over : Rows.fnExactHashRow.holds Try.pinned (OpenSpec.ofChange Rows.fnExactHashSpec) :=
  OpenClaim.holds_of_wide 4 Try.f4 rfl rfl rfl rfl rfl rfl rfl ⟨rfl, rfl, rfl, rfl, rfl⟩ rfl rfl rfl rfl rfl (by kernel_rfl) Try.func4 (by kernel_rfl)
    (of_decide_eq_true (by kernel_rfl)) (by unfold Func.isWrapper; first | (rw [if_pos (by decide +kernel)]; kernel_rfl) | (rw [if_neg (by decide +kernel)]; exact ⟨rfl, rfl⟩))
    (fun os started H enc _ => lifted os started H enc)
/-- THE STATEMENT -/
theorem proved : Rows.FnExactHashSaid := over
#print axioms proved
end Go.Proofs.Ytgoelmhaobloaaa.lawFnExactHash
