/-
  For all keys and all slices of at most 1048576 numbers (longer ones the law passes by itself) KeyedHash of the program gives what the reference gives and leaves its argument alone. No condition.
-/
import Derived.Test.YtgoelmhaobloaaaRows
import Derived.Test.YtgoelmhaobloaaaInts
import Derived.Test.YtgoelmhaobloaaaHash
namespace Go.Proofs.Ytgoelmhaobloaaa.lawFnExactKeyedHash
open Go.Proofs.Ytgoelmhaobloaaa
open Go.ChangeShapes Go.WideShapes Go.ChangeAt Go.RowKit
open Go.ChangeMaps (open_string shut_string)
set_option linter.unusedVariables false

set_option maxHeartbeats 2000000 in
theorem walk (a0 : Int) (v1 : Value) (z1 : List Int) (w : World) (h0 : (Lit.int .i64 a0).wf = true) (r1 : Rd .i64 w v1 z1) (h1 : ∀ n ∈ z1, (Lit.int .i64 n).wf = true) :
    Calls Try.prog 5 #[.int .i64 a0, v1] w fun e w' => e = .returned (.bool true) ∧ Below w.heap.size w w' := by
  obtain ⟨A1, c1, rfl, hc1, hm1, _⟩ := id r1
  unfold maxLen at hm1
  by_cases hl : z1.length ≤ 1048576
  · skip
    go_enter Try.func5, Try.ntmps5
    have B := Below.refl w.heap.size w
    go_wp2_with fail
    refine (laws_toIntS _ _ _ (r1.below B) (by omega)).mono ?_
    rintro e u1 ⟨v1, rfl, o1, b1⟩
    replace o1 := o1.le B.size
    replace B := Below.next B b1
    clear b1
    go_wp2_with fail
    refine (spec_KeyedHash _ _ _ _ h0 o1.rd h1 (by omega)).mono ?_
    rintro e u2 ⟨rfl, b2⟩
    replace o1 := o1.below b2
    replace B := Below.next B b2
    clear b2
    go_wp2_with fail
    refine (laws_toIntS _ _ _ (r1.below B) (by omega)).mono ?_
    rintro e u3 ⟨v2, rfl, o2, b3⟩
    have ap21 := own_apart o1 o2 (Nat.le_refl _)
    have ap12 := own_apart' o1 o2 (Nat.le_refl _)
    replace o2 := o2.le B.size
    replace o1 := o1.below b3
    replace B := Below.next B b3
    clear b3
    go_wp2_with fail
    refine (impl_KeyedHash _ _ _ _ h0 o2.rd h1).mono ?_
    rintro e w' ⟨rfl, rfl⟩
    go_wp2_with fail
    refine (laws_toIntS _ _ _ (r1.below B) (by omega)).mono ?_
    rintro e u4 ⟨v3, rfl, o3, b4⟩
    have ap31 := own_apart o1 o3 (Nat.le_refl _)
    have ap13 := own_apart' o1 o3 (Nat.le_refl _)
    have ap32 := own_apart o2 o3 (Nat.le_refl _)
    have ap23 := own_apart' o2 o3 (Nat.le_refl _)
    replace o3 := o3.le B.size
    replace o1 := o1.below b4
    replace o2 := o2.below b4
    replace B := Below.next B b4
    clear b4
    go_wp2_with fail
    refine (laws_eqIntS_same _ _ _ _ o2.rd o3.rd).mono ?_
    rintro e w' ⟨rfl, m5, rfl⟩
    replace o1 := o1.drewN m5
    replace o2 := o2.drewN m5
    replace o3 := o3.drewN m5
    replace B := Below.dn B m5
    go_wp2_with fail
    go_ret
    exact ⟨rfl, B⟩
  · skip
    go_enter Try.func5, Try.ntmps5
    go_wp2_with fail
    go_ret
    exact ⟨rfl, Below.refl _ _⟩

/-! The row: the frame round the walk. -/
theorem own : ownKnob Try.prog.godebug = none := by kernel_rfl
theorem laidOut : laidOutB Try.prog = true := by kernel_rfl
set_option maxRecDepth 100000 in
theorem lifted (os : Os) (started : os.Started) (H : Type) (enc : TypeId × Value → H) :
    ReturnsInHanded {} Try.checked os 5 .any (Rows.fnExactKeyedHashSpec.pre6 enc Try.prog Try.f5 Rows.fnExactKeyedHashRow.domain false) (Rows.fnExactKeyedHashSpec.post enc Try.prog Try.f5 false true false false) := by
  refine returnsInHanded_of_change (C := Try.checked) own started (by kernel_rfl) Try.func5
    (ChangeSpec.witness6 (enc := enc) (C := Try.checked) false ⟨#[], #[.int .i64 0, .slice none 0 0], []⟩ 8 (by kernel_rfl) (by kernel_rfl) (by kernel_rfl) (by kernel_rfl)) ?_
  intro W base args ds gs before hval0 hW hcnd _
  have hval : ∀ (j : Nat) t v, Try.f5.params[j]? = some t → args[j]? = some v → Value.okWide Try.prog W .any base t v := hval0
  have hW' := hW
  obtain ⟨p, q, hA0, hV, rfl, hfz, hnd⟩ := hW
  have hA : DataW.TrodAll enc Try.prog W 0 (fun _ => true) true Try.f5.params.toList args.toList ds p := hA0
  rw [Try.params5] at hA hval
  obtain ⟨v0, vs0, d0, ds0, p0, q0, hargs, rfl, rfl, h0, rr0⟩ := trodAll_cons hA
  obtain ⟨v1, vs1, d1, ds1, p1, q1, rfl, rfl, rfl, h1, rr1⟩ := trodAll_cons rr0
  obtain ⟨rfl, rfl, rfl⟩ := trodAll_nil rr1
  obtain rfl : args = #[v0, v1] := by cases args; simp_all
  obtain ⟨rfl, rfl⟩ := trodVars_none hV
  have k0 := h0
  have lt0 : ∀ x ∈ p0, x.block < W.heap.size := by obtain ⟨m, hm⟩ := k0; exact DataW.trod_lt m _ _ _ hm
  obtain ⟨a0, rfl, _, _, w0⟩ := open_int Try.underlying3 (hval 0 3 v0 rfl rfl) h0
  have k1 := h1
  have lt1 : ∀ x ∈ p1, x.block < W.heap.size := by obtain ⟨m, hm⟩ := k1; exact DataW.trod_lt m _ _ _ hm
  obtain ⟨a1, len1, cap1, rfl⟩ := okWide_slice Try.underlying22 (hval 1 22 v1 rfl rfl)
  obtain ⟨z1, _, r1, w1⟩ := rd_of_trod Try.underlying22 Try.underlying3 (by kernel_rfl) (fun _ => rfl) h1
  clear hA0 hval0
  refine (walk a0 _ z1 W w0 r1 w1).mono fun e W' ⟨he, bel⟩ => ?_
  subst he
  exact ⟨_, rfl, _, _, _, [], _, [], hW', trodAll_mk1 (shut_bool Try.underlying4 _), (trodAll_cons_mk (Below.trod laidOut (by kernel_rfl) (of_decide_eq_true (by kernel_rfl)) k0 bel lt0) (trodAll_cons_mk (Below.trod laidOut (by kernel_rfl) (of_decide_eq_true (by kernel_rfl)) k1 bel lt1) trodAll_mk0)), rfl, bel.frame _, fun h => by cases h⟩
theorem over : Rows.fnExactKeyedHashRow.holds Try.pinned (OpenSpec.ofChange Rows.fnExactKeyedHashSpec) :=
  OpenClaim.holds_of_wide 5 Try.f5 rfl rfl rfl rfl rfl rfl rfl ⟨rfl, rfl, rfl, rfl, rfl⟩ rfl rfl rfl rfl rfl (by kernel_rfl) Try.func5 (by kernel_rfl)
    (of_decide_eq_true (by kernel_rfl)) (by unfold Func.isWrapper; first | (rw [if_pos (by decide +kernel)]; kernel_rfl) | (rw [if_neg (by decide +kernel)]; exact ⟨rfl, rfl⟩))
    (fun os started H enc _ => lifted os started H enc)
/-- THE STATEMENT -/
theorem proved : Rows.FnExactKeyedHashSaid := over
#print axioms proved
end Go.Proofs.Ytgoelmhaobloaaa.lawFnExactKeyedHash
