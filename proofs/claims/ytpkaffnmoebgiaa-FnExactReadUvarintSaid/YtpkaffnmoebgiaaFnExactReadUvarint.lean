/-
  For all arguments (a slice of more than 1048576 elements the law passes by itself) ReadUvarint of the program gives what the reference gives and leaves its argument alone. No condition.
-/
import Derived.Test.YtpkaffnmoebgiaaRows
import Derived.Test.YtpkaffnmoebgiaaRows
import Derived.Test.YtpkaffnmoebgiaaInts
import Derived.Test.YtpkaffnmoebgiaaBytes
import Derived.Test.YtpkaffnmoebgiaaVar
namespace Go.Proofs.Ytpkaffnmoebgiaa.lawFnExactReadUvarint
open Go.Proofs.Ytpkaffnmoebgiaa
open Go.ChangeShapes Go.WideShapes Go.ChangeAt Go.RowKit
open Go.ChangeMaps (open_string shut_string)
set_option linter.unusedVariables false

set_option maxHeartbeats 8000000 in
theorem walk (v0 : Value) (z0 : List Int) (a1 : Int) (w : World) (r0 : Rd .u8 w v0 z0) (h0 : ∀ n ∈ z0, (Lit.int .u8 n).wf = true) (h1 : (Lit.int .i64 a1).wf = true) :
    Calls Try.prog 4 #[v0, .int .i64 a1] w fun e w' => e = .returned (.bool true) ∧ Below w.heap.size w w' := by
  obtain ⟨A0, c0, rfl, hc0, hm0, _⟩ := id r0
  unfold maxLen at hm0
  by_cases hl : z0.length ≤ 1048576
  · obtain ⟨R1, R2, R3, hR⟩ : ∃ a b c, rdUv z0 a1 = (a, b, c) := ⟨_, _, _, rfl⟩
    have HR := Lib.hid hR
    clear hR
    go_enter Try.func4, Try.ntmps4
    have B := Below.refl w.heap.size w
    go_wp2_with fail
    refine (laws_toByteS _ _ _ (r0.below B) (by omega)).mono ?_
    rintro e u1 ⟨vA0, rfl, oA0, b1⟩
    replace oA0 := oA0.le B.size
    replace B := Below.next B b1
    clear b1
    go_wp2_with fail
    refine (spec_ReadUvarint _ z0 a1 _ h1 oA0.rd h0 (by omega) _ _ _ HR.out).mono ?_
    rintro e w' ⟨rfl, rfl⟩
    go_wp2_with fail
    refine (laws_toByteS _ _ _ (r0.below B) (by omega)).mono ?_
    rintro e u2 ⟨vX0, rfl, oX0, b2⟩
    have apX0A0 := own_apart oA0 oX0 (Nat.le_refl _)
    have apA0X0 := own_apart' oA0 oX0 (Nat.le_refl _)
    replace oX0 := oX0.le B.size
    replace oA0 := oA0.below b2
    replace B := Below.next B b2
    clear b2
    go_wp2_with fail
    refine (impl_ReadUvarint _ z0 a1 _ h1 oX0.rd h0 (by omega) _ _ _ HR.out).mono ?_
    rintro e w' ⟨rfl, rfl⟩
    go_wp2_with fail
    refine (laws_toByteS _ _ _ (r0.below B) (by omega)).mono ?_
    rintro e u3 ⟨vC0, rfl, oC0, b3⟩
    have apC0A0 := own_apart oA0 oC0 (Nat.le_refl _)
    have apA0C0 := own_apart' oA0 oC0 (Nat.le_refl _)
    have apC0X0 := own_apart oX0 oC0 (Nat.le_refl _)
    have apX0C0 := own_apart' oX0 oC0 (Nat.le_refl _)
    replace oC0 := oC0.le B.size
    replace oA0 := oA0.below b3
    replace oX0 := oX0.below b3
    replace B := Below.next B b3
    clear b3
    go_wp2_with fail
    refine (laws_eqByteS_same _ _ _ _ oX0.rd oC0.rd).mono ?_
    rintro e w' ⟨rfl, m4, rfl⟩
    replace oA0 := oA0.drewN m4
    replace oX0 := oX0.drewN m4
    replace oC0 := oC0.drewN m4
    replace B := Below.dn B m4
    go_wp2_with fail
    go_ret
    exact ⟨rfl, B⟩
  · go_enter Try.func4, Try.ntmps4
    go_wp2_with fail
    go_ret
    exact ⟨rfl, Below.refl _ _⟩

/-! The row: the frame round the walk. -/
theorem own : ownKnob Try.prog.godebug = none := by kernel_rfl
theorem laidOut : laidOutB Try.prog = true := by kernel_rfl
set_option maxRecDepth 100000 in
theorem lifted (os : Os) (started : os.Started) (H : Type) (enc : TypeId × Value → H) :
    ReturnsInHanded {} Try.checked os 4 .any (Rows.fnExactReadUvarintSpec.pre6 enc Try.prog Try.f4 Rows.fnExactReadUvarintRow.domain false) (Rows.fnExactReadUvarintSpec.post enc Try.prog Try.f4 false true false false) := by
  refine returnsInHanded_of_change (C := Try.checked) own started (by kernel_rfl) Try.func4
    (ChangeSpec.witness6 (enc := enc) (C := Try.checked) false ⟨#[], #[.slice none 0 0, .int .i64 0], []⟩ 8 (by kernel_rfl) (by kernel_rfl) (by kernel_rfl) (by kernel_rfl)) ?_
  intro W base args ds gs before hval0 hW hcnd _
  have hval : ∀ (j : Nat) t v, Try.f4.params[j]? = some t → args[j]? = some v → Value.okWide Try.prog W .any base t v := hval0
  have hW' := hW
  obtain ⟨p, q, hA0, hV, rfl, hfz, hnd⟩ := hW
  have hA : DataW.TrodAll enc Try.prog W 0 (fun _ => true) true Try.f4.params.toList args.toList ds p := hA0
  rw [Try.params4] at hA hval
  obtain ⟨v0, vs0, d0, ds0, p0, q0, hargs, rfl, rfl, h0, rr0⟩ := trodAll_cons hA
  obtain ⟨v1, vs1, d1, ds1, p1, q1, rfl, rfl, rfl, h1, rr1⟩ := trodAll_cons rr0
  obtain ⟨rfl, rfl, rfl⟩ := trodAll_nil rr1
  obtain rfl : args = #[v0, v1] := by cases args; simp_all
  obtain ⟨rfl, rfl⟩ := trodVars_none hV
  have k0 := h0
  have lt0 : ∀ x ∈ p0, x.block < W.heap.size := by obtain ⟨m, hm⟩ := k0; exact DataW.trod_lt m _ _ _ hm
  obtain ⟨a0, len0, cap0, rfl⟩ := okWide_slice Try.underlying22 (hval 0 22 v0 rfl rfl)
  obtain ⟨z0, _, r0, w0⟩ := rd_of_trod Try.underlying22 Try.underlying5 (by kernel_rfl) (fun _ => rfl) h0
  have k1 := h1
  have lt1 : ∀ x ∈ p1, x.block < W.heap.size := by obtain ⟨m, hm⟩ := k1; exact DataW.trod_lt m _ _ _ hm
  obtain ⟨a1, rfl, _, _, w1⟩ := open_int Try.underlying3 (hval 1 3 v1 rfl rfl) h1
  clear hA0 hval0
  refine (walk _ z0 a1 W r0 w0 w1).mono fun e W' ⟨he, bel⟩ => ?_
  subst he
  exact ⟨_, rfl, _, _, _, [], _, [], hW', trodAll_mk1 (shut_bool Try.underlying4 _), (trodAll_cons_mk (Below.trod laidOut (by kernel_rfl) (of_decide_eq_true (by kernel_rfl)) k0 bel lt0) (trodAll_cons_mk (Below.trod laidOut (by kernel_rfl) (of_decide_eq_true (by kernel_rfl)) k1 bel lt1) trodAll_mk0)), rfl, bel.frame _, fun h => by cases h⟩
theorem over : Rows.fnExactReadUvarintRow.holds Try.pinned (OpenSpec.ofChange Rows.fnExactReadUvarintSpec) :=
  OpenClaim.holds_of_wide 4 Try.f4 rfl rfl rfl rfl rfl rfl rfl ⟨rfl, rfl, rfl, rfl, rfl⟩ rfl rfl rfl rfl rfl (by kernel_rfl) Try.func4 (by kernel_rfl)
    (of_decide_eq_true (by kernel_rfl)) (by unfold Func.isWrapper; first | (rw [if_pos (by decide +kernel)]; kernel_rfl) | (rw [if_neg (by decide +kernel)]; exact ⟨rfl, rfl⟩))
    (fun os started H enc _ => lifted os started H enc)
/-- THE STATEMENT -/
theorem proved : Rows.FnExactReadUvarintSaid := over
#print axioms proved
end Go.Proofs.Ytpkaffnmoebgiaa.lawFnExactReadUvarint
