/-
  For all arguments (a slice of more than 1048576 elements the law passes by itself) DecodeInts of the program gives what the reference gives, leaves its arguments alone, and its result shares no memory with an argument or another result. No condition.
-/
import Derived.Test.YtpkaffnmoebgiaaRows
import Derived.Test.YtpkaffnmoebgiaaInts
import Derived.Test.YtpkaffnmoebgiaaBytes
import Derived.Test.YtpkaffnmoebgiaaVarD
namespace Go.Proofs.Ytpkaffnmoebgiaa.lawFnExactDecodeInts
open Go.Proofs.Ytpkaffnmoebgiaa
open Go.ChangeShapes Go.WideShapes Go.ChangeAt Go.RowKit
open Go.ChangeMaps (open_string shut_string)
set_option linter.unusedVariables false

set_option maxHeartbeats 8000000 in
theorem walk (v0 : Value) (z0 : List Int) (a1 a2 : Int) (w : World) (r0 : Rd .u8 w v0 z0) (h0 : ∀ n ∈ z0, (Lit.int .u8 n).wf = true) (h1 : (Lit.int .i64 a1).wf = true) (_ : (Lit.int .i64 a2).wf = true) :
    Calls Try.prog 10 #[v0, .int .i64 a1, .int .i64 a2] w fun e w' => e = .returned (.bool true) ∧ Below w.heap.size w w' := by
  obtain ⟨A0, c0, rfl, hc0, hm0, _⟩ := id r0
  unfold maxLen at hm0
  by_cases hl : z0.length ≤ 1048576
  · obtain ⟨R1, R2, R3, hR⟩ : ∃ a b c, decT z0 a1 a2 = (a, b, c) := ⟨_, _, _, rfl⟩
    have hu : R1.length ≤ 100 := by have h := decT_len z0 a1 a2; rw [hR] at h; exact h
    have HR := Lib.hid hR
    clear hR
    go_enter Try.func10, Try.ntmps10
    have B := Below.refl w.heap.size w
    go_wp2_with fail
    refine (laws_toByteS _ _ _ (r0.below B) (by omega)).mono ?_
    rintro e u1 ⟨vA0, rfl, oA0, b1⟩
    replace oA0 := oA0.le B.size
    replace B := Below.next B b1
    clear b1
    go_wp2_with fail
    refine (spec_DecodeInts _ z0 a1 a2 _ oA0.rd h0 h1 (by omega) _ _ _ HR.out).mono ?_
    rintro e u2 ⟨vW, rfl, oW, b2⟩
    have apWA0 := own_apart oA0 oW (Nat.le_refl _)
    have apA0W := own_apart' oA0 oW (Nat.le_refl _)
    replace oW := oW.le B.size
    replace oA0 := oA0.below b2
    replace B := Below.next B b2
    clear b2
    go_wp2_with fail
    refine (laws_toByteS _ _ _ (r0.below B) (by omega)).mono ?_
    rintro e u3 ⟨vX0, rfl, oX0, b3⟩
    have apX0A0 := own_apart oA0 oX0 (Nat.le_refl _)
    have apA0X0 := own_apart' oA0 oX0 (Nat.le_refl _)
    have apX0W := own_apart oW oX0 (Nat.le_refl _)
    have apWX0 := own_apart' oW oX0 (Nat.le_refl _)
    replace oX0 := oX0.le B.size
    replace oA0 := oA0.below b3
    replace oW := oW.below b3
    replace B := Below.next B b3
    clear b3
    go_wp2_with fail
    refine (impl_DecodeInts _ z0 a1 a2 _ oX0.rd h0 h1 (by omega) _ _ _ HR.out).mono ?_
    rintro e u4 ⟨vG, rfl, oG, b4⟩
    have apGA0 := own_apart oA0 oG (Nat.le_refl _)
    have apA0G := own_apart' oA0 oG (Nat.le_refl _)
    have apGW := own_apart oW oG (Nat.le_refl _)
    have apWG := own_apart' oW oG (Nat.le_refl _)
    have apGX0 := own_apart oX0 oG (Nat.le_refl _)
    have apX0G := own_apart' oX0 oG (Nat.le_refl _)
    replace oG := oG.le B.size
    replace oA0 := oA0.below b4
    replace oW := oW.below b4
    replace oX0 := oX0.below b4
    replace B := Below.next B b4
    clear b4
    go_wp2_with fail
    refine (laws_eqIntS_same _ _ _ _ oG.rd oW.rd).mono ?_
    rintro e w' ⟨rfl, m5, rfl⟩
    replace oA0 := oA0.drewN m5
    replace oW := oW.drewN m5
    replace oX0 := oX0.drewN m5
    replace oG := oG.drewN m5
    replace B := Below.dn B m5
    go_wp2_with fail
    refine (laws_toByteS _ _ _ (r0.below B) (by omega)).mono ?_
    rintro e u6 ⟨vC0, rfl, oC0, b6⟩
    have apC0A0 := own_apart oA0 oC0 (Nat.le_refl _)
    have apA0C0 := own_apart' oA0 oC0 (Nat.le_refl _)
    have apC0W := own_apart oW oC0 (Nat.le_refl _)
    have apWC0 := own_apart' oW oC0 (Nat.le_refl _)
    have apC0X0 := own_apart oX0 oC0 (Nat.le_refl _)
    have apX0C0 := own_apart' oX0 oC0 (Nat.le_refl _)
    have apC0G := own_apart oG oC0 (Nat.le_refl _)
    have apGC0 := own_apart' oG oC0 (Nat.le_refl _)
    replace oC0 := oC0.le B.size
    replace oA0 := oA0.below b6
    replace oW := oW.below b6
    replace oX0 := oX0.below b6
    replace oG := oG.below b6
    replace B := Below.next B b6
    clear b6
    go_wp2_with fail
    refine (laws_eqByteS_same _ _ _ _ oX0.rd oC0.rd).mono ?_
    rintro e w' ⟨rfl, m7, rfl⟩
    replace oA0 := oA0.drewN m7
    replace oW := oW.drewN m7
    replace oX0 := oX0.drewN m7
    replace oG := oG.drewN m7
    replace oC0 := oC0.drewN m7
    replace B := Below.dn B m7
    go_wp2_with fail
    refine (laws_markByteS _ _ _ _ _ oX0 (by omega) (by omega) (by omega)).mono ?_
    rintro e u8 ⟨rfl, oX0n, g8⟩
    replace oA0 := oA0.grown g8 apA0X0
    replace oW := oW.grown g8 apWX0
    replace oG := oG.grown g8 apGX0
    replace oC0 := oC0.grown g8 apC0X0
    replace B := Below.own B g8 oX0 (Nat.le_refl _)
    replace oX0 := oX0n
    clear g8 oX0n
    go_wp2_with fail
    refine (laws_eqIntS_same _ _ _ _ oG.rd oW.rd).mono ?_
    rintro e w' ⟨rfl, m9, rfl⟩
    replace oA0 := oA0.drewN m9
    replace oW := oW.drewN m9
    replace oX0 := oX0.drewN m9
    replace oG := oG.drewN m9
    replace oC0 := oC0.drewN m9
    replace B := Below.dn B m9
    go_wp2_with fail
    refine (laws_markIntS _ _ _ _ _ oG (by omega) (by omega) (by omega)).mono ?_
    rintro e u10 ⟨rfl, oGn, g10⟩
    replace oA0 := oA0.grown g10 apA0G
    replace oW := oW.grown g10 apWG
    replace oX0 := oX0.grown g10 apX0G
    replace oC0 := oC0.grown g10 apC0G
    replace B := Below.own B g10 oG (Nat.le_refl _)
    replace oG := oGn
    clear g10 oGn
    go_wp2_with fail
    refine (laws_heldIntS _ _ _ _ oG.rd (by omega) (by omega) (by omega)).mono ?_
    rintro e w' ⟨rfl, rfl⟩
    go_wp2_with fail
    refine (laws_toByteS _ _ _ (r0.below B) (by omega)).mono ?_
    rintro e u11 ⟨vD0, rfl, oD0, b11⟩
    have apD0A0 := own_apart oA0 oD0 (Nat.le_refl _)
    have apA0D0 := own_apart' oA0 oD0 (Nat.le_refl _)
    have apD0W := own_apart oW oD0 (Nat.le_refl _)
    have apWD0 := own_apart' oW oD0 (Nat.le_refl _)
    have apD0X0 := own_apart oX0 oD0 (Nat.le_refl _)
    have apX0D0 := own_apart' oX0 oD0 (Nat.le_refl _)
    have apD0G := own_apart oG oD0 (Nat.le_refl _)
    have apGD0 := own_apart' oG oD0 (Nat.le_refl _)
    have apD0C0 := own_apart oC0 oD0 (Nat.le_refl _)
    have apC0D0 := own_apart' oC0 oD0 (Nat.le_refl _)
    replace oD0 := oD0.le B.size
    replace oA0 := oA0.below b11
    replace oW := oW.below b11
    replace oX0 := oX0.below b11
    replace oG := oG.below b11
    replace oC0 := oC0.below b11
    replace B := Below.next B b11
    clear b11
    go_wp2_with fail
    refine (impl_DecodeInts _ z0 a1 a2 _ oD0.rd h0 h1 (by omega) _ _ _ HR.out).mono ?_
    rintro e u12 ⟨vH, rfl, oH, b12⟩
    have apHA0 := own_apart oA0 oH (Nat.le_refl _)
    have apA0H := own_apart' oA0 oH (Nat.le_refl _)
    have apHW := own_apart oW oH (Nat.le_refl _)
    have apWH := own_apart' oW oH (Nat.le_refl _)
    have apHX0 := own_apart oX0 oH (Nat.le_refl _)
    have apX0H := own_apart' oX0 oH (Nat.le_refl _)
    have apHG := own_apart oG oH (Nat.le_refl _)
    have apGH := own_apart' oG oH (Nat.le_refl _)
    have apHC0 := own_apart oC0 oH (Nat.le_refl _)
    have apC0H := own_apart' oC0 oH (Nat.le_refl _)
    have apHD0 := own_apart oD0 oH (Nat.le_refl _)
    have apD0H := own_apart' oD0 oH (Nat.le_refl _)
    replace oH := oH.le B.size
    replace oA0 := oA0.below b12
    replace oW := oW.below b12
    replace oX0 := oX0.below b12
    replace oG := oG.below b12
    replace oC0 := oC0.below b12
    replace oD0 := oD0.below b12
    replace B := Below.next B b12
    clear b12
    go_wp2_with fail
    refine (laws_eqIntS_same _ _ _ _ oH.rd oW.rd).mono ?_
    rintro e w' ⟨rfl, m13, rfl⟩
    replace oA0 := oA0.drewN m13
    replace oW := oW.drewN m13
    replace oX0 := oX0.drewN m13
    replace oG := oG.drewN m13
    replace oC0 := oC0.drewN m13
    replace oD0 := oD0.drewN m13
    replace oH := oH.drewN m13
    replace B := Below.dn B m13
    go_wp2_with fail
    refine (laws_heldIntS _ _ _ _ oG.rd (by omega) (by omega) (by omega)).mono ?_
    rintro e w' ⟨rfl, rfl⟩
    go_wp2_with fail
    go_ret
    exact ⟨rfl, B⟩
  · go_enter Try.func10, Try.ntmps10
    go_wp2_with fail
    go_ret
    exact ⟨rfl, Below.refl _ _⟩

/-! The row: the frame round the walk. -/
theorem own : ownKnob Try.prog.godebug = none := by kernel_rfl
theorem laidOut : laidOutB Try.prog = true := by kernel_rfl
set_option maxRecDepth 100000 in
theorem lifted (os : Os) (started : os.Started) (H : Type) (enc : TypeId × Value → H) :
    ReturnsInHanded {} Try.checked os 10 .any (Rows.fnExactDecodeIntsSpec.pre6 enc Try.prog Try.f10 Rows.fnExactDecodeIntsRow.domain false) (Rows.fnExactDecodeIntsSpec.post enc Try.prog Try.f10 false true false false) := by
  refine returnsInHanded_of_change (C := Try.checked) own started (by kernel_rfl) Try.func10
    (ChangeSpec.witness6 (enc := enc) (C := Try.checked) false ⟨#[], #[.slice none 0 0, .int .i64 0, .int .i64 0], []⟩ 8 (by kernel_rfl) (by kernel_rfl) (by kernel_rfl) (by kernel_rfl)) ?_
  intro W base args ds gs before hval0 hW hcnd _
  have hval : ∀ (j : Nat) t v, Try.f10.params[j]? = some t → args[j]? = some v → Value.okWide Try.prog W .any base t v := hval0
  have hW' := hW
  obtain ⟨p, q, hA0, hV, rfl, hfz, hnd⟩ := hW
  have hA : DataW.TrodAll enc Try.prog W 0 (fun _ => true) true Try.f10.params.toList args.toList ds p := hA0
  rw [Try.params10] at hA hval
  obtain ⟨v0, vs0, d0, ds0, p0, q0, hargs, rfl, rfl, h0, rr0⟩ := trodAll_cons hA
  obtain ⟨v1, vs1, d1, ds1, p1, q1, rfl, rfl, rfl, h1, rr1⟩ := trodAll_cons rr0
  obtain ⟨v2, vs2, d2, ds2, p2, q2, rfl, rfl, rfl, h2, rr2⟩ := trodAll_cons rr1
  obtain ⟨rfl, rfl, rfl⟩ := trodAll_nil rr2
  obtain rfl : args = #[v0, v1, v2] := by cases args; simp_all
  obtain ⟨rfl, rfl⟩ := trodVars_none hV
  have k0 := h0
  have lt0 : ∀ x ∈ p0, x.block < W.heap.size := by obtain ⟨m, hm⟩ := k0; exact DataW.trod_lt m _ _ _ hm
  obtain ⟨a0, len0, cap0, rfl⟩ := okWide_slice Try.underlying22 (hval 0 22 v0 rfl rfl)
  obtain ⟨z0, _, r0, w0⟩ := rd_of_trod Try.underlying22 Try.underlying5 (by kernel_rfl) (fun _ => rfl) h0
  have k1 := h1
  have lt1 : ∀ x ∈ p1, x.block < W.heap.size := by obtain ⟨m, hm⟩ := k1; exact DataW.trod_lt m _ _ _ hm
  obtain ⟨a1, rfl, _, _, w1⟩ := open_int Try.underlying3 (hval 1 3 v1 rfl rfl) h1
  have k2 := h2
  have lt2 : ∀ x ∈ p2, x.block < W.heap.size := by obtain ⟨m, hm⟩ := k2; exact DataW.trod_lt m _ _ _ hm
  obtain ⟨a2, rfl, _, _, w2⟩ := open_int Try.underlying3 (hval 2 3 v2 rfl rfl) h2
  clear hA0 hval0
  refine (walk _ z0 a1 a2 W r0 w0 w1 w2).mono fun e W' ⟨he, bel⟩ => ?_
  subst he
  exact ⟨_, rfl, _, _, _, [], _, [], hW', trodAll_mk1 (shut_bool Try.underlying4 _), (trodAll_cons_mk (Below.trod laidOut (by kernel_rfl) (of_decide_eq_true (by kernel_rfl)) k0 bel lt0) (trodAll_cons_mk (Below.trod laidOut (by kernel_rfl) (of_decide_eq_true (by kernel_rfl)) k1 bel lt1) (trodAll_cons_mk (Below.trod laidOut (by kernel_rfl) (of_decide_eq_true (by kernel_rfl)) k2 bel lt2) trodAll_mk0))), rfl, bel.frame _, fun h => by cases h⟩
theorem over : Rows.fnExactDecodeIntsRow.holds Try.pinned (OpenSpec.ofChange Rows.fnExactDecodeIntsSpec) :=
  OpenClaim.holds_of_wide 10 Try.f10 rfl rfl rfl rfl rfl rfl rfl ⟨rfl, rfl, rfl, rfl, rfl⟩ rfl rfl rfl rfl rfl (by kernel_rfl) Try.func10 (by kernel_rfl)
    (of_decide_eq_true (by kernel_rfl)) (by unfold Func.isWrapper; first | (rw [if_pos (by decide +kernel)]; kernel_rfl) | (rw [if_neg (by decide +kernel)]; exact ⟨rfl, rfl⟩))
    (fun os started H enc _ => lifted os started H enc)
/-- THE STATEMENT -/
theorem proved : Rows.FnExactDecodeIntsSaid := over
#print axioms proved
end Go.Proofs.Ytpkaffnmoebgiaa.lawFnExactDecodeInts
