/-
  For all arguments (a slice of more than 1048576 elements the law passes by itself) AppendBytes of the program gives what the reference gives, leaves its arguments alone, and its result shares no memory with an argument or another result. No condition.
-/
import Derived.Test.YtpkaffnmoebgiaaRows
import Derived.Test.YtpkaffnmoebgiaaInts
import Derived.Test.YtpkaffnmoebgiaaBytes
import Derived.Test.YtpkaffnmoebgiaaVarA
namespace Go.Proofs.Ytpkaffnmoebgiaa.lawFnExactAppendBytes
open Go.Proofs.Ytpkaffnmoebgiaa
open Go.ChangeShapes Go.WideShapes Go.ChangeAt Go.RowKit
open Go.ChangeMaps (open_string shut_string)
set_option linter.unusedVariables false

set_option maxHeartbeats 8000000 in
theorem walk (v0 : Value) (z0 : List Int) (v1 : Value) (z1 : List Int) (w : World) (r0 : Rd .u8 w v0 z0) (h0 : ∀ n ∈ z0, (Lit.int .u8 n).wf = true) (r1 : Rd .u8 w v1 z1) (h1 : ∀ n ∈ z1, (Lit.int .u8 n).wf = true) :
    Calls Try.prog 6 #[v0, v1] w fun e w' => e = .returned (.bool true) ∧ Below w.heap.size w w' := by
  obtain ⟨A0, c0, rfl, hc0, hm0, _⟩ := id r0
  unfold maxLen at hm0
  obtain ⟨A1, c1, rfl, hc1, hm1, _⟩ := id r1
  unfold maxLen at hm1
  have hu := uvO_len (z1.length : Int)
  by_cases hl : z0.length ≤ 1048576
  · by_cases hl1 : z1.length ≤ 1048576
    · skip
      go_enter Try.func6, Try.ntmps6
      have B := Below.refl w.heap.size w
      go_wp2_with fail
      refine (laws_toByteS _ _ _ (r0.below B) (by omega)).mono ?_
      rintro e u1 ⟨vA0, rfl, oA0, b1⟩
      replace oA0 := oA0.le B.size
      replace B := Below.next B b1
      clear b1
      go_wp2_with fail
      refine (laws_toByteS _ _ _ (r1.below B) (by omega)).mono ?_
      rintro e u2 ⟨vA1, rfl, oA1, b2⟩
      have apA1A0 := own_apart oA0 oA1 (Nat.le_refl _)
      have apA0A1 := own_apart' oA0 oA1 (Nat.le_refl _)
      replace oA1 := oA1.le B.size
      replace oA0 := oA0.below b2
      replace B := Below.next B b2
      clear b2
      go_wp2_with fail
      refine (spec_AppendBytes _ _ z0 z1 _ oA0.rd oA1.rd (by omega) (by omega)).mono ?_
      rintro e u3 ⟨vW, rfl, oW, b3⟩
      have apWA0 := own_apart oA0 oW (Nat.le_refl _)
      have apA0W := own_apart' oA0 oW (Nat.le_refl _)
      have apWA1 := own_apart oA1 oW (Nat.le_refl _)
      have apA1W := own_apart' oA1 oW (Nat.le_refl _)
      replace oW := oW.le B.size
      replace oA0 := oA0.below b3
      replace oA1 := oA1.below b3
      replace B := Below.next B b3
      clear b3
      go_wp2_with fail
      refine (laws_toByteS _ _ _ (r0.below B) (by omega)).mono ?_
      rintro e u4 ⟨vX0, rfl, oX0, b4⟩
      have apX0A0 := own_apart oA0 oX0 (Nat.le_refl _)
      have apA0X0 := own_apart' oA0 oX0 (Nat.le_refl _)
      have apX0A1 := own_apart oA1 oX0 (Nat.le_refl _)
      have apA1X0 := own_apart' oA1 oX0 (Nat.le_refl _)
      have apX0W := own_apart oW oX0 (Nat.le_refl _)
      have apWX0 := own_apart' oW oX0 (Nat.le_refl _)
      replace oX0 := oX0.le B.size
      replace oA0 := oA0.below b4
      replace oA1 := oA1.below b4
      replace oW := oW.below b4
      replace B := Below.next B b4
      clear b4
      go_wp2_with fail
      refine (laws_toByteS _ _ _ (r1.below B) (by omega)).mono ?_
      rintro e u5 ⟨vX1, rfl, oX1, b5⟩
      have apX1A0 := own_apart oA0 oX1 (Nat.le_refl _)
      have apA0X1 := own_apart' oA0 oX1 (Nat.le_refl _)
      have apX1A1 := own_apart oA1 oX1 (Nat.le_refl _)
      have apA1X1 := own_apart' oA1 oX1 (Nat.le_refl _)
      have apX1W := own_apart oW oX1 (Nat.le_refl _)
      have apWX1 := own_apart' oW oX1 (Nat.le_refl _)
      have apX1X0 := own_apart oX0 oX1 (Nat.le_refl _)
      have apX0X1 := own_apart' oX0 oX1 (Nat.le_refl _)
      replace oX1 := oX1.le B.size
      replace oA0 := oA0.below b5
      replace oA1 := oA1.below b5
      replace oW := oW.below b5
      replace oX0 := oX0.below b5
      replace B := Below.next B b5
      clear b5
      go_wp2_with fail
      refine (impl_AppendBytes _ _ z0 z1 _ oX0.rd oX1.rd (by omega) (by omega)).mono ?_
      rintro e u6 ⟨vG, rfl, oG, b6⟩
      have apGA0 := own_apart oA0 oG (Nat.le_refl _)
      have apA0G := own_apart' oA0 oG (Nat.le_refl _)
      have apGA1 := own_apart oA1 oG (Nat.le_refl _)
      have apA1G := own_apart' oA1 oG (Nat.le_refl _)
      have apGW := own_apart oW oG (Nat.le_refl _)
      have apWG := own_apart' oW oG (Nat.le_refl _)
      have apGX0 := own_apart oX0 oG (Nat.le_refl _)
      have apX0G := own_apart' oX0 oG (Nat.le_refl _)
      have apGX1 := own_apart oX1 oG (Nat.le_refl _)
      have apX1G := own_apart' oX1 oG (Nat.le_refl _)
      replace oG := oG.le B.size
      replace oA0 := oA0.below b6
      replace oA1 := oA1.below b6
      replace oW := oW.below b6
      replace oX0 := oX0.below b6
      replace oX1 := oX1.below b6
      replace B := Below.next B b6
      clear b6
      go_wp2_with fail
      refine (laws_eqByteS_same _ _ _ _ oG.rd oW.rd).mono ?_
      rintro e w' ⟨rfl, m7, rfl⟩
      replace oA0 := oA0.drewN m7
      replace oA1 := oA1.drewN m7
      replace oW := oW.drewN m7
      replace oX0 := oX0.drewN m7
      replace oX1 := oX1.drewN m7
      replace oG := oG.drewN m7
      replace B := Below.dn B m7
      go_wp2_with fail
      refine (laws_toByteS _ _ _ (r0.below B) (by omega)).mono ?_
      rintro e u8 ⟨vC0, rfl, oC0, b8⟩
      have apC0A0 := own_apart oA0 oC0 (Nat.le_refl _)
      have apA0C0 := own_apart' oA0 oC0 (Nat.le_refl _)
      have apC0A1 := own_apart oA1 oC0 (Nat.le_refl _)
      have apA1C0 := own_apart' oA1 oC0 (Nat.le_refl _)
      have apC0W := own_apart oW oC0 (Nat.le_refl _)
      have apWC0 := own_apart' oW oC0 (Nat.le_refl _)
      have apC0X0 := own_apart oX0 oC0 (Nat.le_refl _)
      have apX0C0 := own_apart' oX0 oC0 (Nat.le_refl _)
      have apC0X1 := own_apart oX1 oC0 (Nat.le_refl _)
      have apX1C0 := own_apart' oX1 oC0 (Nat.le_refl _)
      have apC0G := own_apart oG oC0 (Nat.le_refl _)
      have apGC0 := own_apart' oG oC0 (Nat.le_refl _)
      replace oC0 := oC0.le B.size
      replace oA0 := oA0.below b8
      replace oA1 := oA1.below b8
      replace oW := oW.below b8
      replace oX0 := oX0.below b8
      replace oX1 := oX1.below b8
      replace oG := oG.below b8
      replace B := Below.next B b8
      clear b8
      go_wp2_with fail
      refine (laws_eqByteS_same _ _ _ _ oX0.rd oC0.rd).mono ?_
      rintro e w' ⟨rfl, m9, rfl⟩
      replace oA0 := oA0.drewN m9
      replace oA1 := oA1.drewN m9
      replace oW := oW.drewN m9
      replace oX0 := oX0.drewN m9
      replace oX1 := oX1.drewN m9
      replace oG := oG.drewN m9
      replace oC0 := oC0.drewN m9
      replace B := Below.dn B m9
      go_wp2_with fail
      refine (laws_toByteS _ _ _ (r1.below B) (by omega)).mono ?_
      rintro e u10 ⟨vC1, rfl, oC1, b10⟩
      have apC1A0 := own_apart oA0 oC1 (Nat.le_refl _)
      have apA0C1 := own_apart' oA0 oC1 (Nat.le_refl _)
      have apC1A1 := own_apart oA1 oC1 (Nat.le_refl _)
      have apA1C1 := own_apart' oA1 oC1 (Nat.le_refl _)
      have apC1W := own_apart oW oC1 (Nat.le_refl _)
      have apWC1 := own_apart' oW oC1 (Nat.le_refl _)
      have apC1X0 := own_apart oX0 oC1 (Nat.le_refl _)
      have apX0C1 := own_apart' oX0 oC1 (Nat.le_refl _)
      have apC1X1 := own_apart oX1 oC1 (Nat.le_refl _)
      have apX1C1 := own_apart' oX1 oC1 (Nat.le_refl _)
      have apC1G := own_apart oG oC1 (Nat.le_refl _)
      have apGC1 := own_apart' oG oC1 (Nat.le_refl _)
      have apC1C0 := own_apart oC0 oC1 (Nat.le_refl _)
      have apC0C1 := own_apart' oC0 oC1 (Nat.le_refl _)
      replace oC1 := oC1.le B.size
      replace oA0 := oA0.below b10
      replace oA1 := oA1.below b10
      replace oW := oW.below b10
      replace oX0 := oX0.below b10
      replace oX1 := oX1.below b10
      replace oG := oG.below b10
      replace oC0 := oC0.below b10
      replace B := Below.next B b10
      clear b10
      go_wp2_with fail
      refine (laws_eqByteS_same _ _ _ _ oX1.rd oC1.rd).mono ?_
      rintro e w' ⟨rfl, m11, rfl⟩
      replace oA0 := oA0.drewN m11
      replace oA1 := oA1.drewN m11
      replace oW := oW.drewN m11
      replace oX0 := oX0.drewN m11
      replace oX1 := oX1.drewN m11
      replace oG := oG.drewN m11
      replace oC0 := oC0.drewN m11
      replace oC1 := oC1.drewN m11
      replace B := Below.dn B m11
      go_wp2_with fail
      refine (laws_markByteS _ _ _ _ _ oX0 (by omega) (by omega) (by omega)).mono ?_
      rintro e u12 ⟨rfl, oX0n, g12⟩
      replace oA0 := oA0.grown g12 apA0X0
      replace oA1 := oA1.grown g12 apA1X0
      replace oW := oW.grown g12 apWX0
      replace oX1 := oX1.grown g12 apX1X0
      replace oG := oG.grown g12 apGX0
      replace oC0 := oC0.grown g12 apC0X0
      replace oC1 := oC1.grown g12 apC1X0
      replace B := Below.own B g12 oX0 (Nat.le_refl _)
      replace oX0 := oX0n
      clear g12 oX0n
      go_wp2_with fail
      refine (laws_markByteS _ _ _ _ _ oX1 (by omega) (by omega) (by omega)).mono ?_
      rintro e u13 ⟨rfl, oX1n, g13⟩
      replace oA0 := oA0.grown g13 apA0X1
      replace oA1 := oA1.grown g13 apA1X1
      replace oW := oW.grown g13 apWX1
      replace oX0 := oX0.grown g13 apX0X1
      replace oG := oG.grown g13 apGX1
      replace oC0 := oC0.grown g13 apC0X1
      replace oC1 := oC1.grown g13 apC1X1
      replace B := Below.own B g13 oX1 (Nat.le_refl _)
      replace oX1 := oX1n
      clear g13 oX1n
      go_wp2_with fail
      refine (laws_eqByteS_same _ _ _ _ oG.rd oW.rd).mono ?_
      rintro e w' ⟨rfl, m14, rfl⟩
      replace oA0 := oA0.drewN m14
      replace oA1 := oA1.drewN m14
      replace oW := oW.drewN m14
      replace oX0 := oX0.drewN m14
      replace oX1 := oX1.drewN m14
      replace oG := oG.drewN m14
      replace oC0 := oC0.drewN m14
      replace oC1 := oC1.drewN m14
      replace B := Below.dn B m14
      go_wp2_with fail
      refine (laws_markByteS _ _ _ _ _ oG (by simp; omega) (by omega) (by omega)).mono ?_
      rintro e u15 ⟨rfl, oGn, g15⟩
      replace oA0 := oA0.grown g15 apA0G
      replace oA1 := oA1.grown g15 apA1G
      replace oW := oW.grown g15 apWG
      replace oX0 := oX0.grown g15 apX0G
      replace oX1 := oX1.grown g15 apX1G
      replace oC0 := oC0.grown g15 apC0G
      replace oC1 := oC1.grown g15 apC1G
      replace B := Below.own B g15 oG (Nat.le_refl _)
      replace oG := oGn
      clear g15 oGn
      go_wp2_with fail
      refine (laws_heldByteS _ _ _ _ oG.rd (by simp; omega) (by omega) (by omega)).mono ?_
      rintro e w' ⟨rfl, rfl⟩
      go_wp2_with fail
      refine (laws_toByteS _ _ _ (r0.below B) (by omega)).mono ?_
      rintro e u16 ⟨vD0, rfl, oD0, b16⟩
      have apD0A0 := own_apart oA0 oD0 (Nat.le_refl _)
      have apA0D0 := own_apart' oA0 oD0 (Nat.le_refl _)
      have apD0A1 := own_apart oA1 oD0 (Nat.le_refl _)
      have apA1D0 := own_apart' oA1 oD0 (Nat.le_refl _)
      have apD0W := own_apart oW oD0 (Nat.le_refl _)
      have apWD0 := own_apart' oW oD0 (Nat.le_refl _)
      have apD0X0 := own_apart oX0 oD0 (Nat.le_refl _)
      have apX0D0 := own_apart' oX0 oD0 (Nat.le_refl _)
      have apD0X1 := own_apart oX1 oD0 (Nat.le_refl _)
      have apX1D0 := own_apart' oX1 oD0 (Nat.le_refl _)
      have apD0G := own_apart oG oD0 (Nat.le_refl _)
      have apGD0 := own_apart' oG oD0 (Nat.le_refl _)
      have apD0C0 := own_apart oC0 oD0 (Nat.le_refl _)
      have apC0D0 := own_apart' oC0 oD0 (Nat.le_refl _)
      have apD0C1 := own_apart oC1 oD0 (Nat.le_refl _)
      have apC1D0 := own_apart' oC1 oD0 (Nat.le_refl _)
      replace oD0 := oD0.le B.size
      replace oA0 := oA0.below b16
      replace oA1 := oA1.below b16
      replace oW := oW.below b16
      replace oX0 := oX0.below b16
      replace oX1 := oX1.below b16
      replace oG := oG.below b16
      replace oC0 := oC0.below b16
      replace oC1 := oC1.below b16
      replace B := Below.next B b16
      clear b16
      go_wp2_with fail
      refine (laws_toByteS _ _ _ (r1.below B) (by omega)).mono ?_
      rintro e u17 ⟨vD1, rfl, oD1, b17⟩
      have apD1A0 := own_apart oA0 oD1 (Nat.le_refl _)
      have apA0D1 := own_apart' oA0 oD1 (Nat.le_refl _)
      have apD1A1 := own_apart oA1 oD1 (Nat.le_refl _)
      have apA1D1 := own_apart' oA1 oD1 (Nat.le_refl _)
      have apD1W := own_apart oW oD1 (Nat.le_refl _)
      have apWD1 := own_apart' oW oD1 (Nat.le_refl _)
      have apD1X0 := own_apart oX0 oD1 (Nat.le_refl _)
      have apX0D1 := own_apart' oX0 oD1 (Nat.le_refl _)
      have apD1X1 := own_apart oX1 oD1 (Nat.le_refl _)
      have apX1D1 := own_apart' oX1 oD1 (Nat.le_refl _)
      have apD1G := own_apart oG oD1 (Nat.le_refl _)
      have apGD1 := own_apart' oG oD1 (Nat.le_refl _)
      have apD1C0 := own_apart oC0 oD1 (Nat.le_refl _)
      have apC0D1 := own_apart' oC0 oD1 (Nat.le_refl _)
      have apD1C1 := own_apart oC1 oD1 (Nat.le_refl _)
      have apC1D1 := own_apart' oC1 oD1 (Nat.le_refl _)
      have apD1D0 := own_apart oD0 oD1 (Nat.le_refl _)
      have apD0D1 := own_apart' oD0 oD1 (Nat.le_refl _)
      replace oD1 := oD1.le B.size
      replace oA0 := oA0.below b17
      replace oA1 := oA1.below b17
      replace oW := oW.below b17
      replace oX0 := oX0.below b17
      replace oX1 := oX1.below b17
      replace oG := oG.below b17
      replace oC0 := oC0.below b17
      replace oC1 := oC1.below b17
      replace oD0 := oD0.below b17
      replace B := Below.next B b17
      clear b17
      go_wp2_with fail
      refine (impl_AppendBytes _ _ z0 z1 _ oD0.rd oD1.rd (by omega) (by omega)).mono ?_
      rintro e u18 ⟨vH, rfl, oH, b18⟩
      have apHA0 := own_apart oA0 oH (Nat.le_refl _)
      have apA0H := own_apart' oA0 oH (Nat.le_refl _)
      have apHA1 := own_apart oA1 oH (Nat.le_refl _)
      have apA1H := own_apart' oA1 oH (Nat.le_refl _)
      have apHW := own_apart oW oH (Nat.le_refl _)
      have apWH := own_apart' oW oH (Nat.le_refl _)
      have apHX0 := own_apart oX0 oH (Nat.le_refl _)
      have apX0H := own_apart' oX0 oH (Nat.le_refl _)
      have apHX1 := own_apart oX1 oH (Nat.le_refl _)
      have apX1H := own_apart' oX1 oH (Nat.le_refl _)
      have apHG := own_apart oG oH (Nat.le_refl _)
      have apGH := own_apart' oG oH (Nat.le_refl _)
      have apHC0 := own_apart oC0 oH (Nat.le_refl _)
      have apC0H := own_apart' oC0 oH (Nat.le_refl _)
      have apHC1 := own_apart oC1 oH (Nat.le_refl _)
      have apC1H := own_apart' oC1 oH (Nat.le_refl _)
      have apHD0 := own_apart oD0 oH (Nat.le_refl _)
      have apD0H := own_apart' oD0 oH (Nat.le_refl _)
      have apHD1 := own_apart oD1 oH (Nat.le_refl _)
      have apD1H := own_apart' oD1 oH (Nat.le_refl _)
      replace oH := oH.le B.size
      replace oA0 := oA0.below b18
      replace oA1 := oA1.below b18
      replace oW := oW.below b18
      replace oX0 := oX0.below b18
      replace oX1 := oX1.below b18
      replace oG := oG.below b18
      replace oC0 := oC0.below b18
      replace oC1 := oC1.below b18
      replace oD0 := oD0.below b18
      replace oD1 := oD1.below b18
      replace B := Below.next B b18
      clear b18
      go_wp2_with fail
      refine (laws_eqByteS_same _ _ _ _ oH.rd oW.rd).mono ?_
      rintro e w' ⟨rfl, m19, rfl⟩
      replace oA0 := oA0.drewN m19
      replace oA1 := oA1.drewN m19
      replace oW := oW.drewN m19
      replace oX0 := oX0.drewN m19
      replace oX1 := oX1.drewN m19
      replace oG := oG.drewN m19
      replace oC0 := oC0.drewN m19
      replace oC1 := oC1.drewN m19
      replace oD0 := oD0.drewN m19
      replace oD1 := oD1.drewN m19
      replace oH := oH.drewN m19
      replace B := Below.dn B m19
      go_wp2_with fail
      refine (laws_heldByteS _ _ _ _ oG.rd (by simp; omega) (by omega) (by omega)).mono ?_
      rintro e w' ⟨rfl, rfl⟩
      go_wp2_with fail
      go_ret
      exact ⟨rfl, B⟩
    · go_enter Try.func6, Try.ntmps6
      go_wp2_with fail
      go_ret
      exact ⟨rfl, Below.refl _ _⟩
  · go_enter Try.func6, Try.ntmps6
    go_wp2_with fail
    go_ret
    exact ⟨rfl, Below.refl _ _⟩

/-! The row: the frame round the walk. -/
theorem own : ownKnob Try.prog.godebug = none := by kernel_rfl
theorem laidOut : laidOutB Try.prog = true := by kernel_rfl
set_option maxRecDepth 100000 in
theorem lifted (os : Os) (started : os.Started) (H : Type) (enc : TypeId × Value → H) :
    ReturnsInHanded {} Try.checked os 6 .any (Rows.fnExactAppendBytesSpec.pre6 enc Try.prog Try.f6 Rows.fnExactAppendBytesRow.domain false) (Rows.fnExactAppendBytesSpec.post enc Try.prog Try.f6 false true false false) := by
  refine returnsInHanded_of_change (C := Try.checked) own started (by kernel_rfl) Try.func6
    (ChangeSpec.witness6 (enc := enc) (C := Try.checked) false ⟨#[], #[.slice none 0 0, .slice none 0 0], []⟩ 8 (by kernel_rfl) (by kernel_rfl) (by kernel_rfl) (by kernel_rfl)) ?_
  intro W base args ds gs before hval0 hW hcnd _
  have hval : ∀ (j : Nat) t v, Try.f6.params[j]? = some t → args[j]? = some v → Value.okWide Try.prog W .any base t v := hval0
  have hW' := hW
  obtain ⟨p, q, hA0, hV, rfl, hfz, hnd⟩ := hW
  have hA : DataW.TrodAll enc Try.prog W 0 (fun _ => true) true Try.f6.params.toList args.toList ds p := hA0
  rw [Try.params6] at hA hval
  obtain ⟨v0, vs0, d0, ds0, p0, q0, hargs, rfl, rfl, h0, rr0⟩ := trodAll_cons hA
  obtain ⟨v1, vs1, d1, ds1, p1, q1, rfl, rfl, rfl, h1, rr1⟩ := trodAll_cons rr0
  obtain ⟨rfl, rfl, rfl⟩ := trodAll_nil rr1
  obtain rfl : args = #[v0, v1] := by cases args; simp_all
  obtain ⟨rfl, rfl⟩ := trodVars_none hV
  have k0 := h0
  have lt0 : ∀ x ∈ p0, x.block < W.heap.size := by obtain ⟨m, hm⟩ := k0; exact DataW.trod_lt m _ _ _ hm
  obtain ⟨a0, len0, cap0, rfl⟩ := okWide_slice Try.underlying22 (hval 0 22 v0 rfl rfl)
  obtain ⟨z0, _, r0, w0⟩ := rd_of_trod Try.underlying22 Try.underlying5 (by kernel_rfl) (fun _ => rfl) h0
  have k1 := h1
  have lt1 : ∀ x ∈ p1, x.block < W.heap.size := by obtain ⟨m, hm⟩ := k1; exact DataW.trod_lt m _ _ _ hm
  obtain ⟨a1, len1, cap1, rfl⟩ := okWide_slice Try.underlying22 (hval 1 22 v1 rfl rfl)
  obtain ⟨z1, _, r1, w1⟩ := rd_of_trod Try.underlying22 Try.underlying5 (by kernel_rfl) (fun _ => rfl) h1
  clear hA0 hval0
  refine (walk _ z0 _ z1 W r0 w0 r1 w1).mono fun e W' ⟨he, bel⟩ => ?_
  subst he
  exact ⟨_, rfl, _, _, _, [], _, [], hW', trodAll_mk1 (shut_bool Try.underlying4 _), (trodAll_cons_mk (Below.trod laidOut (by kernel_rfl) (of_decide_eq_true (by kernel_rfl)) k0 bel lt0) (trodAll_cons_mk (Below.trod laidOut (by kernel_rfl) (of_decide_eq_true (by kernel_rfl)) k1 bel lt1) trodAll_mk0)), rfl, bel.frame _, fun h => by cases h⟩
theorem over : Rows.fnExactAppendBytesRow.holds Try.pinned (OpenSpec.ofChange Rows.fnExactAppendBytesSpec) :=
  OpenClaim.holds_of_wide 6 Try.f6 rfl rfl rfl rfl rfl rfl rfl ⟨rfl, rfl, rfl, rfl, rfl⟩ rfl rfl rfl rfl rfl (by kernel_rfl) Try.func6 (by kernel_rfl)
    (of_decide_eq_true (by kernel_rfl)) (by unfold Func.isWrapper; first | (rw [if_pos (by decide +kernel)]; kernel_rfl) | (rw [if_neg (by decide +kernel)]; exact ⟨rfl, rfl⟩))
    (fun os started H enc _ => lifted os started H enc)
/-- THE STATEMENT -/
theorem proved : Rows.FnExactAppendBytesSaid := over
#print axioms proved
end Go.Proofs.Ytpkaffnmoebgiaa.lawFnExactAppendBytes
