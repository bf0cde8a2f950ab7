/-
  SignalingKeyPath of the program gives what the reference gives, and its result shares no memory with another result. No condition.
-/
import Derived.Test.YthonjmkigigcdaaRows
import Derived.Test.YthonjmkigigcdaaTree
namespace Go.Proofs.Ythonjmkigigcdaa.lawFnExactSignalingKeyPath
open Go.Proofs.Ythonjmkigigcdaa
open Go.ChangeShapes Go.WideShapes Go.ChangeAt Go.RowKit
open Go.ChangeMaps (open_string shut_string)
set_option linter.unusedVariables false

set_option maxHeartbeats 2000000 in
theorem walk (w : World) :
    Calls Try.prog 4 #[] w fun e w' => e = .returned (.bool true) ∧ Below w.heap.size w w' := by
  go_enter Try.func4, Try.ntmps4
  have B := Below.refl w.heap.size w
  go_wp2_with fail
  refine (spec_SignalingKeyPath _).mono ?_
  rintro e u1 ⟨A1, c1, rfl, o1, b1⟩
  replace B := Below.al (Below.next B b1) (.cells #[.slice A1 2 c1] 24)
  replace o1 := o1.old (.cells #[.slice A1 2 c1] 24)
  have HP := Lib.hid (newBlk u1 #[.slice A1 2 c1] 24 u1.heap.size rfl)
  clear b1
  go_wp2_with fail
  refine (impl_SignalingKeyPath _).mono ?_
  rintro e u2 ⟨A2, c2, rfl, o2, b2⟩
  have hsz : (u1.alloc (.cells #[.slice A1 2 c1] 24)).heap.size = u1.heap.size + 1 := by simp
  have ap1 := own_apart o1 o2 (Nat.le_refl _)
  have ap1' := own_apart' o1 o2 (Nat.le_refl _)
  have apP := blk_lo (g := u1.heap.size) o2 (by omega)
  have apQ := blk_hi o2 (Nat.le_refl _)
  replace o2 := o2.le B.size
  replace HP := Lib.hid (oldBlk (.cells #[.slice A2 2 c2] 24) (cells_of_below b2 HP.out))
  replace o1 := (o1.below b2).old (.cells #[.slice A2 2 c2] 24)
  replace o2 := o2.old (.cells #[.slice A2 2 c2] 24)
  replace B := Below.al (Below.next B b2) (.cells #[.slice A2 2 c2] 24)
  have HQ := Lib.hid (newBlk u2 #[.slice A2 2 c2] 24 u2.heap.size rfl)
  clear b2
  have cP := cell_of HP.out 0
  have cQ := cell_of HQ.out 0
  simp only [List.getElem?_toArray, List.getElem?_cons_zero] at cP cQ
  go_wp2_with fail
  refine (laws_eqKeyPath_same _ _ _ _ o2.rd o1.rd).mono ?_
  rintro e u3 ⟨rfl, b3⟩
  clear cP cQ
  replace o1 := o1.below b3
  replace o2 := o2.below b3
  replace HP := Lib.hid (cells_of_below b3 HP.out)
  replace HQ := Lib.hid (cells_of_below b3 HQ.out)
  replace B := Below.next B b3
  clear b3
  have cP := cell_of HP.out 0
  have cQ := cell_of HQ.out 0
  simp only [List.getElem?_toArray, List.getElem?_cons_zero] at cP cQ
  go_wp2_with fail
  refine (laws_markKeyPath _ _ _ _ _ o2 (by simp) (by omega) (by omega)).mono ?_
  rintro e u4 ⟨rfl, o2n, g4⟩
  replace o1 := o1.grown g4 ap1'
  replace HP := Lib.hid (cells_of_grown g4 apP HP.out)
  replace HQ := Lib.hid (cells_of_grown g4 apQ HQ.out)
  replace B := Below.own B g4 o2 (Nat.le_refl _)
  replace o2 := o2n
  clear g4 o2n cP cQ
  have cP := cell_of HP.out 0
  have cQ := cell_of HQ.out 0
  simp only [List.getElem?_toArray, List.getElem?_cons_zero] at cP cQ
  go_wp2_with fail
  refine (laws_heldKeyPath _ _ _ _ o2.rd (by simp) (by omega) (by omega)).mono ?_
  rintro e u5 ⟨rfl, b5⟩
  clear cP cQ
  replace o1 := o1.below b5
  replace o2 := o2.below b5
  replace HP := Lib.hid (cells_of_below b5 HP.out)
  replace HQ := Lib.hid (cells_of_below b5 HQ.out)
  replace B := Below.next B b5
  clear b5
  go_wp2_with fail
  refine (impl_SignalingKeyPath _).mono ?_
  rintro e u6 ⟨A3, c3, rfl, o3, b6⟩
  replace o3 := (o3.le B.size).old (.cells #[.slice A3 2 c3] 24)
  replace o1 := o1.below b6
  replace o2 := o2.below b6
  replace HP := Lib.hid (cells_of_below b6 HP.out)
  replace HQ := Lib.hid (cells_of_below b6 HQ.out)
  replace B := Below.next B b6
  clear b6
  replace o1 := o1.old (.cells #[.slice A3 2 c3] 24)
  replace o2 := o2.old (.cells #[.slice A3 2 c3] 24)
  replace HP := Lib.hid (oldBlk (.cells #[.slice A3 2 c3] 24) HP.out)
  replace HQ := Lib.hid (oldBlk (.cells #[.slice A3 2 c3] 24) HQ.out)
  replace B := Below.al B (.cells #[.slice A3 2 c3] 24)
  have HR := Lib.hid (newBlk u6 #[.slice A3 2 c3] 24 u6.heap.size rfl)
  have cP := cell_of HP.out 0
  have cQ := cell_of HQ.out 0
  have cR := cell_of HR.out 0
  simp only [List.getElem?_toArray, List.getElem?_cons_zero] at cP cQ cR
  go_wp2_with fail
  refine (laws_eqKeyPath_same _ _ _ _ o3.rd o1.rd).mono ?_
  rintro e u7 ⟨rfl, b7⟩
  clear cP cQ cR
  replace o1 := o1.below b7
  replace o2 := o2.below b7
  replace o3 := o3.below b7
  replace HP := Lib.hid (cells_of_below b7 HP.out)
  replace HQ := Lib.hid (cells_of_below b7 HQ.out)
  replace B := Below.next B b7
  clear b7
  have cQ := cell_of HQ.out 0
  simp only [List.getElem?_toArray, List.getElem?_cons_zero] at cQ
  go_wp2_with fail
  refine (laws_heldKeyPath _ _ _ _ o2.rd (by simp) (by omega) (by omega)).mono ?_
  rintro e u8 ⟨rfl, b8⟩
  replace B := Below.next B b8
  go_wp2_with fail
  go_ret
  exact ⟨rfl, B⟩

/-! The row: the frame round the walk. -/
theorem own : ownKnob Try.prog.godebug = none := by kernel_rfl
theorem laidOut : laidOutB Try.prog = true := by kernel_rfl
set_option maxRecDepth 100000 in
theorem lifted (os : Os) (started : os.Started) (H : Type) (enc : TypeId × Value → H) :
    ReturnsInHanded {} Try.checked os 4 .any (Rows.fnExactSignalingKeyPathSpec.pre6 enc Try.prog Try.f4 Rows.fnExactSignalingKeyPathRow.domain false) (Rows.fnExactSignalingKeyPathSpec.post enc Try.prog Try.f4 false true false false) := by
  refine returnsInHanded_of_change (C := Try.checked) own started (by kernel_rfl) Try.func4
    (ChangeSpec.witness6 (enc := enc) (C := Try.checked) false ⟨#[], #[], []⟩ 8 (by kernel_rfl) (by kernel_rfl) (by kernel_rfl) (by kernel_rfl)) ?_
  intro W base args ds gs before hval0 hW hcnd _
  have hval : ∀ (j : Nat) t v, Try.f4.params[j]? = some t → args[j]? = some v → Value.okWide Try.prog W .any base t v := hval0
  have hW' := hW
  obtain ⟨p, q, hA0, hV, rfl, hfz, hnd⟩ := hW
  have hA : DataW.TrodAll enc Try.prog W 0 (fun _ => true) true Try.f4.params.toList args.toList ds p := hA0
  rw [Try.params4] at hA hval
  obtain ⟨rfl, rfl, rfl⟩ := trodAll_none hA
  obtain ⟨rfl, rfl⟩ := trodVars_none hV
  clear hA0 hval0
  simp only [List.append_nil] at hW'
  refine (walk W).mono fun e W' ⟨he, bel⟩ => ?_
  subst he
  exact ⟨_, rfl, _, _, _, [], _, [], hW', trodAll_mk1 (shut_bool Try.underlying4 _), trodAll_mk0, rfl, bel.frame _, fun h => by cases h⟩
theorem over : Rows.fnExactSignalingKeyPathRow.holds Try.pinned (OpenSpec.ofChange Rows.fnExactSignalingKeyPathSpec) :=
  OpenClaim.holds_of_wide 4 Try.f4 rfl rfl rfl rfl rfl rfl rfl ⟨rfl, rfl, rfl, rfl, rfl⟩ rfl rfl rfl rfl rfl (by kernel_rfl) Try.func4 (by kernel_rfl)
    (of_decide_eq_true (by kernel_rfl)) (by unfold Func.isWrapper; first | (rw [if_pos (by decide +kernel)]; kernel_rfl) | (rw [if_neg (by decide +kernel)]; exact ⟨rfl, rfl⟩))
    (fun os started H enc _ => lifted os started H enc)
/-- THE STATEMENT -/
theorem proved : Rows.FnExactSignalingKeyPathSaid := over
#print axioms proved
end Go.Proofs.Ythonjmkigigcdaa.lawFnExactSignalingKeyPath
