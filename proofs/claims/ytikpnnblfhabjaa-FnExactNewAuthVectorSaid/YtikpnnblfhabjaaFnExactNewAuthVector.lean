/-
  For all keys, challenges and sequence numbers the vector of the program is the one of the reference in every field. No condition.
-/
import Derived.Test.YtikpnnblfhabjaaRows
import Derived.Test.YtikpnnblfhabjaaVec
namespace Go.Proofs.Ytikpnnblfhabjaa.lawFnExactNewAuthVector
open Go.Proofs.Ytikpnnblfhabjaa
open Go.ChangeShapes Go.WideShapes Go.ChangeAt Go.RowKit
open Go.ChangeMaps (open_string shut_string)
set_option linter.unusedVariables false

set_option maxHeartbeats 2000000 in
theorem walk (k r s : Int) (w : World) (hk : (Lit.int .i64 k).wf = true) (hr : (Lit.int .i64 r).wf = true) (hs : (Lit.int .i64 s).wf = true) :
    Calls Try.prog 10 #[.int .i64 k, .int .i64 r, .int .i64 s] w fun e w' => e = .returned (.bool true) ∧ Below w.heap.size w w' := by
  have B0 := Below.refl w.heap.size w
  go_enter Try.func10, Try.ntmps10
  go_wp2_with fail
  refine (spec_NewAuthVector _ _ _ _ hk hr hs).mono ?_
  rintro e u1 ⟨rfl, b1⟩
  replace B0 := Below.next B0 b1
  clear b1
  have Hp := Lib.hid (newBlk (u1) #[.int .i64 (M.nv0 r s), .int .i64 (M.nv1 k r s), .int .i64 (M.nv2 k r s), .int .i64 (M.nv3 k r s), .int .i64 (M.nv4 k r s)] 46 (u1.heap.size) (by simp))
  replace B0 := Below.al B0 (.cells #[.int .i64 (M.nv0 r s), .int .i64 (M.nv1 k r s), .int .i64 (M.nv2 k r s), .int .i64 (M.nv3 k r s), .int .i64 (M.nv4 k r s)] 46)
  go_wp2_with fail
  refine (impl_NewAuthVector _ _ _ _ hk hr hs).mono ?_
  rintro e u2 ⟨rfl, b2⟩
  replace Hp := Lib.hid (cells_of_below b2 Hp.out)
  replace B0 := Below.next B0 b2
  clear b2
  replace Hp := Lib.hid (oldBlk (.cells #[.int .i64 (M.nv0 r s), .int .i64 (M.nv1 k r s), .int .i64 (M.nv2 k r s), .int .i64 (M.nv3 k r s), .int .i64 (M.nv4 k r s)] 46) Hp.out)
  have Hq := Lib.hid (newBlk (u2) #[.int .i64 (M.nv0 r s), .int .i64 (M.nv1 k r s), .int .i64 (M.nv2 k r s), .int .i64 (M.nv3 k r s), .int .i64 (M.nv4 k r s)] 46 (u2.heap.size) (by simp))
  replace B0 := Below.al B0 (.cells #[.int .i64 (M.nv0 r s), .int .i64 (M.nv1 k r s), .int .i64 (M.nv2 k r s), .int .i64 (M.nv3 k r s), .int .i64 (M.nv4 k r s)] 46)
  have cp0 := cell_of Hp.out 0
  have cp1 := cell_of Hp.out 1
  have cp2 := cell_of Hp.out 2
  have cp3 := cell_of Hp.out 3
  have cp4 := cell_of Hp.out 4
  simp only [List.getElem?_toArray, List.getElem?_cons_zero, List.getElem?_cons_succ] at cp0 cp1 cp2 cp3 cp4
  have cq0 := cell_of Hq.out 0
  have cq1 := cell_of Hq.out 1
  have cq2 := cell_of Hq.out 2
  have cq3 := cell_of Hq.out 3
  have cq4 := cell_of Hq.out 4
  simp only [List.getElem?_toArray, List.getElem?_cons_zero, List.getElem?_cons_succ] at cq0 cq1 cq2 cq3 cq4
  go_wp2_with fail
  refine (laws_eqAuthVector_same _ _ _ _ _ _).mono ?_
  rintro e u3 ⟨rfl, b3⟩
  clear cp0
  clear cp1
  clear cp2
  clear cp3
  clear cp4
  clear cq0
  clear cq1
  clear cq2
  clear cq3
  clear cq4
  replace Hp := Lib.hid (cells_of_below b3 Hp.out)
  replace Hq := Lib.hid (cells_of_below b3 Hq.out)
  replace B0 := Below.next B0 b3
  clear b3
  go_wp2_with fail
  go_ret
  exact ⟨rfl, B0⟩

/-! The row: the frame round the walk. -/
theorem own : ownKnob Try.prog.godebug = none := by kernel_rfl
theorem laidOut : laidOutB Try.prog = true := by kernel_rfl
set_option maxRecDepth 100000 in
theorem lifted (os : Os) (started : os.Started) (H : Type) (enc : TypeId × Value → H) :
    ReturnsInHanded {} Try.checked os 10 .any (Rows.fnExactNewAuthVectorSpec.pre6 enc Try.prog Try.f10 Rows.fnExactNewAuthVectorRow.domain false) (Rows.fnExactNewAuthVectorSpec.post enc Try.prog Try.f10 false true false false) := by
  refine returnsInHanded_of_change (C := Try.checked) own started (by kernel_rfl) Try.func10
    (ChangeSpec.witness6 (enc := enc) (C := Try.checked) false ⟨#[], #[.int .i64 0, .int .i64 0, .int .i64 0], []⟩ 8 (by kernel_rfl) (by kernel_rfl) (by kernel_rfl) (by kernel_rfl)) ?_
  intro W base args ds gs before hval0 hW hcnd _
  have hval : ∀ (j : Nat) t v, Try.f10.params[j]? = some t → args[j]? = some v → Value.okWide Try.prog W .any base t v := hval0
  have hW' := hW
  obtain ⟨p, q, hA0, hV, rfl, hfz, hnd⟩ := hW
  have hA : DataW.TrodAll enc Try.prog W 0 (fun _ => true) true Try.f10.params.toList args.toList ds p := hA0
  rw [Try.params10] at hA hval
  obtain ⟨v0, vs0, d0, ds0, p0, q0, hargs, rfl, rfl, h0, rr0⟩ := trodAll_cons hA
  obtain ⟨v1, vs1, d1, ds1, p1, q1, rfl, rfl, rfl, h1, rr1⟩ := trodAll_cons rr0
  obtain ⟨v2, vs2, d2, ds2, p2, q2, rfl, rfl, rfl, h2, rr2⟩ := trodAll_cons rr1
  obtain ⟨rfl, rfl, rfl⟩ := trodAll_nil rr2
  obtain rfl : args = #[v0, v1, v2] := by cases args; simp_all
  obtain ⟨rfl, rfl⟩ := trodVars_none hV
  have k0 := h0
  have lt0 : ∀ x ∈ p0, x.block < W.heap.size := by obtain ⟨m, hm⟩ := k0; exact DataW.trod_lt m _ _ _ hm
  obtain ⟨a0, rfl, _, _, w0⟩ := open_int Try.underlying3 (hval 0 3 v0 rfl rfl) h0
  have k1 := h1
  have lt1 : ∀ x ∈ p1, x.block < W.heap.size := by obtain ⟨m, hm⟩ := k1; exact DataW.trod_lt m _ _ _ hm
  obtain ⟨a1, rfl, _, _, w1⟩ := open_int Try.underlying3 (hval 1 3 v1 rfl rfl) h1
  have k2 := h2
  have lt2 : ∀ x ∈ p2, x.block < W.heap.size := by obtain ⟨m, hm⟩ := k2; exact DataW.trod_lt m _ _ _ hm
  obtain ⟨a2, rfl, _, _, w2⟩ := open_int Try.underlying3 (hval 2 3 v2 rfl rfl) h2
  clear hA0 hval0
  refine (walk a0 a1 a2 W w0 w1 w2).mono fun e W' ⟨he, bel⟩ => ?_
  subst he
  exact ⟨_, rfl, _, _, _, [], _, [], hW', trodAll_mk1 (shut_bool Try.underlying4 _), (trodAll_cons_mk (Below.trod laidOut (by kernel_rfl) (of_decide_eq_true (by kernel_rfl)) k0 bel lt0) (trodAll_cons_mk (Below.trod laidOut (by kernel_rfl) (of_decide_eq_true (by kernel_rfl)) k1 bel lt1) (trodAll_cons_mk (Below.trod laidOut (by kernel_rfl) (of_decide_eq_true (by kernel_rfl)) k2 bel lt2) trodAll_mk0))), rfl, bel.frame _, fun h => by cases h⟩
theorem over : Rows.fnExactNewAuthVectorRow.holds Try.pinned (OpenSpec.ofChange Rows.fnExactNewAuthVectorSpec) :=
  OpenClaim.holds_of_wide 10 Try.f10 rfl rfl rfl rfl rfl rfl rfl ⟨rfl, rfl, rfl, rfl, rfl⟩ rfl rfl rfl rfl rfl (by kernel_rfl) Try.func10 (by kernel_rfl)
    (of_decide_eq_true (by kernel_rfl)) (by unfold Func.isWrapper; first | (rw [if_pos (by decide +kernel)]; kernel_rfl) | (rw [if_neg (by decide +kernel)]; exact ⟨rfl, rfl⟩))
    (fun os started H enc _ => lifted os started H enc)
/-- THE STATEMENT -/
theorem proved : Rows.FnExactNewAuthVectorSaid := over
#print axioms proved
end Go.Proofs.Ytikpnnblfhabjaa.lawFnExactNewAuthVector
