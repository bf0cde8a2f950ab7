/-
  For all records, challenges and tokens Resynchronize of the program gives the record and the answer of the reference. No condition.
-/
import Derived.Test.YtikpnnblfhabjaaRows
import Derived.Test.YtikpnnblfhabjaaRec
import Derived.Test.YtikpnnblfhabjaaRec2
namespace Go.Proofs.Ytikpnnblfhabjaa.lawFnExactResynchronize
open Go.Proofs.Ytikpnnblfhabjaa
open Go.ChangeShapes Go.WideShapes Go.ChangeAt Go.RowKit
open Go.ChangeMaps (open_string shut_string)
set_option linter.unusedVariables false

set_option maxHeartbeats 4000000 in
theorem walk (a b c x r t : Int) (w : World) (ha : (Lit.int .i64 a).wf = true) (hb : (Lit.int .i64 b).wf = true) (hc : (Lit.int .i64 c).wf = true) (hx : (Lit.int .i64 x).wf = true) (hr : (Lit.int .i64 r).wf = true) (ht : (Lit.int .i64 t).wf = true) :
    Calls Try.prog 11 #[.agg #[.int .i64 a, .int .i64 b, .int .i64 c, .int .i64 x], .int .i64 r, .int .i64 t] w fun e w' => e = .returned (.bool true) ∧ Below w.heap.size w w' := by
  have B0 := Below.refl w.heap.size w
  go_enter Try.func11, Try.ntmps11
  have Hp := Lib.hid (newBlk (w) #[.int .i64 a, .int .i64 b, .int .i64 c, .int .i64 x] 31 (w.heap.size) (by simp))
  replace B0 := Below.al B0 (.cells #[.int .i64 a, .int .i64 b, .int .i64 c, .int .i64 x] 31)
  go_wp2_with fail
  refine (laws_toSubscriberRecord_below _ _ _ _ _).mono ?_
  rintro e u1 ⟨rfl, b1⟩
  replace Hp := Lib.hid (cells_of_below b1 Hp.out)
  replace B0 := Below.next B0 b1
  clear b1
  go_wp2_with fail
  refine (spec_Resynchronize _ _ _ _ _ _ _ hc hr ht).mono ?_
  rintro e u2 ⟨rfl, b2⟩
  replace Hp := Lib.hid (cells_of_below b2 Hp.out)
  replace B0 := Below.next B0 b2
  clear b2
  replace Hp := Lib.hid (oldBlk (.cells #[.int .i64 a, .int .i64 b, .int .i64 c, .int .i64 (M.rsSeq c x r t)] 38) Hp.out)
  have HA := Lib.hid (newBlk (u2) #[.int .i64 a, .int .i64 b, .int .i64 c, .int .i64 (M.rsSeq c x r t)] 38 (u2.heap.size) (by simp))
  replace B0 := Below.al B0 (.cells #[.int .i64 a, .int .i64 b, .int .i64 c, .int .i64 (M.rsSeq c x r t)] 38)
  have cp0 := cell_of Hp.out 0
  have cp1 := cell_of Hp.out 1
  have cp2 := cell_of Hp.out 2
  have cp3 := cell_of Hp.out 3
  simp only [List.getElem?_toArray, List.getElem?_cons_zero, List.getElem?_cons_succ] at cp0 cp1 cp2 cp3
  go_wp2_with fail
  refine (laws_toSubscriberRecord_below _ _ _ _ _).mono ?_
  rintro e u3 ⟨rfl, b3⟩
  clear cp0
  clear cp1
  clear cp2
  clear cp3
  replace Hp := Lib.hid (cells_of_below b3 Hp.out)
  replace HA := Lib.hid (cells_of_below b3 HA.out)
  replace B0 := Below.next B0 b3
  clear b3
  go_wp2_with fail
  refine (impl_Resynchronize _ _ _ _ _ _ _ hc hr ht).mono ?_
  rintro e u4 ⟨rfl, b4⟩
  replace Hp := Lib.hid (cells_of_below b4 Hp.out)
  replace HA := Lib.hid (cells_of_below b4 HA.out)
  replace B0 := Below.next B0 b4
  clear b4
  replace Hp := Lib.hid (oldBlk (.cells #[.int .i64 a, .int .i64 b, .int .i64 c, .int .i64 (M.rsSeq c x r t)] 38) Hp.out)
  replace HA := Lib.hid (oldBlk (.cells #[.int .i64 a, .int .i64 b, .int .i64 c, .int .i64 (M.rsSeq c x r t)] 38) HA.out)
  have HC := Lib.hid (newBlk (u4) #[.int .i64 a, .int .i64 b, .int .i64 c, .int .i64 (M.rsSeq c x r t)] 38 (u4.heap.size) (by simp))
  replace B0 := Below.al B0 (.cells #[.int .i64 a, .int .i64 b, .int .i64 c, .int .i64 (M.rsSeq c x r t)] 38)
  have cA0 := cell_of HA.out 0
  have cA1 := cell_of HA.out 1
  have cA2 := cell_of HA.out 2
  have cA3 := cell_of HA.out 3
  simp only [List.getElem?_toArray, List.getElem?_cons_zero, List.getElem?_cons_succ] at cA0 cA1 cA2 cA3
  have cC0 := cell_of HC.out 0
  have cC1 := cell_of HC.out 1
  have cC2 := cell_of HC.out 2
  have cC3 := cell_of HC.out 3
  simp only [List.getElem?_toArray, List.getElem?_cons_zero, List.getElem?_cons_succ] at cC0 cC1 cC2 cC3
  go_wp2_with fail
  refine (laws_eqSubscriberRecord_same _ _ _ _ _).mono ?_
  rintro e u5 ⟨rfl, b5⟩
  clear cA0
  clear cA1
  clear cA2
  clear cA3
  clear cC0
  clear cC1
  clear cC2
  clear cC3
  replace Hp := Lib.hid (cells_of_below b5 Hp.out)
  replace HA := Lib.hid (cells_of_below b5 HA.out)
  replace HC := Lib.hid (cells_of_below b5 HC.out)
  replace B0 := Below.next B0 b5
  clear b5
  go_wp2_with fail
  go_ret
  exact ⟨rfl, B0⟩

/-! The row: the frame round the walk. -/
theorem own : ownKnob Try.prog.godebug = none := by kernel_rfl
theorem laidOut : laidOutB Try.prog = true := by kernel_rfl
set_option maxRecDepth 100000 in
theorem lifted (os : Os) (started : os.Started) (H : Type) (enc : TypeId × Value → H) :
    ReturnsInHanded {} Try.checked os 11 .any (Rows.fnExactResynchronizeSpec.pre6 enc Try.prog Try.f11 Rows.fnExactResynchronizeRow.domain false) (Rows.fnExactResynchronizeSpec.post enc Try.prog Try.f11 false true false false) := by
  refine returnsInHanded_of_change (C := Try.checked) own started (by kernel_rfl) Try.func11
    (ChangeSpec.witness6 (enc := enc) (C := Try.checked) false ⟨#[], #[.agg #[.int .i64 0, .int .i64 0, .int .i64 0, .int .i64 0], .int .i64 0, .int .i64 0], []⟩ 8 (by kernel_rfl) (by kernel_rfl) (by kernel_rfl) (by kernel_rfl)) ?_
  intro W base args ds gs before hval0 hW hcnd _
  have hval : ∀ (j : Nat) t v, Try.f11.params[j]? = some t → args[j]? = some v → Value.okWide Try.prog W .any base t v := hval0
  have hW' := hW
  obtain ⟨p, q, hA0, hV, rfl, hfz, hnd⟩ := hW
  have hA : DataW.TrodAll enc Try.prog W 0 (fun _ => true) true Try.f11.params.toList args.toList ds p := hA0
  rw [Try.params11] at hA hval
  obtain ⟨v0, vs0, d0, ds0, p0, q0, hargs, rfl, rfl, h0, rr0⟩ := trodAll_cons hA
  obtain ⟨v1, vs1, d1, ds1, p1, q1, rfl, rfl, rfl, h1, rr1⟩ := trodAll_cons rr0
  obtain ⟨v2, vs2, d2, ds2, p2, q2, rfl, rfl, rfl, h2, rr2⟩ := trodAll_cons rr1
  obtain ⟨rfl, rfl, rfl⟩ := trodAll_nil rr2
  obtain rfl : args = #[v0, v1, v2] := by cases args; simp_all
  obtain ⟨rfl, rfl⟩ := trodVars_none hV
  have k0 := h0
  have lt0 : ∀ x ∈ p0, x.block < W.heap.size := by obtain ⟨m, hm⟩ := k0; exact DataW.trod_lt m _ _ _ hm
  obtain ⟨a0, b0, c0, x0, rfl, wa0, wb0, wc0, wx0⟩ := open_nums22 Try.underlying31 Try.underlying27 (by kernel_rfl) (by kernel_rfl) (by kernel_rfl) (by kernel_rfl) (by kernel_rfl) rfl rfl rfl Try.underlying3 Try.underlying3 Try.underlying3 Try.underlying3 (hval 0 31 v0 rfl rfl) h0
  have k1 := h1
  have lt1 : ∀ x ∈ p1, x.block < W.heap.size := by obtain ⟨m, hm⟩ := k1; exact DataW.trod_lt m _ _ _ hm
  obtain ⟨a1, rfl, _, _, w1⟩ := open_int Try.underlying3 (hval 1 3 v1 rfl rfl) h1
  have k2 := h2
  have lt2 : ∀ x ∈ p2, x.block < W.heap.size := by obtain ⟨m, hm⟩ := k2; exact DataW.trod_lt m _ _ _ hm
  obtain ⟨a2, rfl, _, _, w2⟩ := open_int Try.underlying3 (hval 2 3 v2 rfl rfl) h2
  clear hA0 hval0
  refine (walk a0 b0 c0 x0 a1 a2 W wa0 wb0 wc0 wx0 w1 w2).mono fun e W' ⟨he, bel⟩ => ?_
  subst he
  exact ⟨_, rfl, _, _, _, [], _, [], hW', trodAll_mk1 (shut_bool Try.underlying4 _), (trodAll_cons_mk (Below.trod laidOut (by kernel_rfl) (of_decide_eq_true (by kernel_rfl)) k0 bel lt0) (trodAll_cons_mk (Below.trod laidOut (by kernel_rfl) (of_decide_eq_true (by kernel_rfl)) k1 bel lt1) (trodAll_cons_mk (Below.trod laidOut (by kernel_rfl) (of_decide_eq_true (by kernel_rfl)) k2 bel lt2) trodAll_mk0))), rfl, bel.frame _, fun h => by cases h⟩
theorem over : Rows.fnExactResynchronizeRow.holds Try.pinned (OpenSpec.ofChange Rows.fnExactResynchronizeSpec) :=
  OpenClaim.holds_of_wide 11 Try.f11 rfl rfl rfl rfl rfl rfl rfl ⟨rfl, rfl, rfl, rfl, rfl⟩ rfl rfl rfl rfl rfl (by kernel_rfl) Try.func11 (by kernel_rfl)
    (of_decide_eq_true (by kernel_rfl)) (by unfold Func.isWrapper; first | (rw [if_pos (by decide +kernel)]; kernel_rfl) | (rw [if_neg (by decide +kernel)]; exact ⟨rfl, rfl⟩))
    (fun os started H enc _ => lifted os started H enc)
/-- THE STATEMENT -/
theorem proved : Rows.FnExactResynchronizeSaid := over
#print axioms proved
end Go.Proofs.Ytikpnnblfhabjaa.lawFnExactResynchronize
