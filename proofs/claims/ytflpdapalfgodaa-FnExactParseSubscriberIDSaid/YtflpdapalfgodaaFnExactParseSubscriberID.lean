/-
  For all strings (longer ones than 1048576 bytes the law passes by itself) ParseSubscriberID of the program gives what the reference gives. No condition.
-/
import Derived.Test.YtflpdapalfgodaaRows
import Derived.Test.YtflpdapalfgodaaPss
namespace Go.Proofs.Ytflpdapalfgodaa.lawFnExactParseSubscriberID
open Go.Proofs.Ytflpdapalfgodaa
open Go.ChangeShapes Go.WideShapes Go.ChangeAt Go.RowKit
open Go.ChangeMaps (open_string shut_string)
set_option linter.unusedVariables false

theorem laws_eqSubscriberID_same (a b : Int) (w : World) :
    Calls Try.prog 9 #[.agg #[.int .i64 a, .int .i64 b], .agg #[.int .i64 a, .int .i64 b]] w fun e w' => e = .returned (.bool true) ∧ w' = (w.alloc (.cells #[.int .i64 a, .int .i64 b] 26)).alloc (.cells #[.int .i64 a, .int .i64 b] 26) := by
  go_enter Try.func9, Try.ntmps9
  go_wp2
  go_ret
  exact ⟨rfl, rfl⟩

set_option maxRecDepth 100000 in
set_option maxHeartbeats 1000000 in
theorem walk (s : ByteArray) (w : World) (h0 : s.size ≤ 9223372036854775807) :
    Calls Try.prog 4 #[.string s] w fun e w' => e = .returned (.bool true) ∧ Below w.heap.size w w' := by
  by_cases hl : s.size ≤ 1048576
  · obtain ⟨X, hX⟩ : ∃ X, X = sidX s.data.toList := ⟨_, rfl⟩
    obtain ⟨Y, hY⟩ : ∃ Y, Y = sidY s.data.toList := ⟨_, rfl⟩
    obtain ⟨Q, hQ⟩ : ∃ Q, Q = sidOk s.data.toList := ⟨_, rfl⟩
    have HX := Lib.hid hX
    have HY := Lib.hid hY
    have HQ := Lib.hid hQ
    clear hX hY hQ
    go_enter Try.func4, Try.ntmps4
    go_wp2_with fail
    refine (spec_ParseSubscriberID s _ hl X Y Q HX.out HY.out HQ.out).mono ?_
    rintro e w1 ⟨rfl, b1⟩
    have B0 := Below.al b1 (.cells #[.int .i64 X, .int .i64 Y] 26)
    have HB := Lib.hid (newBlk w1 #[.int .i64 X, .int .i64 Y] 26 w1.heap.size rfl)
    go_wp2_with fail
    refine (impl_ParseSubscriberID s _ hl X Y Q HX.out HY.out HQ.out).mono ?_
    rintro e w2 ⟨rfl, b2⟩
    replace B0 := Below.next B0 b2
    replace HB := Lib.hid (cells_of_below b2 HB.out)
    have cQ0 := cell_of HB.out 0
    have cQ1 := cell_of HB.out 1
    simp only [List.getElem?_toArray, List.getElem?_cons_zero, List.getElem?_cons_succ] at cQ0 cQ1
    have fQ := free_of HB.out
    have hz : w1.heap.size < w2.heap.size := (Array.getElem?_eq_some_iff.1 HB.out).1
    clear b1 b2
    go_wp2_with (go_at_call 9; refine (laws_eqSubscriberID_same _ _ _).mono ?_; rintro e w3 ⟨rfl, rfl⟩)
    go_ret
    exact ⟨rfl, by repeat (first | (with_reducible exact B0) | (with_reducible refine Below.al ?_ _) | (with_reducible refine Below.dn ?_ _))⟩
  · go_enter Try.func4, Try.ntmps4
    go_wp2_with fail
    go_ret
    exact ⟨rfl, Below.refl _ _⟩

/-! The row: the frame round the walk. -/
theorem own : ownKnob Try.prog.godebug = none := by kernel_rfl
theorem laidOut : laidOutB Try.prog = true := by kernel_rfl
set_option maxRecDepth 100000 in
theorem lifted (os : Os) (started : os.Started) (H : Type) (enc : TypeId × Value → H) :
    ReturnsInHanded {} Try.checked os 4 .any (Rows.fnExactParseSubscriberIDSpec.pre6 enc Try.prog Try.f4 Rows.fnExactParseSubscriberIDRow.domain false) (Rows.fnExactParseSubscriberIDSpec.post enc Try.prog Try.f4 false true false false) := by
  refine returnsInHanded_of_change (C := Try.checked) own started (by kernel_rfl) Try.func4
    (ChangeSpec.witness6 (enc := enc) (C := Try.checked) false ⟨#[], #[.string ByteArray.empty], []⟩ 8 (by kernel_rfl) (by kernel_rfl) (by kernel_rfl) (by kernel_rfl)) ?_
  intro W base args ds gs before hval0 hW hcnd _
  have hval : ∀ (j : Nat) t v, Try.f4.params[j]? = some t → args[j]? = some v → Value.okWide Try.prog W .any base t v := hval0
  have hW' := hW
  obtain ⟨p, q, hA0, hV, rfl, hfz, hnd⟩ := hW
  have hA : DataW.TrodAll enc Try.prog W 0 (fun _ => true) true Try.f4.params.toList args.toList ds p := hA0
  rw [Try.params4] at hA hval
  obtain ⟨v0, vs0, d0, ds0, p0, q0, hargs, rfl, rfl, h0, rr0⟩ := trodAll_cons hA
  obtain ⟨rfl, rfl, rfl⟩ := trodAll_nil rr0
  obtain rfl : args = #[v0] := by cases args; simp_all
  obtain ⟨rfl, rfl⟩ := trodVars_none hV
  have k0 := h0
  have lt0 : ∀ x ∈ p0, x.block < W.heap.size := by obtain ⟨m, hm⟩ := k0; exact DataW.trod_lt m _ _ _ hm
  obtain ⟨s0, rfl, _, _, w0⟩ := open_string Try.underlying9 (hval 0 9 v0 rfl rfl) h0
  clear hA0 hval0
  refine (walk s0 W w0).mono fun e W' ⟨he, bel⟩ => ?_
  subst he
  exact ⟨_, rfl, _, _, _, [], _, [], hW', trodAll_mk1 (shut_bool Try.underlying4 _), (trodAll_cons_mk (Below.trod laidOut (by kernel_rfl) (of_decide_eq_true (by kernel_rfl)) k0 bel lt0) trodAll_mk0), rfl, bel.frame _, fun h => by cases h⟩
theorem over : Rows.fnExactParseSubscriberIDRow.holds Try.pinned (OpenSpec.ofChange Rows.fnExactParseSubscriberIDSpec) :=
  OpenClaim.holds_of_wide 4 Try.f4 rfl rfl rfl rfl rfl rfl rfl ⟨rfl, rfl, rfl, rfl, rfl⟩ rfl rfl rfl rfl rfl (by kernel_rfl) Try.func4 (by kernel_rfl)
    (of_decide_eq_true (by kernel_rfl)) (by unfold Func.isWrapper; first | (rw [if_pos (by decide +kernel)]; kernel_rfl) | (rw [if_neg (by decide +kernel)]; exact ⟨rfl, rfl⟩))
    (fun os started H enc _ => lifted os started H enc)
/-- THE STATEMENT -/
theorem proved : Rows.FnExactParseSubscriberIDSaid := over
#print axioms proved
end Go.Proofs.Ytflpdapalfgodaa.lawFnExactParseSubscriberID
