/-
  For all paths of at most 1048576 steps (longer ones the law passes by itself) IsValidKeyPath of the program answers as the reference does and leaves its argument alone. No condition.
-/
import Derived.Test.YthonjmkigigcdaaRows
import Derived.Test.YthonjmkigigcdaaPath
namespace Go.Proofs.Ythonjmkigigcdaa.lawFnExactIsValidKeyPath
open Go.Proofs.Ythonjmkigigcdaa
open Go.ChangeShapes Go.WideShapes Go.ChangeAt Go.RowKit
open Go.ChangeMaps (open_string shut_string)
set_option linter.unusedVariables false

set_option maxHeartbeats 4000000 in
theorem walk (v0 : Value) (z0 : List Int) (w : World) (r0 : Rd .i64 w v0 z0) (h0 : ∀ n ∈ z0, (Lit.int .i64 n).wf = true) :
    Calls Try.prog 6 #[.agg #[v0]] w fun e w' => e = .returned (.bool true) ∧ Below w.heap.size w w' := by
  obtain ⟨A0, c0, rfl, hc0, hm0, _⟩ := id r0
  unfold maxLen at hm0
  by_cases hl : z0.length ≤ 1048576
  · skip
    have B := Below.refl w.heap.size w
    have hl2 : z0.length ≤ 1099511627776 := by omega
    have hq : M.left z0.length 1048576 = 1048576 - (z0.length : Int) := by unfold M.left; rw [if_pos (by omega)]
    go_enter Try.func6, Try.ntmps6
    have HP := Lib.hid (newBlk (w) #[.slice A0 z0.length c0] 33 (w.heap.size) (rfl))
    replace B := Below.al B (.cells #[.slice A0 z0.length c0] 33)
    go_wp2_with fail
    refine (laws_szKeyPath _ _ _ _ _ (by omega) (by omega) (by omega)).mono ?_
    rw [hq]
    rintro e u1 ⟨rfl, b1⟩
    replace HP := Lib.hid (cells_of_below b1 HP.out)
    replace B := Below.next B b1
    clear b1
    have cP := cell_of HP.out 0
    simp only [List.getElem?_toArray, List.getElem?_cons_zero] at cP
    go_wp2_with fail
    refine (laws_toKeyPath _ _ _ (r0.below B) hl2).mono ?_
    rintro e u2 ⟨vD, rfl, oD, b2⟩
    replace oD := oD.le B.size
    obtain ⟨AD, cDx, rfl, _, _, _⟩ := id oD.rd
    clear cP
    replace HP := Lib.hid (cells_of_below b2 HP.out)
    replace B := Below.next B b2
    clear b2
    go_wp2_with fail
    refine (spec_IsValidKeyPath _ _ _ oD.rd).mono ?_
    rintro e u3 ⟨rfl, b3⟩
    replace oD := oD.below b3
    replace HP := Lib.hid (cells_of_below b3 HP.out)
    replace B := Below.next B b3
    clear b3
    have cP := cell_of HP.out 0
    simp only [List.getElem?_toArray, List.getElem?_cons_zero] at cP
    go_wp2_with fail
    refine (laws_toKeyPath _ _ _ (r0.below B) hl2).mono ?_
    rintro e u4 ⟨vX, rfl, oX, b4⟩
    replace oX := oX.le B.size
    obtain ⟨AX, cXx, rfl, _, _, _⟩ := id oX.rd
    clear cP
    replace oD := oD.below b4
    replace HP := Lib.hid (cells_of_below b4 HP.out)
    replace B := Below.next B b4
    clear b4
    replace HP := Lib.hid (oldBlk (.cells #[.slice AX z0.length cXx] 24) HP.out)
    replace oD := oD.old (.cells #[.slice AX z0.length cXx] 24)
    replace oX := oX.old (.cells #[.slice AX z0.length cXx] 24)
    have HQ := Lib.hid (newBlk (u4) #[.slice AX z0.length cXx] 24 (u4.heap.size) (rfl))
    replace B := Below.al B (.cells #[.slice AX z0.length cXx] 24)
    have cP := cell_of HP.out 0
    have cQ := cell_of HQ.out 0
    simp only [List.getElem?_toArray, List.getElem?_cons_zero] at cP cQ
    go_wp2_with fail
    refine (impl_IsValidKeyPath _ _ _ oX.rd).mono ?_
    rintro e u5 ⟨rfl, b5⟩
    clear cP cQ
    replace oD := oD.below b5
    replace oX := oX.below b5
    replace HP := Lib.hid (cells_of_below b5 HP.out)
    replace HQ := Lib.hid (cells_of_below b5 HQ.out)
    replace B := Below.next B b5
    clear b5
    go_wp2
    replace HP := Lib.hid (drewBlk HP.out)
    replace HQ := Lib.hid (drewBlk HQ.out)
    replace oX := oX.drew
    replace B := Below.drew B
    have x1P := cell_of HP.out 0
    have x1Q := cell_of HQ.out 0
    simp only [List.getElem?_toArray, List.getElem?_cons_zero] at x1P x1Q
    go_region_held3 (fun w' => w'.cell? ⟨w.heap.size, 0, none⟩ = some (.slice A0 z0.length c0) ∧ w'.cell? ⟨u4.heap.size, 0, none⟩ = some (.slice AX z0.length cXx)) (go_keep)
      (first
        | (go_at_call 21; refine (laws_toKeyPath _ _ _ (r0.below B) hl2).mono ?_; rintro e ua1 ⟨vC1, rfl, oC1, ba1⟩; replace HP := Lib.hid (cells_of_below ba1 HP.out); replace HQ := Lib.hid (cells_of_below ba1 HQ.out); replace oX := oX.below ba1; replace B := Below.next B ba1; have y1P := cell_of HP.out 0; have y1Q := cell_of HQ.out 0; simp only [List.getElem?_toArray, List.getElem?_cons_zero] at y1P y1Q)
        | (go_at_call 12; refine (laws_eqKeyPath_same _ _ _ _ oX.rd oC1.rd).mono ?_; rintro e ub1 ⟨rfl, bb1⟩; replace HP := Lib.hid (cells_of_below bb1 HP.out); replace HQ := Lib.hid (cells_of_below bb1 HQ.out); replace oX := oX.below bb1; replace B := Below.next B bb1; have z1P := cell_of HP.out 0; have z1Q := cell_of HQ.out 0; simp only [List.getElem?_toArray, List.getElem?_cons_zero] at z1P z1Q))
    all_goals go_wp2
    all_goals
      go_ret
      exact ⟨rfl, B⟩
  · skip
    have B := Below.refl w.heap.size w
    have hq : M.left z0.length 1048576 = -1 := by unfold M.left; rw [if_neg (by omega)]
    go_enter Try.func6, Try.ntmps6
    go_wp2_with fail
    refine (laws_szKeyPath _ _ _ _ _ (by omega) (by omega) (by omega)).mono ?_
    rw [hq]
    rintro e u1 ⟨rfl, b1⟩
    go_wp2_with fail
    go_ret
    exact ⟨rfl, Below.next (Below.al B _) b1⟩

/-! The row: the frame round the walk. -/
theorem own : ownKnob Try.prog.godebug = none := by kernel_rfl
theorem laidOut : laidOutB Try.prog = true := by kernel_rfl
set_option maxRecDepth 100000 in
theorem lifted (os : Os) (started : os.Started) (H : Type) (enc : TypeId × Value → H) :
    ReturnsInHanded {} Try.checked os 6 .any (Rows.fnExactIsValidKeyPathSpec.pre6 enc Try.prog Try.f6 Rows.fnExactIsValidKeyPathRow.domain false) (Rows.fnExactIsValidKeyPathSpec.post enc Try.prog Try.f6 false true false false) := by
  refine returnsInHanded_of_change (C := Try.checked) own started (by kernel_rfl) Try.func6
    (ChangeSpec.witness6 (enc := enc) (C := Try.checked) false ⟨#[], #[.agg #[.slice none 0 0]], []⟩ 8 (by kernel_rfl) (by kernel_rfl) (by kernel_rfl) (by kernel_rfl)) ?_
  intro W base args ds gs before hval0 hW hcnd _
  have hval : ∀ (j : Nat) t v, Try.f6.params[j]? = some t → args[j]? = some v → Value.okWide Try.prog W .any base t v := hval0
  have hW' := hW
  obtain ⟨p, q, hA0, hV, rfl, hfz, hnd⟩ := hW
  have hA : DataW.TrodAll enc Try.prog W 0 (fun _ => true) true Try.f6.params.toList args.toList ds p := hA0
  rw [Try.params6] at hA hval
  obtain ⟨v0, vs0, d0, ds0, p0, q0, hargs, rfl, rfl, h0, rr0⟩ := trodAll_cons hA
  obtain ⟨rfl, rfl, rfl⟩ := trodAll_nil rr0
  obtain rfl : args = #[v0] := by cases args; simp_all
  obtain ⟨rfl, rfl⟩ := trodVars_none hV
  have k0 := h0
  have lt0 : ∀ x ∈ p0, x.block < W.heap.size := by obtain ⟨m, hm⟩ := k0; exact DataW.trod_lt m _ _ _ hm
  obtain ⟨v0, z0, rfl, r0, w0⟩ := open_path Try.underlying33 (by kernel_rfl) (by kernel_rfl) Try.underlying22 Try.underlying3 (by kernel_rfl) (fun _ => rfl) (hval 0 33 v0 rfl rfl) h0
  clear hA0 hval0
  refine (walk v0 z0 W r0 w0).mono fun e W' ⟨he, bel⟩ => ?_
  subst he
  exact ⟨_, rfl, _, _, _, [], _, [], hW', trodAll_mk1 (shut_bool Try.underlying4 _), (trodAll_cons_mk (Below.trod laidOut (by kernel_rfl) (of_decide_eq_true (by kernel_rfl)) k0 bel lt0) trodAll_mk0), rfl, bel.frame _, fun h => by cases h⟩
theorem over : Rows.fnExactIsValidKeyPathRow.holds Try.pinned (OpenSpec.ofChange Rows.fnExactIsValidKeyPathSpec) :=
  OpenClaim.holds_of_wide 6 Try.f6 rfl rfl rfl rfl rfl rfl rfl ⟨rfl, rfl, rfl, rfl, rfl⟩ rfl rfl rfl rfl rfl (by kernel_rfl) Try.func6 (by kernel_rfl)
    (of_decide_eq_true (by kernel_rfl)) (by unfold Func.isWrapper; first | (rw [if_pos (by decide +kernel)]; kernel_rfl) | (rw [if_neg (by decide +kernel)]; exact ⟨rfl, rfl⟩))
    (fun os started H enc _ => lifted os started H enc)
/-- THE STATEMENT -/
theorem proved : Rows.FnExactIsValidKeyPathSaid := over
#print axioms proved
end Go.Proofs.Ythonjmkigigcdaa.lawFnExactIsValidKeyPath
