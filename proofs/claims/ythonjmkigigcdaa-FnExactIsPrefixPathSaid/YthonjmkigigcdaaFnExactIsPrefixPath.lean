/-
  For all pairs of paths of at most 1048576 steps together (longer ones the law passes by itself) IsPrefixPath of the program answers as the reference does and leaves its arguments alone. No condition.
-/
import Derived.Test.YthonjmkigigcdaaRows
import Derived.Test.YthonjmkigigcdaaPre
namespace Go.Proofs.Ythonjmkigigcdaa.lawFnExactIsPrefixPath
open Go.Proofs.Ythonjmkigigcdaa
open Go.ChangeShapes Go.WideShapes Go.ChangeAt Go.RowKit
open Go.ChangeMaps (open_string shut_string)
set_option linter.unusedVariables false

set_option maxHeartbeats 8000000 in
theorem walk (v0 : Value) (z0 : List Int) (v1 : Value) (z1 : List Int) (w : World) (r0 : Rd .i64 w v0 z0) (h0 : ∀ n ∈ z0, (Lit.int .i64 n).wf = true) (r1 : Rd .i64 w v1 z1) (h1 : ∀ n ∈ z1, (Lit.int .i64 n).wf = true) :
    Calls Try.prog 7 #[.agg #[v0], .agg #[v1]] w fun e w' => e = .returned (.bool true) ∧ Below w.heap.size w w' := by
  clear h0 h1
  obtain ⟨A0, c0, rfl, hc0, hm0, _⟩ := id r0
  obtain ⟨A1, c1, rfl, hc1, hm1, _⟩ := id r1
  unfold maxLen at hm0 hm1
  by_cases hl : z0.length + z1.length ≤ 1048576
  · skip
    have B := Below.refl w.heap.size w
    have hl2 : z0.length ≤ 1099511627776 := by omega
    have hl3 : z1.length ≤ 1099511627776 := by omega
    have hq : M.left z0.length 1048576 = 1048576 - (z0.length : Int) := by unfold M.left; rw [if_pos (by omega)]
    have hq2 : M.left z1.length (1048576 - (z0.length : Int)) = 1048576 - (z0.length : Int) - (z1.length : Int) := by unfold M.left; rw [if_pos (by omega)]
    go_enter Try.func7, Try.ntmps7
    have HP := Lib.hid (newBlk (w) #[.slice A0 z0.length c0] 33 (w.heap.size) (rfl))
    replace B := Below.al B (.cells #[.slice A0 z0.length c0] 33)
    replace HP := Lib.hid (oldBlk (.cells #[.slice A1 z1.length c1] 33) HP.out)
    have HR := Lib.hid (newBlk (w.alloc (.cells #[.slice A0 z0.length c0] 33)) #[.slice A1 z1.length c1] 33 (w.heap.size + 1) (by simp))
    replace B := Below.al B (.cells #[.slice A1 z1.length c1] 33)
    go_wp2_with fail
    refine (laws_szKeyPath _ _ _ _ _ (by omega) (by omega) (by omega)).mono ?_
    rw [hq]
    rintro e u1 ⟨rfl, b1⟩
    replace HP := Lib.hid (cells_of_below b1 HP.out)
    replace HR := Lib.hid (cells_of_below b1 HR.out)
    replace B := Below.next B b1
    clear b1
    have cP := cell_of HP.out 0
    have cR := cell_of HR.out 0
    simp only [List.getElem?_toArray, List.getElem?_cons_zero] at cP cR
    go_wp2_with fail
    refine (laws_szKeyPath _ _ _ _ _ (by omega) (by omega) (by omega)).mono ?_
    rw [hq2]
    rintro e u2 ⟨rfl, b2⟩
    clear cP cR
    replace HP := Lib.hid (cells_of_below b2 HP.out)
    replace HR := Lib.hid (cells_of_below b2 HR.out)
    replace B := Below.next B b2
    clear b2
    have cP := cell_of HP.out 0
    have cR := cell_of HR.out 0
    simp only [List.getElem?_toArray, List.getElem?_cons_zero] at cP cR
    go_wp2
    clear cP cR
    replace HP := Lib.hid (drewBlk HP.out)
    replace HR := Lib.hid (drewBlk HR.out)
    replace B := Below.drew B
    have x0P := cell_of HP.out 0
    have x0R := cell_of HR.out 0
    simp only [List.getElem?_toArray, List.getElem?_cons_zero] at x0P x0R
    go_region_held3 (fun w' => w'.cell? ⟨w.heap.size, 0, none⟩ = some (.slice A0 z0.length c0) ∧ w'.cell? ⟨w.heap.size + 1, 0, none⟩ = some (.slice A1 z1.length c1)) (go_keep)
      (first
        | (go_at_call 21; refine (laws_toKeyPath _ _ _ (r0.below B) hl2).mono ?_; rintro e ua0 ⟨vD0, rfl, oD0, ba0⟩; replace HP := Lib.hid (cells_of_below ba0 HP.out); replace HR := Lib.hid (cells_of_below ba0 HR.out); (try replace oD1 := oD1.below ba0); replace B := Below.next B ba0; have y0P := cell_of HP.out 0; have y0R := cell_of HR.out 0; simp only [List.getElem?_toArray, List.getElem?_cons_zero] at y0P y0R)
        | (go_at_call 21; refine (laws_toKeyPath _ _ _ (r1.below B) hl3).mono ?_; rintro e ua1 ⟨vD1, rfl, oD1, ba1⟩; replace HP := Lib.hid (cells_of_below ba1 HP.out); replace HR := Lib.hid (cells_of_below ba1 HR.out); (try replace oD0 := oD0.below ba1); replace B := Below.next B ba1; have y1P := cell_of HP.out 0; have y1R := cell_of HR.out 0; simp only [List.getElem?_toArray, List.getElem?_cons_zero] at y1P y1R)
        | (go_at_call 23; refine (spec_IsPrefixPath _ _ _ _ _ oD0.rd oD1.rd).mono ?_; rintro e ub0 ⟨rfl, bb0⟩; replace HP := Lib.hid (cells_of_below bb0 HP.out); replace HR := Lib.hid (cells_of_below bb0 HR.out); (try replace oD0 := oD0.below bb0); (try replace oD1 := oD1.below bb0); replace B := Below.next B bb0; have z0P := cell_of HP.out 0; have z0R := cell_of HR.out 0; simp only [List.getElem?_toArray, List.getElem?_cons_zero] at z0P z0R))
    all_goals
      clear oD0 oD1
      have cP := cell_of HP.out 0
      have cR := cell_of HR.out 0
      simp only [List.getElem?_toArray, List.getElem?_cons_zero] at cP cR
      go_wp2_with fail
      refine (laws_toKeyPath _ _ _ (r0.below B) hl2).mono ?_
      rintro e u11 ⟨vX, rfl, oX, b11⟩
      replace oX := oX.le B.size
      obtain ⟨AX, cXx, rfl, _, _, _⟩ := id oX.rd
      clear cP cR
      replace HP := Lib.hid (cells_of_below b11 HP.out)
      replace HR := Lib.hid (cells_of_below b11 HR.out)
      replace B := Below.next B b11
      clear b11
      replace HP := Lib.hid (oldBlk (.cells #[.slice AX z0.length cXx] 24) HP.out)
      replace HR := Lib.hid (oldBlk (.cells #[.slice AX z0.length cXx] 24) HR.out)
      replace oX := oX.old (.cells #[.slice AX z0.length cXx] 24)
      have HQ := Lib.hid (newBlk (u11) #[.slice AX z0.length cXx] 24 (u11.heap.size) (rfl))
      replace B := Below.al B (.cells #[.slice AX z0.length cXx] 24)
      have cP := cell_of HP.out 0
      have cR := cell_of HR.out 0
      have cQ := cell_of HQ.out 0
      simp only [List.getElem?_toArray, List.getElem?_cons_zero] at cP cR cQ
      go_wp2_with fail
      refine (laws_toKeyPath _ _ _ (r1.below B) hl3).mono ?_
      rintro e u12 ⟨vY, rfl, oY, b12⟩
      replace oY := oY.le B.size
      obtain ⟨AY, cYx, rfl, _, _, _⟩ := id oY.rd
      clear cP cR cQ
      replace oX := oX.below b12
      replace HP := Lib.hid (cells_of_below b12 HP.out)
      replace HR := Lib.hid (cells_of_below b12 HR.out)
      replace HQ := Lib.hid (cells_of_below b12 HQ.out)
      replace B := Below.next B b12
      clear b12
      replace HP := Lib.hid (oldBlk (.cells #[.slice AY z1.length cYx] 24) HP.out)
      replace HR := Lib.hid (oldBlk (.cells #[.slice AY z1.length cYx] 24) HR.out)
      replace HQ := Lib.hid (oldBlk (.cells #[.slice AY z1.length cYx] 24) HQ.out)
      replace oX := oX.old (.cells #[.slice AY z1.length cYx] 24)
      replace oY := oY.old (.cells #[.slice AY z1.length cYx] 24)
      have HT := Lib.hid (newBlk (u12) #[.slice AY z1.length cYx] 24 (u12.heap.size) (rfl))
      replace B := Below.al B (.cells #[.slice AY z1.length cYx] 24)
      have cP := cell_of HP.out 0
      have cR := cell_of HR.out 0
      have cQ := cell_of HQ.out 0
      have cT := cell_of HT.out 0
      simp only [List.getElem?_toArray, List.getElem?_cons_zero] at cP cR cQ cT
      go_wp2_with fail
      refine (impl_IsPrefixPath _ _ _ _ _ oX.rd oY.rd).mono ?_
      rintro e u13 ⟨rfl, b13⟩
      clear cP cR cQ cT
      replace oX := oX.below b13
      replace oY := oY.below b13
      replace HP := Lib.hid (cells_of_below b13 HP.out)
      replace HR := Lib.hid (cells_of_below b13 HR.out)
      replace HQ := Lib.hid (cells_of_below b13 HQ.out)
      replace HT := Lib.hid (cells_of_below b13 HT.out)
      replace B := Below.next B b13
      clear b13
      go_wp2
      replace HP := Lib.hid (drewBlk HP.out)
      replace HR := Lib.hid (drewBlk HR.out)
      replace HQ := Lib.hid (drewBlk HQ.out)
      replace HT := Lib.hid (drewBlk HT.out)
      replace oX := oX.drew
      replace oY := oY.drew
      replace B := Below.drew B
      have x1P := cell_of HP.out 0
      have x1R := cell_of HR.out 0
      have x1Q := cell_of HQ.out 0
      have x1T := cell_of HT.out 0
      simp only [List.getElem?_toArray, List.getElem?_cons_zero] at x1P x1R x1Q x1T
      go_region_held3 (fun w' => w'.cell? ⟨w.heap.size, 0, none⟩ = some (.slice A0 z0.length c0) ∧ w'.cell? ⟨w.heap.size + 1, 0, none⟩ = some (.slice A1 z1.length c1) ∧ w'.cell? ⟨u11.heap.size, 0, none⟩ = some (.slice AX z0.length cXx) ∧ w'.cell? ⟨u12.heap.size, 0, none⟩ = some (.slice AY z1.length cYx)) (go_keep)
        (first
          | (go_at_call 21; refine (laws_toKeyPath _ _ _ (r0.below B) hl2).mono ?_; rintro e ua1 ⟨vC1, rfl, oC1, ba1⟩; replace HP := Lib.hid (cells_of_below ba1 HP.out); replace HR := Lib.hid (cells_of_below ba1 HR.out); replace HQ := Lib.hid (cells_of_below ba1 HQ.out); replace HT := Lib.hid (cells_of_below ba1 HT.out); replace oX := oX.below ba1; replace oY := oY.below ba1; replace B := Below.next B ba1; have y1P := cell_of HP.out 0; have y1R := cell_of HR.out 0; have y1Q := cell_of HQ.out 0; have y1T := cell_of HT.out 0; simp only [List.getElem?_toArray, List.getElem?_cons_zero] at y1P y1R y1Q y1T)
          | (go_at_call 12; refine (laws_eqKeyPath_same _ _ _ _ oX.rd oC1.rd).mono ?_; rintro e ub1 ⟨rfl, bb1⟩; replace HP := Lib.hid (cells_of_below bb1 HP.out); replace HR := Lib.hid (cells_of_below bb1 HR.out); replace HQ := Lib.hid (cells_of_below bb1 HQ.out); replace HT := Lib.hid (cells_of_below bb1 HT.out); replace oX := oX.below bb1; replace oY := oY.below bb1; replace B := Below.next B bb1; have z1P := cell_of HP.out 0; have z1R := cell_of HR.out 0; have z1Q := cell_of HQ.out 0; have z1T := cell_of HT.out 0; simp only [List.getElem?_toArray, List.getElem?_cons_zero] at z1P z1R z1Q z1T))
    all_goals
      go_wp2
      replace HP := Lib.hid (drewBlk HP.out)
      replace HR := Lib.hid (drewBlk HR.out)
      replace HQ := Lib.hid (drewBlk HQ.out)
      replace HT := Lib.hid (drewBlk HT.out)
      replace oY := oY.drew
      replace B := Below.drew B
      have x2P := cell_of HP.out 0
      have x2R := cell_of HR.out 0
      have x2Q := cell_of HQ.out 0
      have x2T := cell_of HT.out 0
      simp only [List.getElem?_toArray, List.getElem?_cons_zero] at x2P x2R x2Q x2T
      go_region_held3 (fun w' => w'.cell? ⟨w.heap.size, 0, none⟩ = some (.slice A0 z0.length c0) ∧ w'.cell? ⟨w.heap.size + 1, 0, none⟩ = some (.slice A1 z1.length c1) ∧ w'.cell? ⟨u11.heap.size, 0, none⟩ = some (.slice AX z0.length cXx) ∧ w'.cell? ⟨u12.heap.size, 0, none⟩ = some (.slice AY z1.length cYx)) (go_keep)
        (first
          | (go_at_call 21; refine (laws_toKeyPath _ _ _ (r1.below B) hl3).mono ?_; rintro e ua2 ⟨vC2, rfl, oC2, ba2⟩; replace HP := Lib.hid (cells_of_below ba2 HP.out); replace HR := Lib.hid (cells_of_below ba2 HR.out); replace HQ := Lib.hid (cells_of_below ba2 HQ.out); replace HT := Lib.hid (cells_of_below ba2 HT.out); replace oY := oY.below ba2; replace B := Below.next B ba2; have y2P := cell_of HP.out 0; have y2R := cell_of HR.out 0; have y2Q := cell_of HQ.out 0; have y2T := cell_of HT.out 0; simp only [List.getElem?_toArray, List.getElem?_cons_zero] at y2P y2R y2Q y2T)
          | (go_at_call 12; refine (laws_eqKeyPath_same _ _ _ _ oY.rd oC2.rd).mono ?_; rintro e ub2 ⟨rfl, bb2⟩; replace HP := Lib.hid (cells_of_below bb2 HP.out); replace HR := Lib.hid (cells_of_below bb2 HR.out); replace HQ := Lib.hid (cells_of_below bb2 HQ.out); replace HT := Lib.hid (cells_of_below bb2 HT.out); replace oY := oY.below bb2; replace B := Below.next B bb2; have z2P := cell_of HP.out 0; have z2R := cell_of HR.out 0; have z2Q := cell_of HQ.out 0; have z2T := cell_of HT.out 0; simp only [List.getElem?_toArray, List.getElem?_cons_zero] at z2P z2R z2Q z2T))
    all_goals go_wp2
    all_goals
      go_ret
      exact ⟨rfl, B⟩
  · by_cases hk : z0.length ≤ 1048576
    · skip
      have B := Below.refl w.heap.size w
      have hq : M.left z0.length 1048576 = 1048576 - (z0.length : Int) := by unfold M.left; rw [if_pos (by omega)]
      have hq2 : M.left z1.length (1048576 - (z0.length : Int)) = -1 := by unfold M.left; rw [if_neg (by omega)]
      have HP := Lib.hid (oldBlk (.cells #[.slice A1 z1.length c1] 33) (newBlk w #[.slice A0 z0.length c0] 33 w.heap.size rfl))
      have HR := Lib.hid (newBlk (w.alloc (.cells #[.slice A0 z0.length c0] 33)) #[.slice A1 z1.length c1] 33 (w.heap.size + 1) (by simp))
      go_enter Try.func7, Try.ntmps7
      go_wp2_with fail
      refine (laws_szKeyPath _ _ _ _ _ (by omega) (by omega) (by omega)).mono ?_
      rw [hq]
      rintro e u1 ⟨rfl, b1⟩
      have cR := cell_of (cells_of_below b1 HR.out) 0
      simp only [List.getElem?_toArray, List.getElem?_cons_zero] at cR
      go_wp2_with fail
      refine (laws_szKeyPath _ _ _ _ _ (by omega) (by omega) (by omega)).mono ?_
      rw [hq2]
      rintro e u2 ⟨rfl, b2⟩
      go_wp2_with fail
      go_ret
      exact ⟨rfl, Below.next (Below.next (Below.al (Below.al B _) _) b1) b2⟩
    · skip
      have B := Below.refl w.heap.size w
      have hq : M.left z0.length 1048576 = -1 := by unfold M.left; rw [if_neg (by omega)]
      have HP := Lib.hid (oldBlk (.cells #[.slice A1 z1.length c1] 33) (newBlk w #[.slice A0 z0.length c0] 33 w.heap.size rfl))
      have HR := Lib.hid (newBlk (w.alloc (.cells #[.slice A0 z0.length c0] 33)) #[.slice A1 z1.length c1] 33 (w.heap.size + 1) (by simp))
      go_enter Try.func7, Try.ntmps7
      go_wp2_with fail
      refine (laws_szKeyPath _ _ _ _ _ (by omega) (by omega) (by omega)).mono ?_
      rw [hq]
      rintro e u1 ⟨rfl, b1⟩
      go_wp2_with fail
      go_ret
      exact ⟨rfl, Below.next (Below.al (Below.al B _) _) b1⟩

/-! The row: the frame round the walk. -/
theorem own : ownKnob Try.prog.godebug = none := by kernel_rfl
theorem laidOut : laidOutB Try.prog = true := by kernel_rfl
set_option maxRecDepth 100000 in
theorem lifted (os : Os) (started : os.Started) (H : Type) (enc : TypeId × Value → H) :
    ReturnsInHanded {} Try.checked os 7 .any (Rows.fnExactIsPrefixPathSpec.pre6 enc Try.prog Try.f7 Rows.fnExactIsPrefixPathRow.domain false) (Rows.fnExactIsPrefixPathSpec.post enc Try.prog Try.f7 false true false false) := by
  refine returnsInHanded_of_change (C := Try.checked) own started (by kernel_rfl) Try.func7
    (ChangeSpec.witness6 (enc := enc) (C := Try.checked) false ⟨#[], #[.agg #[.slice none 0 0], .agg #[.slice none 0 0]], []⟩ 8 (by kernel_rfl) (by kernel_rfl) (by kernel_rfl) (by kernel_rfl)) ?_
  intro W base args ds gs before hval0 hW hcnd _
  have hval : ∀ (j : Nat) t v, Try.f7.params[j]? = some t → args[j]? = some v → Value.okWide Try.prog W .any base t v := hval0
  have hW' := hW
  obtain ⟨p, q, hA0, hV, rfl, hfz, hnd⟩ := hW
  have hA : DataW.TrodAll enc Try.prog W 0 (fun _ => true) true Try.f7.params.toList args.toList ds p := hA0
  rw [Try.params7] at hA hval
  obtain ⟨v0, vs0, d0, ds0, p0, q0, hargs, rfl, rfl, h0, rr0⟩ := trodAll_cons hA
  obtain ⟨v1, vs1, d1, ds1, p1, q1, rfl, rfl, rfl, h1, rr1⟩ := trodAll_cons rr0
  obtain ⟨rfl, rfl, rfl⟩ := trodAll_nil rr1
  obtain rfl : args = #[v0, v1] := by cases args; simp_all
  obtain ⟨rfl, rfl⟩ := trodVars_none hV
  have k0 := h0
  have lt0 : ∀ x ∈ p0, x.block < W.heap.size := by obtain ⟨m, hm⟩ := k0; exact DataW.trod_lt m _ _ _ hm
  obtain ⟨v0, z0, rfl, r0, w0⟩ := open_path Try.underlying33 (by kernel_rfl) (by kernel_rfl) Try.underlying22 Try.underlying3 (by kernel_rfl) (fun _ => rfl) (hval 0 33 v0 rfl rfl) h0
  have k1 := h1
  have lt1 : ∀ x ∈ p1, x.block < W.heap.size := by obtain ⟨m, hm⟩ := k1; exact DataW.trod_lt m _ _ _ hm
  obtain ⟨v1, z1, rfl, r1, w1⟩ := open_path Try.underlying33 (by kernel_rfl) (by kernel_rfl) Try.underlying22 Try.underlying3 (by kernel_rfl) (fun _ => rfl) (hval 1 33 v1 rfl rfl) h1
  clear hA0 hval0
  refine (walk v0 z0 v1 z1 W r0 w0 r1 w1).mono fun e W' ⟨he, bel⟩ => ?_
  subst he
  exact ⟨_, rfl, _, _, _, [], _, [], hW', trodAll_mk1 (shut_bool Try.underlying4 _), (trodAll_cons_mk (Below.trod laidOut (by kernel_rfl) (of_decide_eq_true (by kernel_rfl)) k0 bel lt0) (trodAll_cons_mk (Below.trod laidOut (by kernel_rfl) (of_decide_eq_true (by kernel_rfl)) k1 bel lt1) trodAll_mk0)), rfl, bel.frame _, fun h => by cases h⟩
theorem over : Rows.fnExactIsPrefixPathRow.holds Try.pinned (OpenSpec.ofChange Rows.fnExactIsPrefixPathSpec) :=
  OpenClaim.holds_of_wide 7 Try.f7 rfl rfl rfl rfl rfl rfl rfl ⟨rfl, rfl, rfl, rfl, rfl⟩ rfl rfl rfl rfl rfl (by kernel_rfl) Try.func7 (by kernel_rfl)
    (of_decide_eq_true (by kernel_rfl)) (by unfold Func.isWrapper; first | (rw [if_pos (by decide +kernel)]; kernel_rfl) | (rw [if_neg (by decide +kernel)]; exact ⟨rfl, rfl⟩))
    (fun os started H enc _ => lifted os started H enc)
/-- THE STATEMENT -/
theorem proved : Rows.FnExactIsPrefixPathSaid := over
#print axioms proved
end Go.Proofs.Ythonjmkigigcdaa.lawFnExactIsPrefixPath
