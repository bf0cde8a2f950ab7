/-
  For all inputs (longer ones than 1048576 bytes the law passes by itself) neither a radio key nor the signaling key lies on the way to the other, nor the radio key of the next epoch; the session key gives both. No condition.
-/
import Derived.Test.YthonjmkigigcdaaRows
import Derived.Test.YthonjmkigigcdaaSep
import Derived.Test.YthonjmkigigcdaaDraw3
namespace Go.Proofs.Ythonjmkigigcdaa.lawFnKeySeparation
open Go.Proofs.Ythonjmkigigcdaa
open Go.ChangeShapes Go.WideShapes Go.ChangeAt Go.RowKit
open Go.ChangeMaps (open_string shut_string)
set_option linter.unusedVariables false

theorem kfp_last (k e : Int) : 1 ≤ M.kfp k [1, 3, e] ∧ M.kfp k [1, 3, e] < 2147483647 := M.dk_bd _ e
theorem pre_sep (e : Int) : M.pre [1, 3, e] [1, 2] = false ∧ M.pre [1, 2] [1, 3, e] = false ∧ M.pre [1, 3, e] [1, 3, e + 1] = false ∧ M.pre [1, 3, e + 1] [1, 3, e] = false := by
  refine ⟨by simp [M.pre], by simp [M.pre, eqL], by simp [M.pre, eqL]; omega, by simp [M.pre, eqL]; omega⟩

set_option maxRecDepth 100000 in
set_option maxHeartbeats 8000000 in
theorem walk (v0 : Value) (z0 : List Int) (w : World) (r0 : Rd .u8 w v0 z0) (h0 : ∀ n ∈ z0, (Lit.int .u8 n).wf = true) :
    Calls Try.prog 9 #[v0] w fun e w' => e = .returned (.bool true) ∧ Below w.heap.size w w' := by
  obtain ⟨A0, c0, rfl, hc0, hm0, -⟩ := id r0
  unfold maxLen at hm0
  by_cases hl : z0.length ≤ 1048576
  · skip
    go_enter Try.func9, Try.ntmps9
    have B := Below.refl w.heap.size w
    go_wp2_with fail
    refine (laws_big _ _ _ _ hl).mono ?_
    rintro e w' ⟨rfl, rfl⟩
    go_wp2_with fail
    refine (spec_DrawRadioKey _ z0 _ (r0.below B) h0 hl).mono ?_
    rintro e u1 ⟨k, e, rfl, qk, qe, b1⟩
    replace B := Below.next B b1
    clear b1
    obtain ⟨k0, k1⟩ := qk
    obtain ⟨e0, e1⟩ := qe
    have hk := WalkArith.wf_i64 (n := k) (by omega)
    have he := WalkArith.wf_i64 (n := e) (by omega)
    go_wp2_with fail
    refine (impl_RadioKeyPath e _).mono ?_
    rintro e' u2 ⟨A5, c5, rfl, o5, b2⟩
    replace o5 := o5.le B.size
    replace B := Below.next B b2
    clear b2
    have h5 := Lib.hid (newBlk u2 #[.slice A5 3 c5] 24 u2.heap.size rfl)
    have l5 : w.heap.size ≤ u2.heap.size := B.size
    replace o5 := o5.old (.cells #[.slice A5 3 c5] 24)
    replace B := Below.al B (.cells #[.slice A5 3 c5] 24)
    have k5 : u2.heap.size < (u2.alloc (.cells #[.slice A5 3 c5] 24)).heap.size := by simp
    obtain ⟨g5, hg5⟩ : ∃ g, g = u2.heap.size := ⟨_, rfl⟩
    go_wp2_with fail
    rw [← hg5] at h5 l5 k5 ⊢
    clear hg5
    obtain ⟨u3, hu3⟩ : ∃ u, u = u2.alloc (.cells #[.slice A5 3 c5] 24) := ⟨_, rfl⟩
    rw [← hu3] at h5 o5 B k5 ⊢
    clear hu3
    refine (impl_SignalingKeyPath _).mono ?_
    rintro e' u4 ⟨A6, c6, rfl, o6, b4⟩
    replace o6 := o6.le B.size
    replace o5 := o5.below b4
    replace h5 := Lib.hid (cells_of_below b4 h5.out)
    have k5' : g5 < u4.heap.size := Nat.lt_of_lt_of_le k5 b4.size
    replace B := Below.next B b4
    clear b4 k5
    have h6 := Lib.hid (newBlk u4 #[.slice A6 2 c6] 24 u4.heap.size rfl)
    have l6 : w.heap.size ≤ u4.heap.size := B.size
    replace h5 := Lib.hid (oldBlk (.cells #[.slice A6 2 c6] 24) h5.out)
    replace o5 := o5.old (.cells #[.slice A6 2 c6] 24)
    replace o6 := o6.old (.cells #[.slice A6 2 c6] 24)
    replace B := Below.al B (.cells #[.slice A6 2 c6] 24)
    obtain ⟨g6, hg6⟩ : ∃ g, g = u4.heap.size := ⟨_, rfl⟩
    go_wp2_with fail
    rw [← hg6] at h6 l6 k5' ⊢
    clear hg6
    obtain ⟨u5, hu5⟩ : ∃ u, u = u4.alloc (.cells #[.slice A6 2 c6] 24) := ⟨_, rfl⟩
    rw [← hu5] at h5 h6 o5 o6 B ⊢
    clear hu5
    obtain ⟨q1, q2, q3, q4⟩ := pre_sep e
    have Q1 := Lib.hid q1
    have Q2 := Lib.hid q2
    have Q3 := Lib.hid q3
    have Q4 := Lib.hid q4
    clear q1 q2 q3 q4
    replace h5 := Lib.hid (drewBlk h5.out)
    replace h6 := Lib.hid (drewBlk h6.out)
    replace B := Below.drew B
    have O5 : Hid (Own 3 .i64 u5.drew w.heap.size (.slice A5 3 c5) [1, 3, e]) := Lib.hid o5
    have O6 : Hid (Own 3 .i64 u5.drew w.heap.size (.slice A6 2 c6) [1, 2]) := Lib.hid o6
    clear o5 o6
    have x0P := cell_of h5.out 0
    have x0R := cell_of h6.out 0
    simp only [List.getElem?_toArray, List.getElem?_cons_zero] at x0P x0R
    have hw1 : IntKind.i64.wrap (e + 1) = e + 1 := IntWalk.i64_in _ (by omega)
    go_region_held3 (fun w' => w'.cell? ⟨g5, 0, none⟩ = some (.slice A5 3 c5) ∧ w'.cell? ⟨g6, 0, none⟩ = some (.slice A6 2 c6)) (go_keep)
      (first
        | (go_at_call 11; refine (impl_RadioKeyPath (e + 1) _).mono ?_; rintro e' ua ⟨Ax, cx, rfl, ox, ba⟩; replace ox := ox.le B.size; replace O5 := Lib.hid (O5.out.below ba); replace O6 := Lib.hid (O6.out.below ba); replace h5 := Lib.hid (cells_of_below ba h5.out); replace h6 := Lib.hid (cells_of_below ba h6.out); replace B := Below.next B ba; have y0P := cell_of h5.out 0; have y0R := cell_of h6.out 0; simp only [List.getElem?_toArray, List.getElem?_cons_zero] at y0P y0R)
        | (go_at_call 24; (first | ((with_reducible refine (impl_IsPrefixPath _ _ [1, 3, e] [1, 2] _ O5.out.rd O6.out.rd).mono ?_); rw [Q1.out]) | ((with_reducible refine (impl_IsPrefixPath _ _ [1, 2] [1, 3, e] _ O6.out.rd O5.out.rd).mono ?_); rw [Q2.out]) | ((with_reducible refine (impl_IsPrefixPath _ _ [1, 3, e] [1, 3, e + 1] _ O5.out.rd ox.rd).mono ?_); rw [Q3.out]) | ((with_reducible refine (impl_IsPrefixPath _ _ [1, 3, e + 1] [1, 3, e] _ ox.rd O5.out.rd).mono ?_); rw [Q4.out])); rintro e' ua ⟨rfl, ba⟩; (try replace ox := ox.below ba); replace O5 := Lib.hid (O5.out.below ba); replace O6 := Lib.hid (O6.out.below ba); replace h5 := Lib.hid (cells_of_below ba h5.out); replace h6 := Lib.hid (cells_of_below ba h6.out); replace B := Below.next B ba; have y0P := cell_of h5.out 0; have y0R := cell_of h6.out 0; simp only [List.getElem?_toArray, List.getElem?_cons_zero] at y0P y0R))
    clear x0P x0R hw1 Q1 Q2 Q3 Q4 ox y0P y0R
    have o7 : Own 3 .i64 (ua.alloc (.cells #[.int .i64 1] 3)) ua.heap.size (.slice (some ⟨ua.heap.size, 0, none⟩) 1 1) [1] := Own.lit ua ua.heap.size [1] (Nat.le_refl _) (by simp [maxLen])
    have h7 := newBlk (ua.alloc (.cells #[.int .i64 1] 3)) #[.slice (some ⟨ua.heap.size, 0, none⟩) 1 1] 24 (ua.heap.size + 1) (by simp)
    replace o7 := (o7.le B.size).old (.cells #[.slice (some ⟨ua.heap.size, 0, none⟩) 1 1] 24)
    replace h5 := Lib.hid (oldBlk (.cells #[.slice (some ⟨ua.heap.size, 0, none⟩) 1 1] 24) (oldBlk (.cells #[.int .i64 1] 3) h5.out))
    replace h6 := Lib.hid (oldBlk (.cells #[.slice (some ⟨ua.heap.size, 0, none⟩) 1 1] 24) (oldBlk (.cells #[.int .i64 1] 3) h6.out))
    replace O5 := Lib.hid ((O5.out.old (.cells #[.int .i64 1] 3)).old (.cells #[.slice (some ⟨ua.heap.size, 0, none⟩) 1 1] 24))
    replace O6 := Lib.hid ((O6.out.old (.cells #[.int .i64 1] 3)).old (.cells #[.slice (some ⟨ua.heap.size, 0, none⟩) 1 1] 24))
    replace B := Below.al (Below.al B (.cells #[.int .i64 1] 3)) (.cells #[.slice (some ⟨ua.heap.size, 0, none⟩) 1 1] 24)
    have H7 := Lib.hid h7
    have O7 := Lib.hid o7
    clear h7 o7
    have c5 := cell_of h5.out 0
    have c6 := cell_of h6.out 0
    have c7 := cell_of H7.out 0
    simp only [List.getElem?_toArray, List.getElem?_cons_zero] at c5 c6 c7
    go_wp2_with fail
    refine (impl_DeriveFrom k _ _ [1] [1, 3, e] _ hk O7.out.rd O5.out.rd (by intro z hz; simp at hz; subst hz; decide) (wf3 (by decide) (by decide) he) (by simp [M.pre, eqL]) (by simp)).mono ?_
    rintro e' u8 ⟨rfl, b8⟩
    replace h5 := Lib.hid (cells_of_below b8 h5.out)
    replace h6 := Lib.hid (cells_of_below b8 h6.out)
    replace H7 := Lib.hid (cells_of_below b8 H7.out)
    replace O6 := Lib.hid (O6.out.below b8)
    replace O7 := Lib.hid (O7.out.below b8)
    replace B := Below.next B b8
    clear b8 c5 c6 c7 O5
    obtain ⟨q, hq⟩ : ∃ q, q = M.kfp k [1, 3, e] := ⟨_, rfl⟩
    have hq2 : M.inR q 1 2147483646 = true := by
      have h := kfp_last k e
      rw [hq]
      exact M.inR_true (by omega)
    have HQ := Lib.hid hq
    rw [← hq]
    clear hq
    go_wp2_with fail
    refine (impl_RadioKey k e _ hk he).mono ?_
    rw [← HQ.out]
    rintro e' u9 ⟨rfl, b9⟩
    replace h6 := Lib.hid (cells_of_below b9 h6.out)
    replace H7 := Lib.hid (cells_of_below b9 H7.out)
    replace O6 := Lib.hid (O6.out.below b9)
    replace O7 := Lib.hid (O7.out.below b9)
    replace B := Below.next B b9
    clear b9 h5 HQ
    have c6 := cell_of h6.out 0
    have c7 := cell_of H7.out 0
    simp only [List.getElem?_toArray, List.getElem?_cons_zero] at c6 c7
    have hpp : M.pre [1] [1, 2] = true := by simp [M.pre, eqL]
    have HPP := Lib.hid hpp
    clear hpp
    go_wp2_with fail
    refine (impl_IsPrefixPath _ _ [1] [1, 2] _ O7.out.rd O6.out.rd).mono ?_
    rw [HPP.out]
    rintro e' u10 ⟨rfl, b10⟩
    replace B := Below.next B b10
    clear b10 c6 c7 h6 H7 O6 O7 HPP
    go_wp2_with fail
    refine (impl_IsValidKey _ _).mono ?_
    rw [hq2]
    rintro e' w' ⟨rfl, rfl⟩
    go_wp2_with fail
    go_ret
    exact ⟨rfl, B⟩
  · go_enter Try.func9, Try.ntmps9
    go_wp2_with fail
    refine (laws_big_yes _ _ _ _ (by omega)).mono ?_
    rintro e w' ⟨rfl, rfl⟩
    go_wp2_with fail
    go_ret
    exact ⟨rfl, Below.refl _ _⟩

/-! The row: the frame round the walk. -/
theorem own : ownKnob Try.prog.godebug = none := by kernel_rfl
theorem laidOut : laidOutB Try.prog = true := by kernel_rfl
set_option maxRecDepth 100000 in
theorem lifted (os : Os) (started : os.Started) (H : Type) (enc : TypeId × Value → H) :
    ReturnsInHanded {} Try.checked os 9 .any (Rows.fnKeySeparationSpec.pre6 enc Try.prog Try.f9 Rows.fnKeySeparationRow.domain false) (Rows.fnKeySeparationSpec.post enc Try.prog Try.f9 false true false false) := by
  refine returnsInHanded_of_change (C := Try.checked) own started (by kernel_rfl) Try.func9
    (ChangeSpec.witness6 (enc := enc) (C := Try.checked) false ⟨#[], #[.slice none 0 0], []⟩ 8 (by kernel_rfl) (by kernel_rfl) (by kernel_rfl) (by kernel_rfl)) ?_
  intro W base args ds gs before hval0 hW hcnd _
  have hval : ∀ (j : Nat) t v, Try.f9.params[j]? = some t → args[j]? = some v → Value.okWide Try.prog W .any base t v := hval0
  have hW' := hW
  obtain ⟨p, q, hA0, hV, rfl, hfz, hnd⟩ := hW
  have hA : DataW.TrodAll enc Try.prog W 0 (fun _ => true) true Try.f9.params.toList args.toList ds p := hA0
  rw [Try.params9] at hA hval
  obtain ⟨v0, vs0, d0, ds0, p0, q0, hargs, rfl, rfl, h0, rr0⟩ := trodAll_cons hA
  obtain ⟨rfl, rfl, rfl⟩ := trodAll_nil rr0
  obtain rfl : args = #[v0] := by cases args; simp_all
  obtain ⟨rfl, rfl⟩ := trodVars_none hV
  have k0 := h0
  have lt0 : ∀ x ∈ p0, x.block < W.heap.size := by obtain ⟨m, hm⟩ := k0; exact DataW.trod_lt m _ _ _ hm
  obtain ⟨a0, len0, cap0, rfl⟩ := okWide_slice Try.underlying39 (hval 0 39 v0 rfl rfl)
  obtain ⟨z0, _, r0, w0⟩ := rd_of_trod Try.underlying39 Try.underlying5 (by kernel_rfl) (fun _ => rfl) h0
  clear hA0 hval0
  refine (walk _ z0 W r0 w0).mono fun e W' ⟨he, bel⟩ => ?_
  subst he
  exact ⟨_, rfl, _, _, _, [], _, [], hW', trodAll_mk1 (shut_bool Try.underlying4 _), (trodAll_cons_mk (Below.trod laidOut (by kernel_rfl) (of_decide_eq_true (by kernel_rfl)) k0 bel lt0) trodAll_mk0), rfl, bel.frame _, fun h => by cases h⟩
theorem over : Rows.fnKeySeparationRow.holds Try.pinned (OpenSpec.ofChange Rows.fnKeySeparationSpec) :=
  OpenClaim.holds_of_wide 9 Try.f9 rfl rfl rfl rfl rfl rfl rfl ⟨rfl, rfl, rfl, rfl, rfl⟩ rfl rfl rfl rfl rfl (by kernel_rfl) Try.func9 (by kernel_rfl)
    (of_decide_eq_true (by kernel_rfl)) (by unfold Func.isWrapper; first | (rw [if_pos (by decide +kernel)]; kernel_rfl) | (rw [if_neg (by decide +kernel)]; exact ⟨rfl, rfl⟩))
    (fun os started H enc _ => lifted os started H enc)
/-- THE STATEMENT -/
theorem proved : Rows.FnKeySeparationSaid := over
#print axioms proved
end Go.Proofs.Ythonjmkigigcdaa.lawFnKeySeparation
