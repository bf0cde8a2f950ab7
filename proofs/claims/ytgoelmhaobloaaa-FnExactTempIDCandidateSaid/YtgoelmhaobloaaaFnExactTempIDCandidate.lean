/-
  For all keys, pools, identities and attempts TempIDCandidate of the program gives what the reference gives in every field. No condition.
-/
import Derived.Test.YtgoelmhaobloaaaRows
import Derived.Test.YtgoelmhaobloaaaTemp
import Derived.Test.YtgoelmhaobloaaaEqT
namespace Go.Proofs.Ytgoelmhaobloaaa.lawFnExactTempIDCandidate
open Go.Proofs.Ytgoelmhaobloaaa
open Go.ChangeShapes Go.WideShapes Go.ChangeAt Go.RowKit
open Go.ChangeMaps (open_string shut_string)
set_option linter.unusedVariables false

set_option maxHeartbeats 2000000 in
theorem walk (k p a b n : Int) (w : World) (hk : (Lit.int .i64 k).wf = true) (hp : (Lit.int .i64 p).wf = true) (ha : (Lit.int .i64 a).wf = true) (hb : (Lit.int .i64 b).wf = true) (hn : (Lit.int .i64 n).wf = true) :
    Calls Try.prog 6 #[.int .i64 k, .int .i64 p, .agg #[.int .i64 a, .int .i64 b], .int .i64 n] w fun e w' => e = .returned (.bool true) ∧ Below w.heap.size w w' := by
  have B0 := Below.refl w.heap.size w
  go_enter Try.func6, Try.ntmps6
  have Hp := Lib.hid (newBlk (w) #[.int .i64 a, .int .i64 b] 30 (w.heap.size) (by simp))
  replace B0 := Below.al B0 (.cells #[.int .i64 a, .int .i64 b] 30)
  have cp0 := cell_of Hp.out 0
  have cp1 := cell_of Hp.out 1
  simp only [List.getElem?_toArray, List.getElem?_cons_zero, List.getElem?_cons_succ] at cp0 cp1
  go_wp2_with fail
  refine (laws_toSubscriberID_below _ _ _).mono ?_
  rintro e u1 ⟨rfl, b1⟩
  clear cp0
  clear cp1
  replace Hp := Lib.hid (cells_of_below b1 Hp.out)
  replace B0 := Below.next B0 b1
  clear b1
  go_wp2_with fail
  refine (spec_TempIDCandidate _ _ _ _ _ _ hk ha hb hn).mono ?_
  rintro e u2 ⟨rfl, b2⟩
  replace Hp := Lib.hid (cells_of_below b2 Hp.out)
  replace B0 := Below.next B0 b2
  clear b2
  replace Hp := Lib.hid (oldBlk (.cells #[.int .i64 p, .int .i64 (M.cand k a b n)] 32) Hp.out)
  have Hs := Lib.hid (newBlk (u2) #[.int .i64 p, .int .i64 (M.cand k a b n)] 32 (u2.heap.size) (by simp))
  replace B0 := Below.al B0 (.cells #[.int .i64 p, .int .i64 (M.cand k a b n)] 32)
  have cp0 := cell_of Hp.out 0
  have cp1 := cell_of Hp.out 1
  simp only [List.getElem?_toArray, List.getElem?_cons_zero, List.getElem?_cons_succ] at cp0 cp1
  go_wp2_with fail
  refine (laws_toSubscriberID_below _ _ _).mono ?_
  rintro e u3 ⟨rfl, b3⟩
  clear cp0
  clear cp1
  replace Hp := Lib.hid (cells_of_below b3 Hp.out)
  replace Hs := Lib.hid (cells_of_below b3 Hs.out)
  replace B0 := Below.next B0 b3
  clear b3
  go_wp2_with fail
  refine (impl_TempIDCandidate _ _ _ _ _ _ hk ha hb hn).mono ?_
  rintro e u4 ⟨rfl, b4⟩
  replace Hp := Lib.hid (cells_of_below b4 Hp.out)
  replace Hs := Lib.hid (cells_of_below b4 Hs.out)
  replace B0 := Below.next B0 b4
  clear b4
  replace Hp := Lib.hid (oldBlk (.cells #[.int .i64 p, .int .i64 (M.cand k a b n)] 32) Hp.out)
  replace Hs := Lib.hid (oldBlk (.cells #[.int .i64 p, .int .i64 (M.cand k a b n)] 32) Hs.out)
  have Ht := Lib.hid (newBlk (u4) #[.int .i64 p, .int .i64 (M.cand k a b n)] 32 (u4.heap.size) (by simp))
  replace B0 := Below.al B0 (.cells #[.int .i64 p, .int .i64 (M.cand k a b n)] 32)
  have cs0 := cell_of Hs.out 0
  have cs1 := cell_of Hs.out 1
  simp only [List.getElem?_toArray, List.getElem?_cons_zero, List.getElem?_cons_succ] at cs0 cs1
  have ct0 := cell_of Ht.out 0
  have ct1 := cell_of Ht.out 1
  simp only [List.getElem?_toArray, List.getElem?_cons_zero, List.getElem?_cons_succ] at ct0 ct1
  go_wp2_with fail
  refine (laws_eqTempID_below _ _ _).mono ?_
  rintro e u5 ⟨rfl, b5⟩
  clear cs0
  clear cs1
  clear ct0
  clear ct1
  replace Hp := Lib.hid (cells_of_below b5 Hp.out)
  replace Hs := Lib.hid (cells_of_below b5 Hs.out)
  replace Ht := Lib.hid (cells_of_below b5 Ht.out)
  replace B0 := Below.next B0 b5
  clear b5
  go_wp2_with fail
  go_ret
  exact ⟨rfl, B0⟩

/-! The row: the frame round the walk. -/
theorem own : ownKnob Try.prog.godebug = none := by kernel_rfl
theorem laidOut : laidOutB Try.prog = true := by kernel_rfl
set_option maxRecDepth 100000 in
theorem lifted (os : Os) (started : os.Started) (H : Type) (enc : TypeId × Value → H) :
    ReturnsInHanded {} Try.checked os 6 .any (Rows.fnExactTempIDCandidateSpec.pre6 enc Try.prog Try.f6 Rows.fnExactTempIDCandidateRow.domain false) (Rows.fnExactTempIDCandidateSpec.post enc Try.prog Try.f6 false true false false) := by
  refine returnsInHanded_of_change (C := Try.checked) own started (by kernel_rfl) Try.func6
    (ChangeSpec.witness6 (enc := enc) (C := Try.checked) false ⟨#[], #[.int .i64 0, .int .i64 0, .agg #[.int .i64 0, .int .i64 0], .int .i64 0], []⟩ 8 (by kernel_rfl) (by kernel_rfl) (by kernel_rfl) (by kernel_rfl)) ?_
  intro W base args ds gs before hval0 hW hcnd _
  have hval : ∀ (j : Nat) t v, Try.f6.params[j]? = some t → args[j]? = some v → Value.okWide Try.prog W .any base t v := hval0
  have hW' := hW
  obtain ⟨p, q, hA0, hV, rfl, hfz, hnd⟩ := hW
  have hA : DataW.TrodAll enc Try.prog W 0 (fun _ => true) true Try.f6.params.toList args.toList ds p := hA0
  rw [Try.params6] at hA hval
  obtain ⟨v0, vs0, d0, ds0, p0, q0, hargs, rfl, rfl, h0, rr0⟩ := trodAll_cons hA
  obtain ⟨v1, vs1, d1, ds1, p1, q1, rfl, rfl, rfl, h1, rr1⟩ := trodAll_cons rr0
  obtain ⟨v2, vs2, d2, ds2, p2, q2, rfl, rfl, rfl, h2, rr2⟩ := trodAll_cons rr1
  obtain ⟨v3, vs3, d3, ds3, p3, q3, rfl, rfl, rfl, h3, rr3⟩ := trodAll_cons rr2
  obtain ⟨rfl, rfl, rfl⟩ := trodAll_nil rr3
  obtain rfl : args = #[v0, v1, v2, v3] := by cases args; simp_all
  obtain ⟨rfl, rfl⟩ := trodVars_none hV
  have k0 := h0
  have lt0 : ∀ x ∈ p0, x.block < W.heap.size := by obtain ⟨m, hm⟩ := k0; exact DataW.trod_lt m _ _ _ hm
  obtain ⟨a0, rfl, _, _, w0⟩ := open_int Try.underlying3 (hval 0 3 v0 rfl rfl) h0
  have k1 := h1
  have lt1 : ∀ x ∈ p1, x.block < W.heap.size := by obtain ⟨m, hm⟩ := k1; exact DataW.trod_lt m _ _ _ hm
  obtain ⟨a1, rfl, _, _, w1⟩ := open_int Try.underlying3 (hval 1 3 v1 rfl rfl) h1
  have k2 := h2
  have lt2 : ∀ x ∈ p2, x.block < W.heap.size := by obtain ⟨m, hm⟩ := k2; exact DataW.trod_lt m _ _ _ hm
  obtain ⟨a2, b2, rfl, w2, y2⟩ := open_nums2 Try.underlying30 (by kernel_rfl) (by kernel_rfl) Try.underlying3 Try.underlying3 (hval 2 30 v2 rfl rfl) h2
  have k3 := h3
  have lt3 : ∀ x ∈ p3, x.block < W.heap.size := by obtain ⟨m, hm⟩ := k3; exact DataW.trod_lt m _ _ _ hm
  obtain ⟨a3, rfl, _, _, w3⟩ := open_int Try.underlying3 (hval 3 3 v3 rfl rfl) h3
  clear hA0 hval0
  refine (walk a0 a1 a2 b2 a3 W w0 w1 w2 y2 w3).mono fun e W' ⟨he, bel⟩ => ?_
  subst he
  exact ⟨_, rfl, _, _, _, [], _, [], hW', trodAll_mk1 (shut_bool Try.underlying4 _), (trodAll_cons_mk (Below.trod laidOut (by kernel_rfl) (of_decide_eq_true (by kernel_rfl)) k0 bel lt0) (trodAll_cons_mk (Below.trod laidOut (by kernel_rfl) (of_decide_eq_true (by kernel_rfl)) k1 bel lt1) (trodAll_cons_mk (Below.trod laidOut (by kernel_rfl) (of_decide_eq_true (by kernel_rfl)) k2 bel lt2) (trodAll_cons_mk (Below.trod laidOut (by kernel_rfl) (of_decide_eq_true (by kernel_rfl)) k3 bel lt3) trodAll_mk0)))), rfl, bel.frame _, fun h => by cases h⟩
theorem over : Rows.fnExactTempIDCandidateRow.holds Try.pinned (OpenSpec.ofChange Rows.fnExactTempIDCandidateSpec) :=
  OpenClaim.holds_of_wide 6 Try.f6 rfl rfl rfl rfl rfl rfl rfl ⟨rfl, rfl, rfl, rfl, rfl⟩ rfl rfl rfl rfl rfl (by kernel_rfl) Try.func6 (by kernel_rfl)
    (of_decide_eq_true (by kernel_rfl)) (by unfold Func.isWrapper; first | (rw [if_pos (by decide +kernel)]; kernel_rfl) | (rw [if_neg (by decide +kernel)]; exact ⟨rfl, rfl⟩))
    (fun os started H enc _ => lifted os started H enc)
/-- THE STATEMENT -/
theorem proved : Rows.FnExactTempIDCandidateSaid := over
#print axioms proved
end Go.Proofs.Ytgoelmhaobloaaa.lawFnExactTempIDCandidate
