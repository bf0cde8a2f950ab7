/-
  For all cards and records InSync of the program answers as the reference does. No condition.
-/
import Derived.Test.YtikpnnblfhabjaaRows
import Derived.Test.YtikpnnblfhabjaaRec2
import Derived.Deep.RegionHeld3
namespace Go.Proofs.Ytikpnnblfhabjaa.lawFnExactInSync
open Go.Proofs.Ytikpnnblfhabjaa
open Go.ChangeShapes Go.WideShapes Go.ChangeAt Go.RowKit
open Go.ChangeMaps (open_string shut_string)
set_option linter.unusedVariables false

set_option maxHeartbeats 8000000 in
theorem walk (a b k l a' b' k' s : Int) (w : World) (ha : (Lit.int .i64 a).wf = true) (hb : (Lit.int .i64 b).wf = true) (hk : (Lit.int .i64 k).wf = true) (hl : (Lit.int .i64 l).wf = true) (ha' : (Lit.int .i64 a').wf = true) (hb' : (Lit.int .i64 b').wf = true) (hk' : (Lit.int .i64 k').wf = true) (hs : (Lit.int .i64 s).wf = true) :
    Calls Try.prog 6 #[.agg #[.int .i64 a, .int .i64 b, .int .i64 k, .int .i64 l], .agg #[.int .i64 a', .int .i64 b', .int .i64 k', .int .i64 s]] w fun e w' => e = .returned (.bool true) ∧ Below w.heap.size w w' := by
  clear ha hb hk hl ha' hb' hk' hs
  have B0 := Below.al (Below.al (Below.refl w.heap.size w) (.cells #[.int .i64 a, .int .i64 b, .int .i64 k, .int .i64 l] 29)) (.cells #[.int .i64 a', .int .i64 b', .int .i64 k', .int .i64 s] 31)
  have HA := Lib.hid (oldBlk (.cells #[.int .i64 a', .int .i64 b', .int .i64 k', .int .i64 s] 31) (newBlk w #[.int .i64 a, .int .i64 b, .int .i64 k, .int .i64 l] 29 (w.heap.size) rfl))
  have HB := Lib.hid (newBlk (w.alloc (.cells #[.int .i64 a, .int .i64 b, .int .i64 k, .int .i64 l] 29)) #[.int .i64 a', .int .i64 b', .int .i64 k', .int .i64 s] 31 (w.heap.size + 1) (by simp))
  go_enter Try.func6, Try.ntmps6
  go_wp2
  replace HA := Lib.hid (drewBlk HA.out)
  replace HB := Lib.hid (drewBlk HB.out)
  replace B0 := Below.drew B0
  have x1a0 := cell_of HA.out 0
  have x1b0 := cell_of HB.out 0
  have x1a1 := cell_of HA.out 1
  have x1b1 := cell_of HB.out 1
  have x1a2 := cell_of HA.out 2
  have x1b2 := cell_of HB.out 2
  have x1a3 := cell_of HA.out 3
  have x1b3 := cell_of HB.out 3
  simp only [List.getElem?_toArray, List.getElem?_cons_zero, List.getElem?_cons_succ] at x1a0 x1b0 x1a1 x1b1 x1a2 x1b2 x1a3 x1b3
  go_region_held3 (fun w' => w'.cell? ⟨w.heap.size, 0, none⟩ = some (.int .i64 a) ∧ w'.cell? ⟨w.heap.size, 1, none⟩ = some (.int .i64 b) ∧ w'.cell? ⟨w.heap.size, 2, none⟩ = some (.int .i64 k) ∧ w'.cell? ⟨w.heap.size, 3, none⟩ = some (.int .i64 l) ∧ w'.cell? ⟨w.heap.size + 1, 0, none⟩ = some (.int .i64 a') ∧ w'.cell? ⟨w.heap.size + 1, 1, none⟩ = some (.int .i64 b') ∧ w'.cell? ⟨w.heap.size + 1, 2, none⟩ = some (.int .i64 k') ∧ w'.cell? ⟨w.heap.size + 1, 3, none⟩ = some (.int .i64 s)) (go_keep)
    (first
      | (go_at_call 20; refine (laws_toUSIM_below _ _ _ _ _).mono ?_; rintro e u1 ⟨rfl, b1⟩; replace HA := Lib.hid (cells_of_below b1 HA.out); replace HB := Lib.hid (cells_of_below b1 HB.out); replace B0 := Below.next B0 b1; have p1a0 := cell_of HA.out 0; have p1b0 := cell_of HB.out 0; have p1a1 := cell_of HA.out 1; have p1b1 := cell_of HB.out 1; have p1a2 := cell_of HA.out 2; have p1b2 := cell_of HB.out 2; have p1a3 := cell_of HA.out 3; have p1b3 := cell_of HB.out 3; simp only [List.getElem?_toArray, List.getElem?_cons_zero, List.getElem?_cons_succ] at p1a0 p1b0 p1a1 p1b1 p1a2 p1b2 p1a3 p1b3)
      | (go_at_call 21; refine (laws_toSubscriberRecord_below _ _ _ _ _).mono ?_; rintro e u2 ⟨rfl, b2⟩; replace HA := Lib.hid (cells_of_below b2 HA.out); replace HB := Lib.hid (cells_of_below b2 HB.out); replace B0 := Below.next B0 b2; have q1a0 := cell_of HA.out 0; have q1b0 := cell_of HB.out 0; have q1a1 := cell_of HA.out 1; have q1b1 := cell_of HB.out 1; have q1a2 := cell_of HA.out 2; have q1b2 := cell_of HB.out 2; have q1a3 := cell_of HA.out 3; have q1b3 := cell_of HB.out 3; simp only [List.getElem?_toArray, List.getElem?_cons_zero, List.getElem?_cons_succ] at q1a0 q1b0 q1a1 q1b1 q1a2 q1b2 q1a3 q1b3)
      | (go_at_call 19; refine (spec_InSync _ _ _ _ _ _ _ _ _).mono ?_; rintro e u3 ⟨rfl, b3⟩; replace HA := Lib.hid (cells_of_below b3 HA.out); replace HB := Lib.hid (cells_of_below b3 HB.out); replace B0 := Below.next B0 b3; have r1a0 := cell_of HA.out 0; have r1b0 := cell_of HB.out 0; have r1a1 := cell_of HA.out 1; have r1b1 := cell_of HB.out 1; have r1a2 := cell_of HA.out 2; have r1b2 := cell_of HB.out 2; have r1a3 := cell_of HA.out 3; have r1b3 := cell_of HB.out 3; simp only [List.getElem?_toArray, List.getElem?_cons_zero, List.getElem?_cons_succ] at r1a0 r1b0 r1a1 r1b1 r1a2 r1b2 r1a3 r1b3))
  all_goals go_wp2
  all_goals
    replace HA := Lib.hid (drewBlk HA.out)
    replace HB := Lib.hid (drewBlk HB.out)
    replace B0 := Below.drew B0
    have x2a0 := cell_of HA.out 0
    have x2b0 := cell_of HB.out 0
    have x2a1 := cell_of HA.out 1
    have x2b1 := cell_of HB.out 1
    have x2a2 := cell_of HA.out 2
    have x2b2 := cell_of HB.out 2
    have x2a3 := cell_of HA.out 3
    have x2b3 := cell_of HB.out 3
    simp only [List.getElem?_toArray, List.getElem?_cons_zero, List.getElem?_cons_succ] at x2a0 x2b0 x2a1 x2b1 x2a2 x2b2 x2a3 x2b3
    go_region_held3 (fun w' => w'.cell? ⟨w.heap.size, 0, none⟩ = some (.int .i64 a) ∧ w'.cell? ⟨w.heap.size, 1, none⟩ = some (.int .i64 b) ∧ w'.cell? ⟨w.heap.size, 2, none⟩ = some (.int .i64 k) ∧ w'.cell? ⟨w.heap.size, 3, none⟩ = some (.int .i64 l) ∧ w'.cell? ⟨w.heap.size + 1, 0, none⟩ = some (.int .i64 a') ∧ w'.cell? ⟨w.heap.size + 1, 1, none⟩ = some (.int .i64 b') ∧ w'.cell? ⟨w.heap.size + 1, 2, none⟩ = some (.int .i64 k') ∧ w'.cell? ⟨w.heap.size + 1, 3, none⟩ = some (.int .i64 s)) (go_keep)
      (first
        | (go_at_call 20; refine (laws_toUSIM_below _ _ _ _ _).mono ?_; rintro e u1 ⟨rfl, b1⟩; replace HA := Lib.hid (cells_of_below b1 HA.out); replace HB := Lib.hid (cells_of_below b1 HB.out); replace B0 := Below.next B0 b1; have p2a0 := cell_of HA.out 0; have p2b0 := cell_of HB.out 0; have p2a1 := cell_of HA.out 1; have p2b1 := cell_of HB.out 1; have p2a2 := cell_of HA.out 2; have p2b2 := cell_of HB.out 2; have p2a3 := cell_of HA.out 3; have p2b3 := cell_of HB.out 3; simp only [List.getElem?_toArray, List.getElem?_cons_zero, List.getElem?_cons_succ] at p2a0 p2b0 p2a1 p2b1 p2a2 p2b2 p2a3 p2b3)
        | (go_at_call 21; refine (laws_toSubscriberRecord_below _ _ _ _ _).mono ?_; rintro e u2 ⟨rfl, b2⟩; replace HA := Lib.hid (cells_of_below b2 HA.out); replace HB := Lib.hid (cells_of_below b2 HB.out); replace B0 := Below.next B0 b2; have q2a0 := cell_of HA.out 0; have q2b0 := cell_of HB.out 0; have q2a1 := cell_of HA.out 1; have q2b1 := cell_of HB.out 1; have q2a2 := cell_of HA.out 2; have q2b2 := cell_of HB.out 2; have q2a3 := cell_of HA.out 3; have q2b3 := cell_of HB.out 3; simp only [List.getElem?_toArray, List.getElem?_cons_zero, List.getElem?_cons_succ] at q2a0 q2b0 q2a1 q2b1 q2a2 q2b2 q2a3 q2b3)
        | (go_at_call 22; refine (impl_InSync _ _ _ _ _ _ _ _ _).mono ?_; rintro e u3 ⟨rfl, b3⟩; replace HA := Lib.hid (cells_of_below b3 HA.out); replace HB := Lib.hid (cells_of_below b3 HB.out); replace B0 := Below.next B0 b3; have r2a0 := cell_of HA.out 0; have r2b0 := cell_of HB.out 0; have r2a1 := cell_of HA.out 1; have r2b1 := cell_of HB.out 1; have r2a2 := cell_of HA.out 2; have r2b2 := cell_of HB.out 2; have r2a3 := cell_of HA.out 3; have r2b3 := cell_of HB.out 3; simp only [List.getElem?_toArray, List.getElem?_cons_zero, List.getElem?_cons_succ] at r2a0 r2b0 r2a1 r2b1 r2a2 r2b2 r2a3 r2b3))
    all_goals go_wp2
  all_goals
    go_ret
    exact ⟨rfl, B0⟩

/-! The row: the frame round the walk. -/
theorem own : ownKnob Try.prog.godebug = none := by kernel_rfl
theorem laidOut : laidOutB Try.prog = true := by kernel_rfl
set_option maxRecDepth 100000 in
theorem lifted (os : Os) (started : os.Started) (H : Type) (enc : TypeId × Value → H) :
    ReturnsInHanded {} Try.checked os 6 .any (Rows.fnExactInSyncSpec.pre6 enc Try.prog Try.f6 Rows.fnExactInSyncRow.domain false) (Rows.fnExactInSyncSpec.post enc Try.prog Try.f6 false true false false) := by
  refine returnsInHanded_of_change (C := Try.checked) own started (by kernel_rfl) Try.func6
    (ChangeSpec.witness6 (enc := enc) (C := Try.checked) false ⟨#[], #[.agg #[.int .i64 0, .int .i64 0, .int .i64 0, .int .i64 0], .agg #[.int .i64 0, .int .i64 0, .int .i64 0, .int .i64 0]], []⟩ 8 (by kernel_rfl) (by kernel_rfl) (by kernel_rfl) (by kernel_rfl)) ?_
  intro W base args ds gs before hval0 hW hcnd _
  have hval : ∀ (j : Nat) t v, Try.f6.params[j]? = some t → args[j]? = some v → Value.okWide Try.prog W .any base t v := hval0
  have hW' := hW
  obtain ⟨p, q, hA0, hV, rfl, hfz, hnd⟩ := hW
  have hA : DataW.TrodAll enc Try.prog W 0 (fun _ => true) true Try.f6.params.toList args.toList ds p := hA0
  rw [Try.params6] at hA hval
  obtain ⟨v0, vs0, d0, ds0, p0, q0, hargs, rfl, rfl, h0, rr0⟩ := trodAll_cons hA
  obtain ⟨v1, vs1, d1, ds1, p1, q1, rfl, rfl, rfl, h1, rr1⟩ := trodAll_cons rr0
  obtain ⟨rfl, rfl, rfl⟩ := trodAll_nil rr1
  obtain rfl : args = #[v0, v1] := by cases args; simp_all
  obtain ⟨rfl, rfl⟩ := trodVars_none hV
  have k0 := h0
  have lt0 : ∀ x ∈ p0, x.block < W.heap.size := by obtain ⟨m, hm⟩ := k0; exact DataW.trod_lt m _ _ _ hm
  obtain ⟨a0, b0, c0, x0, rfl, wa0, wb0, wc0, wx0⟩ := open_nums22 Try.underlying29 Try.underlying27 (by kernel_rfl) (by kernel_rfl) (by kernel_rfl) (by kernel_rfl) (by kernel_rfl) rfl rfl rfl Try.underlying3 Try.underlying3 Try.underlying3 Try.underlying3 (hval 0 29 v0 rfl rfl) h0
  have k1 := h1
  have lt1 : ∀ x ∈ p1, x.block < W.heap.size := by obtain ⟨m, hm⟩ := k1; exact DataW.trod_lt m _ _ _ hm
  obtain ⟨a1, b1, c1, x1, rfl, wa1, wb1, wc1, wx1⟩ := open_nums22 Try.underlying31 Try.underlying27 (by kernel_rfl) (by kernel_rfl) (by kernel_rfl) (by kernel_rfl) (by kernel_rfl) rfl rfl rfl Try.underlying3 Try.underlying3 Try.underlying3 Try.underlying3 (hval 1 31 v1 rfl rfl) h1
  clear hA0 hval0
  refine (walk a0 b0 c0 x0 a1 b1 c1 x1 W wa0 wb0 wc0 wx0 wa1 wb1 wc1 wx1).mono fun e W' ⟨he, bel⟩ => ?_
  subst he
  exact ⟨_, rfl, _, _, _, [], _, [], hW', trodAll_mk1 (shut_bool Try.underlying4 _), (trodAll_cons_mk (Below.trod laidOut (by kernel_rfl) (of_decide_eq_true (by kernel_rfl)) k0 bel lt0) (trodAll_cons_mk (Below.trod laidOut (by kernel_rfl) (of_decide_eq_true (by kernel_rfl)) k1 bel lt1) trodAll_mk0)), rfl, bel.frame _, fun h => by cases h⟩
theorem over : Rows.fnExactInSyncRow.holds Try.pinned (OpenSpec.ofChange Rows.fnExactInSyncSpec) :=
  OpenClaim.holds_of_wide 6 Try.f6 rfl rfl rfl rfl rfl rfl rfl ⟨rfl, rfl, rfl, rfl, rfl⟩ rfl rfl rfl rfl rfl (by kernel_rfl) Try.func6 (by kernel_rfl)
    (of_decide_eq_true (by kernel_rfl)) (by unfold Func.isWrapper; first | (rw [if_pos (by decide +kernel)]; kernel_rfl) | (rw [if_neg (by decide +kernel)]; exact ⟨rfl, rfl⟩))
    (fun os started H enc _ => lifted os started H enc)
/-- THE STATEMENT -/
theorem proved : Rows.FnExactInSyncSaid := over
#print axioms proved
end Go.Proofs.Ytikpnnblfhabjaa.lawFnExactInSync
