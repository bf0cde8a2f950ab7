/-
  For all identities of subscribers FormatSubscriberID of the program gives the string that the reference gives. The tables of the library that the row lists lie as their initialisers lay them (the card ties them to the text).
-/
import Derived.Test.YtflpdapalfgodaaDoorCards
import Derived.Test.YtflpdapalfgodaaDoorTie
import Derived.Test.YtflpdapalfgodaaDoorFmt
namespace Go.Proofs.YtflpdapalfgodaaDoor.lawFnExactFormatSubscriberID
open Go.Proofs.YtflpdapalfgodaaDoor
open Go.ChangeShapes Go.WideShapes Go.ChangeAt Go.RowKit
open Go.ChangeMaps (open_string shut_string)
set_option linter.unusedVariables false

set_option maxRecDepth 100000 in
set_option maxHeartbeats 1000000 in
theorem walk (a b : Int) (w : World) (ha : (Lit.int .i64 a).wf = true) (hb : (Lit.int .i64 b).wf = true) (hT : Tab w) :
    Calls Tryd.prog 7 #[.agg #[.int .i64 a, .int .i64 b]] w fun e w' => e = .returned (.bool true) ∧ Below w.heap.size w w' := by
  have B0 := Below.al (Below.refl w.heap.size w) (.cells #[.int .i64 a, .int .i64 b] 46)
  have hT0 := hT.below B0
  have Hp := Lib.hid (newBlk w #[.int .i64 a, .int .i64 b] 46 w.heap.size rfl)
  obtain ⟨s, hs⟩ : ∃ s, s = fmtS a b := ⟨_, rfl⟩
  have HS := Lib.hid hs
  clear hs
  go_enter Tryd.func7, Tryd.ntmps7
  have cp0 := cell_of Hp.out 0
  have cp1 := cell_of Hp.out 1
  simp only [List.getElem?_toArray, List.getElem?_cons_zero, List.getElem?_cons_succ] at cp0 cp1
  go_wp2_with fail
  refine (laws_toSubscriberID_below _ _ _).mono ?_
  rintro e u1 ⟨rfl, b1⟩
  clear cp0 cp1
  replace hT0 := hT0.below b1
  replace Hp := Lib.hid (cells_of_below b1 Hp.out)
  replace B0 := Below.next B0 b1
  clear b1
  go_wp2_with fail
  refine (spec_FormatSubscriberID _ _ _ ha hb).mono ?_
  rw [← HS.out]
  rintro e u2 ⟨rfl, b2⟩
  replace hT0 := hT0.below b2
  replace Hp := Lib.hid (cells_of_below b2 Hp.out)
  replace B0 := Below.next B0 b2
  clear b2
  have cp0 := cell_of Hp.out 0
  have cp1 := cell_of Hp.out 1
  simp only [List.getElem?_toArray, List.getElem?_cons_zero, List.getElem?_cons_succ] at cp0 cp1
  go_wp2_with fail
  refine (laws_toSubscriberID_below _ _ _).mono ?_
  rintro e u3 ⟨rfl, b3⟩
  clear cp0 cp1
  replace hT0 := hT0.below b3
  replace B0 := Below.next B0 b3
  clear b3
  go_wp2_with fail
  refine (impl_FormatSubscriberID _ _ _ ha hb hT0).mono ?_
  rw [← HS.out]
  rintro e u4 ⟨rfl, b4⟩
  replace B0 := Below.next B0 b4
  clear b4 hT hT0 HS Hp
  go_wp2_with fail
  go_ret
  exact ⟨rfl, B0⟩

/-! The row: the frame round the walk; then the card. -/
set_option maxRecDepth 100000 in
theorem contract (H : Type) (enc : TypeId × Value → H) (W : World) (base : Nat) (args : Array Value) (ds gs : List (DataW H)) (before : List MemPlace)
    (hval0 : ∀ (j : Nat) t v, Tryd.f7.params[j]? = some t → args[j]? = some v → Value.okWide Tryd.prog W .any base t v)
    (hW : DataW.Whole enc Tryd.prog Tryd.f7.params.toList Rows.fnExactFormatSubscriberIDSpec.vars false W args.toList ds gs before) (hL : laidMetH Tryd.prog Rows.fnExactFormatSubscriberIDRow.laid W) :
    Calls Tryd.prog 7 args W fun e W' => ∃ v, e = .returned v ∧ Rows.fnExactFormatSubscriberIDSpec.post enc Tryd.prog Tryd.f7 false true false false W args v W' := by
  have hval : ∀ (j : Nat) t v, Tryd.f7.params[j]? = some t → args[j]? = some v → Value.okWide Tryd.prog W .any base t v := hval0
  have hW' := hW
  obtain ⟨p, q, hA0, hV, rfl, hfz, hnd⟩ := hW
  have hA : DataW.TrodAll enc Tryd.prog W 0 (fun _ => true) true Tryd.f7.params.toList args.toList ds p := hA0
  rw [Tryd.params7] at hA hval
  obtain ⟨v0, vs0, d0, ds0, p0, q0, hargs, rfl, rfl, h0, rr0⟩ := trodAll_cons hA
  obtain ⟨rfl, rfl, rfl⟩ := trodAll_nil rr0
  obtain rfl : args = #[v0] := by cases args; simp_all
  obtain ⟨rfl, rfl⟩ := trodVars_none hV
  have k0 := h0
  have lt0 : ∀ x ∈ p0, x.block < W.heap.size := by obtain ⟨m, hm⟩ := k0; exact DataW.trod_lt m _ _ _ hm
  obtain ⟨a0, b0, rfl, w0, y0⟩ := open_nums2 Tryd.underlying46 (by kernel_rfl) (by kernel_rfl) Tryd.underlying3 Tryd.underlying3 (hval 0 46 v0 rfl rfl) h0
  clear hA0 hval0
  refine (walk a0 b0 W w0 y0 (table hL)).mono fun e W' ⟨he, bel⟩ => ?_
  subst he
  exact ⟨_, rfl, _, _, _, [], _, [], hW', trodAll_mk1 (shut_bool Tryd.underlying4 _), (trodAll_cons_mk (Below.trod laidOut (by kernel_rfl) (of_decide_eq_true (by kernel_rfl)) k0 bel lt0) trodAll_mk0), rfl, bel.frame _, fun h => by cases h⟩
theorem laid_met (os : Os) : laidMet Tryd.prog Rows.fnExactFormatSubscriberIDRow.laid ((laidWorld os).forCall (fun _ _ => 0) ⟨#[], #[.agg #[.int .i64 0, .int .i64 0]], []⟩).memory := laidMet_of_run' 8 (by kernel_rfl) (by kernel_rfl)
theorem reads (os : Os) {H : Type} (enc : TypeId × Value → H) : ∃ places, DataW.whole enc Tryd.prog ((laidWorld os).forCall (fun _ _ => 0) ⟨#[], #[.agg #[.int .i64 0, .int .i64 0]], []⟩).memory Tryd.f7.params.toList Rows.fnExactFormatSubscriberIDSpec.vars false (#[.agg #[.int .i64 0, .int .i64 0]] : Array Value).toList 8 = some ([.agg [.lit (.int .i64 0), .lit (.int .i64 0)]], [], places) := ⟨[], by kernel_rfl⟩
set_option maxRecDepth 100000 in
theorem lifted (os : Os) (started : os.Started) (H : Type) (enc : TypeId × Value → H) (F : Stop.Interp) :
    ReturnsInHanded {} Tryd.checked os 7 .any ((OpenSpec.ofChange Rows.fnExactFormatSubscriberIDSpec).preRow enc Tryd.prog Tryd.f7 Rows.fnExactFormatSubscriberIDRow.domain false Rows.fnExactFormatSubscriberIDRow.laid) (((OpenSpec.ofChange Rows.fnExactFormatSubscriberIDSpec).at F).post enc Tryd.prog Tryd.f7 false true false false) := by
  obtain ⟨places, hx⟩ := reads os enc
  refine returnsInHanded_of_row (C := Tryd.checked) (s := OpenSpec.ofChange Rows.fnExactFormatSubscriberIDSpec) own started (by kernel_rfl) Tryd.func7
    (witness_row_at (enc := enc) (C := Tryd.checked) false (laidWorld os) #[.agg #[.int .i64 0, .int .i64 0]] rfl (by kernel_rfl) (by kernel_rfl) (by kernel_rfl)
      (OpenSpec.preRow_of_cond 8 hx (by kernel_rfl) (fun k hk => by cases hk) (by kernel_rfl) (laid_met os))) ?_
  intro W base args ds gs before hval hW _ _ _ hL _ _
  exact contract H enc W base args ds gs before hval hW hL
theorem said : Rows.FnExactFormatSubscriberIDSaid :=
  OpenClaim.holds_of_cond 7 Tryd.f7 rfl rfl rfl rfl rfl rfl rfl ⟨rfl, rfl, rfl, rfl, rfl⟩ rfl rfl rfl rfl rfl (by kernel_rfl) Tryd.func7 (by kernel_rfl)
    (of_decide_eq_true (by kernel_rfl)) (by unfold Func.isWrapper; first | (rw [if_pos (by decide +kernel)]; kernel_rfl) | (rw [if_neg (by decide +kernel)]; exact ⟨rfl, rfl⟩))
    (fun os started H enc _ F => by rw [OpenClaim.pre_eq_preRow]; exact lifted os started H enc F)
theorem plain (f : FuncId) (fn : Func) (hf : Tryd.pinned.checked.prog.funcNamed "loop.example/g00509/laws.FnExactFormatSubscriberID" = some f) (hfn : Tryd.pinned.checked.prog.funcs[f]? = some fn) :
    false = Tryd.pinned.checked.prog.looks [] ∧ ∀ (j : Nat) t, fn.params[j]? = some t → Tryd.pinned.checked.prog.wantsStandIn t = false := by
  obtain rfl : f = 7 := Option.some.inj ((show Tryd.prog.funcNamed "loop.example/g00509/laws.FnExactFormatSubscriberID" = some 7 by kernel_rfl).symm.trans hf) |>.symm
  obtain rfl : fn = Tryd.f7 := (Option.some.inj (Tryd.func7.symm.trans hfn)).symm
  refine ⟨by kernel_rfl, fun j t ht => ?_⟩
  rw [Tryd.params7] at ht
  have hm : t ∈ [46] := by simpa using Array.mem_of_getElem? ht
  have hall : ([46].all fun u => !Tryd.prog.wantsStandIn u) = true := by kernel_rfl
  exact (show Tryd.prog.wantsStandIn t = false by simpa using List.all_eq_true.1 hall t hm)
/-- THE STATEMENT -/
theorem proved : Rows.FnExactFormatSubscriberIDCardSaid :=
  Claim7.holds_tied_plain_at .later [] _ _ _ _ said (fun _ h => by cases h) (by kernel_rfl) (fun _ h => by cases h) fnExactFormatSubscriberID_row_tie rfl ⟨rfl, rfl⟩ (by kernel_rfl) rfl plain (by kernel_rfl)
#print axioms proved
end Go.Proofs.YtflpdapalfgodaaDoor.lawFnExactFormatSubscriberID
