/-
  For all inputs (longer ones than 1048576 bytes the law passes by itself) numbers in range are parsed from their decimal form, and CeilDiv and Mod meet their defining inequalities. The tables of the library that the row lists lie as their initialisers lay them (the card ties them).
-/
import Derived.Test.YtflpdapalfgodaaDoorCards
import Derived.Test.YtflpdapalfgodaaDoorTie
import Derived.Test.YtflpdapalfgodaaDoorNum
import Derived.Test.YtflpdapalfgodaaDoorDrawD
import Derived.Deep.DeepCutAuto
namespace Go.Proofs.YtflpdapalfgodaaDoor.lawFnIntegers
open Go.Proofs.YtflpdapalfgodaaDoor
open Go.ChangeShapes Go.WideShapes Go.ChangeAt Go.RowKit
open Go.ChangeMaps (open_string shut_string)
set_option linter.unusedVariables false

set_option maxRecDepth 100000 in
set_option maxHeartbeats 8000000 in
theorem walk (v0 : Value) (z0 : List Int) (w : World) (r0 : Rd .u8 w v0 z0) (h0 : ∀ n ∈ z0, (Lit.int .u8 n).wf = true)  (hT : Tab w) :
    Calls Tryd.prog 3 #[v0] w fun e w' => e = .returned (.bool true) ∧ Below w.heap.size w w' := by
  obtain ⟨A0, c0, rfl, hc0, hm0, -⟩ := id r0
  unfold maxLen at hm0
  by_cases hl : z0.length ≤ 1048576
  · skip
    go_enter Tryd.func3, Tryd.ntmps3
    have B := Below.refl w.heap.size w
    go_wp2_with fail
    refine (laws_big _ _ _ _ hl).mono ?_
    rintro e w' ⟨rfl, rfl⟩
    go_wp2_with fail
    refine (spec_DrawParseInt _ z0 _ (r0.below B) h0 hl).mono ?_
    rintro e u1 ⟨s, rfl, hs, b1⟩
    replace B := Below.next B b1
    clear b1
    obtain ⟨P, hP⟩ : ∃ P, P = pNum s.data.toList := ⟨_, rfl⟩
    obtain ⟨Q, hQ⟩ : ∃ Q, Q = pOkI s.data.toList := ⟨_, rfl⟩
    have HP := Lib.hid hP
    have HQ := Lib.hid hQ
    have wP : (Lit.int .i64 P).wf = true := hP ▸ pNum_wf _
    clear hP hQ
    go_wp2_with fail
    refine (impl_ParseInt s _ (by unfold maxLen; omega) P Q HP.out HQ.out).mono ?_
    rintro e w' ⟨rfl, rfl⟩
    go_wp2_with fail
    refine (spec_DrawFormatInt _ z0 _ (r0.below B) h0 hl).mono ?_
    rintro e u2 ⟨m, rfl, wm, b2⟩
    replace B := Below.next B b2
    clear b2
    go_wp2_with fail
    refine (impl_FormatInt m _ wm (hT.below B)).mono ?_
    rintro e u3 ⟨rfl, b3⟩
    replace B := Below.next B b3
    clear b3
    obtain ⟨P2, hP2⟩ : ∃ P, P = pNum (Lib.itoa m) := ⟨_, rfl⟩
    obtain ⟨Q2, hQ2⟩ : ∃ Q, Q = pOkI (Lib.itoa m) := ⟨_, rfl⟩
    have HP2 := Lib.hid hP2
    have HQ2 := Lib.hid hQ2
    clear hP2 hQ2
    have sm := str_le (itoa_len m wm)
    go_wp2_with fail
    refine (impl_ParseInt ⟨(Lib.itoa m).toArray⟩ _ (by unfold maxLen; omega) P2 Q2 HP2.out HQ2.out).mono ?_
    rintro e w' ⟨rfl, rfl⟩
    go_wp2_with fail
    refine (spec_DrawCeilDiv _ z0 _ (r0.below B) h0 hl).mono ?_
    rintro e u4 ⟨a, b, rfl, wa, wb, b4⟩
    replace B := Below.next B b4
    clear b4
    obtain ⟨c, hc⟩ : ∃ c, c = M.cdiv a b := ⟨_, rfl⟩
    obtain ⟨r, hr⟩ : ∃ r, r = M.mod a b := ⟨_, rfl⟩
    have HC := Lib.hid hc
    have HR := Lib.hid hr
    clear hc hr
    go_wp2_with fail
    refine (impl_CeilDiv a b _).mono ?_
    rw [← HC.out]
    rintro e w' ⟨rfl, rfl⟩
    go_wp2_with fail
    refine (impl_Mod a b _ wa wb).mono ?_
    rw [← HR.out]
    rintro e w' ⟨rfl, rfl⟩
    clear sm wa wb
    have hT1 := hT.below B
    have F2 : Hid (if 0 ≤ m ∧ m ≤ 1000000000000 then Q2 = true ∧ P2 = m else Q2 = false) := Lib.hid (by
      rw [HP2.out, HQ2.out]
      split
      · next h => exact itoa_in h.1 h.2
      · next h => exact itoa_out h)
    clear HP2 HQ2 hT
    go_upto_region 10 with fail
    go_cut [65] (fun t wx => t = .bool false ∧ Below w.heap.size w wx)
    case first =>
      clear HC HR
      have hm : (0 ≤ m ∧ m ≤ 1000000000000) ∨ m < 0 ∨ (0 ≤ m ∧ 1000000000000 < m) := by omega
      cases Q
      · rcases hm with ⟨m0, m1⟩ | m0 | ⟨m0, m1⟩
        · obtain ⟨rfl, rfl⟩ : Q2 = true ∧ P2 = m := by have h := F2.out; rwa [if_pos ⟨m0, m1⟩] at h
          clear F2
          go_wp2_with fail
          go_meet
          exact ⟨by first | rfl | (simp; omega), B⟩
        all_goals
          obtain rfl : Q2 = false := by have h := F2.out; rwa [if_neg (by omega)] at h
          clear F2
          go_wp2_with fail
          go_meet
          exact ⟨by first | rfl | (simp; omega), B⟩
      · have HS := Lib.hid (show (⟨(Lib.itoa P).toArray⟩ : ByteArray) = s by rw [HP.out]; exact itoa_back_s HQ.out.symm)
        clear HP HQ
        rcases hm with ⟨m0, m1⟩ | m0 | ⟨m0, m1⟩
        · obtain ⟨rfl, rfl⟩ : Q2 = true ∧ P2 = m := by have h := F2.out; rwa [if_pos ⟨m0, m1⟩] at h
          clear F2
          go_wp2_with fail
          refine (impl_FormatInt P _ wP hT1).mono ?_
          rw [HS.out]
          rintro e u9 ⟨rfl, b9⟩
          replace B := Below.next B b9
          clear b9 HS hT1
          go_wp2_with fail
          go_meet
          exact ⟨by first | rfl | (simp; omega), B⟩
        all_goals
          obtain rfl : Q2 = false := by have h := F2.out; rwa [if_neg (by omega)] at h
          clear F2
          go_wp2_with fail
          refine (impl_FormatInt P _ wP hT1).mono ?_
          rw [HS.out]
          rintro e u9 ⟨rfl, b9⟩
          replace B := Below.next B b9
          clear b9 HS hT1
          go_wp2_with fail
          go_meet
          exact ⟨by first | rfl | (simp; omega), B⟩
    case rest =>
      clear HP HQ F2 hT1 wP wm hs
      obtain ⟨rfl, B'⟩ := hcut
      replace B := B'
      clear B'
      by_cases hb : 1 ≤ b ∧ b ≤ 1000000000000
      · obtain ⟨b0, b1⟩ := hb
        obtain ⟨r0', r1, r2, t1, t2⟩ := md_in (a := a) b0 b1
        rw [← HR.out] at r0' r1 r2
        have ha : (0 ≤ a ∧ a ≤ 1000000000000) ∨ a < 0 ∨ (0 ≤ a ∧ 1000000000000 < a) := by omega
        rcases ha with ⟨a0, a1⟩ | a0 | ⟨a0, a1⟩
        · obtain ⟨k1, k2, k3⟩ := cd_in a0 a1 b0 b1
          rw [← HC.out] at k1 k2 k3
          have r2' : (a % b - r).tmod b = 0 := by rwa [Int.tmod_eq_emod_of_nonneg a0] at r2
          rw [Int.tmod_eq_emod_of_nonneg a0] at t1 t2
          have k4 : c * b - a < b := by omega
          clear HC HR r2
          go_wp2_with fail
          go_ret
          exact ⟨by first | rfl | (simp; omega), B⟩
        all_goals
          have c0' : c = 0 := by rw [HC.out]; exact cd_far (by omega)
          subst c0'
          try rw [Int.tmod_eq_emod_of_nonneg a0] at r2 t1 t2
          clear HR
          go_wp2_with fail
          go_ret
          exact ⟨by first | rfl | (simp; omega), B⟩
      · obtain ⟨x1, x2⟩ := cd_out (a := a) (b := b) (by omega)
        obtain rfl : c = 0 := by rw [HC.out]; exact x1
        obtain rfl : r = 0 := by rw [HR.out]; exact x2
        clear x1 x2 HC HR
        have hb2 : b < 1 ∨ (1 ≤ b ∧ 1000000000000 < b) := by omega
        clear hb
        rcases hb2 with hb2 | ⟨hb1, hb2⟩
        all_goals
          go_wp2_with fail
          go_ret
          exact ⟨by first | rfl | (simp; omega), B⟩
  · go_enter Tryd.func3, Tryd.ntmps3
    go_wp2_with fail
    refine (laws_big_yes _ _ _ _ (by omega)).mono ?_
    rintro e w' ⟨rfl, rfl⟩
    go_wp2_with fail
    go_ret
    exact ⟨rfl, Below.refl _ _⟩

/-! The row: the frame round the walk; then the card. -/
set_option maxRecDepth 100000 in
theorem contract (H : Type) (enc : TypeId × Value → H) (W : World) (base : Nat) (args : Array Value) (ds gs : List (DataW H)) (before : List MemPlace)
    (hval0 : ∀ (j : Nat) t v, Tryd.f3.params[j]? = some t → args[j]? = some v → Value.okWide Tryd.prog W .any base t v)
    (hW : DataW.Whole enc Tryd.prog Tryd.f3.params.toList Rows.fnIntegersSpec.vars false W args.toList ds gs before) (hL : laidMetH Tryd.prog Rows.fnIntegersRow.laid W) :
    Calls Tryd.prog 3 args W fun e W' => ∃ v, e = .returned v ∧ Rows.fnIntegersSpec.post enc Tryd.prog Tryd.f3 false true false false W args v W' := by
  have hval : ∀ (j : Nat) t v, Tryd.f3.params[j]? = some t → args[j]? = some v → Value.okWide Tryd.prog W .any base t v := hval0
  have hW' := hW
  obtain ⟨p, q, hA0, hV, rfl, hfz, hnd⟩ := hW
  have hA : DataW.TrodAll enc Tryd.prog W 0 (fun _ => true) true Tryd.f3.params.toList args.toList ds p := hA0
  rw [Tryd.params3] at hA hval
  obtain ⟨v0, vs0, d0, ds0, p0, q0, hargs, rfl, rfl, h0, rr0⟩ := trodAll_cons hA
  obtain ⟨rfl, rfl, rfl⟩ := trodAll_nil rr0
  obtain rfl : args = #[v0] := by cases args; simp_all
  obtain ⟨rfl, rfl⟩ := trodVars_none hV
  have k0 := h0
  have lt0 : ∀ x ∈ p0, x.block < W.heap.size := by obtain ⟨m, hm⟩ := k0; exact DataW.trod_lt m _ _ _ hm
  obtain ⟨a0, len0, cap0, rfl⟩ := okWide_slice Tryd.underlying22 (hval 0 22 v0 rfl rfl)
  obtain ⟨z0, _, r0, w0⟩ := rd_of_trod Tryd.underlying22 Tryd.underlying5 (by kernel_rfl) (fun _ => rfl) h0
  clear hA0 hval0
  refine (walk _ z0 W r0 w0 (table hL)).mono fun e W' ⟨he, bel⟩ => ?_
  subst he
  exact ⟨_, rfl, _, _, _, [], _, [], hW', trodAll_mk1 (shut_bool Tryd.underlying4 _), (trodAll_cons_mk (Below.trod laidOut (by kernel_rfl) (of_decide_eq_true (by kernel_rfl)) k0 bel lt0) trodAll_mk0), rfl, bel.frame _, fun h => by cases h⟩
theorem laid_met (os : Os) : laidMet Tryd.prog Rows.fnIntegersRow.laid ((laidWorld os).forCall (fun _ _ => 0) ⟨#[], #[.slice none 0 0], []⟩).memory := laidMet_of_run' 8 (by kernel_rfl) (by kernel_rfl)
theorem reads (os : Os) {H : Type} (enc : TypeId × Value → H) : ∃ places, DataW.whole enc Tryd.prog ((laidWorld os).forCall (fun _ _ => 0) ⟨#[], #[.slice none 0 0], []⟩).memory Tryd.f3.params.toList Rows.fnIntegersSpec.vars false (#[.slice none 0 0] : Array Value).toList 8 = some ([.nil], [], places) := ⟨[], by kernel_rfl⟩
set_option maxRecDepth 100000 in
theorem lifted (os : Os) (started : os.Started) (H : Type) (enc : TypeId × Value → H) (F : Stop.Interp) :
    ReturnsInHanded {} Tryd.checked os 3 .any ((OpenSpec.ofChange Rows.fnIntegersSpec).preRow enc Tryd.prog Tryd.f3 Rows.fnIntegersRow.domain false Rows.fnIntegersRow.laid) (((OpenSpec.ofChange Rows.fnIntegersSpec).at F).post enc Tryd.prog Tryd.f3 false true false false) := by
  obtain ⟨places, hx⟩ := reads os enc
  refine returnsInHanded_of_row (C := Tryd.checked) (s := OpenSpec.ofChange Rows.fnIntegersSpec) own started (by kernel_rfl) Tryd.func3
    (witness_row_at (enc := enc) (C := Tryd.checked) false (laidWorld os) #[.slice none 0 0] rfl (by kernel_rfl) (by kernel_rfl) (by kernel_rfl)
      (OpenSpec.preRow_of_cond 8 hx (by kernel_rfl) (fun k hk => by cases hk) (by kernel_rfl) (laid_met os))) ?_
  intro W base args ds gs before hval hW _ _ _ hL _ _
  exact contract H enc W base args ds gs before hval hW hL
theorem said : Rows.FnIntegersSaid :=
  OpenClaim.holds_of_cond 3 Tryd.f3 rfl rfl rfl rfl rfl rfl rfl ⟨rfl, rfl, rfl, rfl, rfl⟩ rfl rfl rfl rfl rfl (by kernel_rfl) Tryd.func3 (by kernel_rfl)
    (of_decide_eq_true (by kernel_rfl)) (by unfold Func.isWrapper; first | (rw [if_pos (by decide +kernel)]; kernel_rfl) | (rw [if_neg (by decide +kernel)]; exact ⟨rfl, rfl⟩))
    (fun os started H enc _ F => by rw [OpenClaim.pre_eq_preRow]; exact lifted os started H enc F)
theorem plain (f : FuncId) (fn : Func) (hf : Tryd.pinned.checked.prog.funcNamed "loop.example/g00509/laws.FnIntegers" = some f) (hfn : Tryd.pinned.checked.prog.funcs[f]? = some fn) :
    false = Tryd.pinned.checked.prog.looks [] ∧ ∀ (j : Nat) t, fn.params[j]? = some t → Tryd.pinned.checked.prog.wantsStandIn t = false := by
  obtain rfl : f = 3 := Option.some.inj ((show Tryd.prog.funcNamed "loop.example/g00509/laws.FnIntegers" = some 3 by kernel_rfl).symm.trans hf) |>.symm
  obtain rfl : fn = Tryd.f3 := (Option.some.inj (Tryd.func3.symm.trans hfn)).symm
  refine ⟨by kernel_rfl, fun j t ht => ?_⟩
  rw [Tryd.params3] at ht
  have hm : t ∈ [22] := by simpa using Array.mem_of_getElem? ht
  have hall : ([22].all fun u => !Tryd.prog.wantsStandIn u) = true := by kernel_rfl
  exact (show Tryd.prog.wantsStandIn t = false by simpa using List.all_eq_true.1 hall t hm)
/-- THE STATEMENT -/
theorem proved : Rows.FnIntegersCardSaid :=
  Claim7.holds_tied_plain_at .later [] _ _ _ _ said (fun _ h => by cases h) (by kernel_rfl) (fun _ h => by cases h) fnIntegers_row_tie rfl ⟨rfl, rfl⟩ (by kernel_rfl) rfl plain (by kernel_rfl)
#print axioms proved
end Go.Proofs.YtflpdapalfgodaaDoor.lawFnIntegers
