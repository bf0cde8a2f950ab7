/-
  For all inputs (longer ones than 1048576 bytes the law passes by itself) the law on variable-length numbers holds: a drawn number is read from its bytes, nothing is written beyond the range, and what is read from drawn bytes is what would be written. No condition.
-/
import Derived.Test.YtpkaffnmoebgiaaRows
import Derived.Test.YtpkaffnmoebgiaaInts
import Derived.Test.YtpkaffnmoebgiaaUv2
import Derived.Test.YtpkaffnmoebgiaaDrawV
import Derived.Deep.RegionHeld3
namespace Go.Proofs.Ytpkaffnmoebgiaa.lawFnVarints
open Go.Proofs.Ytpkaffnmoebgiaa
open Go.ChangeShapes Go.WideShapes Go.ChangeAt Go.RowKit
open Go.ChangeMaps (open_string shut_string)
set_option linter.unusedVariables false

set_option maxRecDepth 100000 in
set_option maxHeartbeats 8000000 in
theorem walk (v0 : Value) (z0 : List Int) (w : World) (r0 : Rd .u8 w v0 z0) (h0 : ∀ n ∈ z0, (Lit.int .u8 n).wf = true) :
    Calls Try.prog 12 #[v0] w fun e w' => e = .returned (.bool true) ∧ Below w.heap.size w w' := by
  obtain ⟨A0, c0, rfl, hc0, hm0, -⟩ := id r0
  unfold maxLen at hm0
  by_cases hl : z0.length ≤ 1048576
  · skip
    go_enter Try.func12, Try.ntmps12
    have B := Below.refl w.heap.size w
    go_wp2_with fail
    refine (laws_big _ _ _ _ hl).mono ?_
    rintro e w' ⟨rfl, rfl⟩
    go_wp2_with fail
    refine (spec_DrawAppendUvarint _ z0 _ (r0.below B) h0 hl).mono ?_
    rintro e u1 ⟨vb, xs, n, rfl, ob, lb, wb, qn, b1⟩
    replace ob := ob.le B.size
    replace B := Below.next B b1
    clear b1
    obtain ⟨Ab, cb, rfl, hcb, hmb, -⟩ := id ob.rd
    unfold maxLen at hmb
    go_wp2_with fail
    refine (impl_AppendUvarint _ xs n _ ob.rd qn (by omega)).mono ?_
    rintro e u2 ⟨vx, rfl, ox, b2⟩
    have apxb := own_apart ob ox (Nat.le_refl _)
    have apbx := own_apart' ob ox (Nat.le_refl _)
    replace ox := ox.le B.size
    replace ob := ob.below b2
    replace B := Below.next B b2
    clear b2
    obtain ⟨Ax, cx, rfl, hcx, hmx, -⟩ := id ox.rd
    unfold maxLen at hmx
    have hwf : WfI (xs.length : Int) := WalkArith.wf_i64 (by omega)
    have HB := Lib.hid ob
    have HX := Lib.hid ox
    clear ob ox
    have hu := uvO_len n
    have hlx : (xs ++ uvO n).length = xs.length + (uvO n).length := by simp
    obtain ⟨T, hT⟩ : ∃ T, T = (xs ++ uvO n).length := ⟨_, rfl⟩
    have hT2 : T = xs.length + (uvO n).length := by rw [hT, hlx]
    have hT3 : T ≤ xs.length + 6 := by omega
    have HT2 := Lib.hid hT2
    clear hlx hT2
    rw [← hT] at hcx HX ⊢
    have HT := Lib.hid hT
    clear hT
    have hw2 : WfB (xs ++ uvO n) := wb.app (WfB.of (uvO_bd n))
    have hRX : Hid (∀ a R1 R2 R3, (Lit.int .i64 a).wf = true → rdUv (xs ++ uvO n) a = (R1, R2, R3) → Calls Try.prog 18 #[.slice Ax T cx, .int .i64 a] u2 fun e w' => e = .returned (.tuple #[.int .i64 R1, .int .i64 R2, .bool R3]) ∧ u2 = w') := Lib.hid (fun a R1 R2 R3 ha hR => impl_ReadUvarint _ _ a _ ha HX.out.rd hw2 (by rw [← HT.out]; omega) R1 R2 R3 hR)
    by_cases hin : 0 ≤ n ∧ n ≤ 1000000000000
    · have hR : rdUv (xs ++ uvO n) xs.length = (n, (T : Int), true) := by
        obtain ⟨N, rfl⟩ : ∃ N : Nat, n = (N : Int) := ⟨n.toNat, by omega⟩
        have hN : N ≤ 1000000000000 := by omega
        have h := rdUv_app hN xs []
        have hT2 := HT2.out
        rw [uvO_in hN] at hT2 ⊢
        rw [List.append_nil] at h
        rw [h, hT2]
      have HR := Lib.hid hR
      clear hR hw2
      obtain ⟨n0, n1⟩ := hin
      go_wp2_with fail
      refine (hRX.out _ _ _ _ hwf HR.out).mono ?_
      rintro e w' ⟨rfl, rfl⟩
      clear hRX HR HB HX HT
      go_wp2_with fail
      refine (spec_DrawReadUvarint _ z0 _ (r0.below B) h0 hl).mono ?_
      rintro e u5 ⟨vy, ys, off, rfl, oy, ly, wy, qo, b5⟩
      replace oy := oy.le B.size
      replace B := Below.next B b5
      clear b5
      obtain ⟨Ay, cy, rfl, hcy, hmy, -⟩ := id oy.rd
      unfold maxLen at hmy
      obtain ⟨R1, R2, R3, hR⟩ : ∃ a' b' c', rdUv ys off = (a', b', c') := ⟨_, _, _, rfl⟩
      have hbd := rdUv_bd ys off
      rw [hR] at hbd
      obtain ⟨g1, g2, g3, g4, g5, g6⟩ := hbd
      simp only at g1 g2 g3 g4 g5 g6
      have HR := Lib.hid hR
      have HY := Lib.hid oy
      go_wp2_with fail
      refine (impl_ReadUvarint _ ys off _ qo HY.out.rd wy (by omega) R1 R2 R3 HR.out).mono ?_
      rintro e w' ⟨rfl, rfl⟩
      cases R3 with
      | false =>
        obtain ⟨rfl, rfl⟩ := g6 rfl
        clear g5 g6 hR oy
        go_wp2_with fail
        refine (spec_ReadUvarint _ ys off _ qo HY.out.rd wy (by omega) _ _ _ HR.out).mono ?_
        rintro e w' ⟨rfl, rfl⟩
        go_wp2_with fail
        go_ret
        exact ⟨rfl, B⟩
      | true =>
        obtain ⟨A, M, t, rfl, rfl, hq, hAt, huv, ht⟩ := rdUv_inv wy.bd hR
        obtain ⟨Q, hQ⟩ : ∃ Q : Nat, Q = A + t := ⟨_, rfl⟩
        rw [← hQ] at hq hAt
        subst hq
        have huv2 : (ys.drop A).take (Q - A) = uvB M := by rw [huv, hQ]; congr 1; omega
        have hAQ : A < Q := by omega
        have hM : M ≤ 1000000000000 := by omega
        obtain ⟨_, _, hv, _, _, h3⟩ := id HY.out.rd
        simp only [Value.slice.injEq, true_and] at hv
        obtain ⟨rfl, rfl⟩ := hv
        obtain ⟨b, o, rfl, hbw, hcell⟩ := h3 (by omega)
        have hpart := rd_part (l := ys.length) rfl hcy hmy hbw hcell A (Q - A) (by omega)
        rw [huv2] at hpart
        have HP := Lib.hid hpart
        have hwM : (Lit.int .i64 (M : Int)).wf = true := WalkArith.wf_i64 (by omega)
        have HU : Hid (uvO (M : Int) = uvB M) := Lib.hid (uvO_in hM)
        clear hpart hcell h3 huv huv2 hQ hR oy g5 g6 HR HY ht
        obtain ⟨ly2, hly2⟩ : ∃ l, l = ys.length := ⟨_, rfl⟩
        rw [← hly2] at hcy hAt ⊢
        clear hly2
        go_wp2_with fail
        have iA : (0 : Int) ≤ (A : Int) := by omega
        have iQ : (A : Int) ≤ (Q : Int) := by omega
        have iC : (Q : Int) ≤ (cy : Int) := by omega
        have iN : ¬ A = cy := by omega
        go_region_held3 (fun _ => True) (trivial)
          (first
            | (go_at_call 20; refine (impl_AppendUvarint _ [] _ _ ⟨_, _, rfl, by simp, by simp [maxLen], fun h => by simp at h⟩ hwM (by simp)).mono ?_; rintro e w9 ⟨v9, rfl, o9, b9⟩; rw [List.nil_append, HU.out] at o9; have q9 : Below u5.heap.size u5 w9 := Below.next (by repeat (first | (with_reducible exact Below.refl _ _) | (with_reducible refine Below.drew ?_) | (with_reducible refine Below.al ?_ _))) b9; have hp9 := HP.out.below q9; have B9 := Below.next B q9)
            | (go_at_call 39; refine (laws_sameBytes_same _ _ (uvB M) _ o9.rd hp9).mono ?_; rintro e w' ⟨rfl, m9, rfl⟩; have B10 := Below.dn B9 m9))
        all_goals
          go_wp2_with fail
          go_ret
          exact ⟨rfl, B10⟩
    · have hO := uvO_out hin
      have hx2 : xs ++ uvO n = xs := by rw [hO, List.append_nil]
      have hR : rdUv (xs ++ uvO n) xs.length = (0, 0, false) := by rw [hx2]; exact rdUv_out (by omega)
      have HR := Lib.hid hR
      have hSm := HX.out.rd
      rw [hx2] at hSm
      have HSm := Lib.hid hSm
      clear hR hO hx2 hw2 hSm
      by_cases hn0 : n < 0
      all_goals
        try have hn1 : 1000000000000 < n := by omega
        go_wp2_with fail
        refine (hRX.out _ _ _ _ hwf HR.out).mono ?_
        rintro e w' ⟨rfl, rfl⟩
        go_wp2_with fail
        refine (laws_sameBytes_same _ _ xs _ HSm.out HB.out.rd).mono ?_
        rintro e w' ⟨rfl, m3, rfl⟩
        replace B := Below.dn B m3
        clear HSm hRX HR HB HX HT hin
        go_wp2_with fail
        refine (spec_DrawReadUvarint _ z0 _ (r0.below B) h0 hl).mono ?_
        rintro e u5 ⟨vy, ys, off, rfl, oy, ly, wy, qo, b5⟩
        replace oy := oy.le B.size
        replace B := Below.next B b5
        clear b5
        obtain ⟨Ay, cy, rfl, hcy, hmy, -⟩ := id oy.rd
        unfold maxLen at hmy
        obtain ⟨R1, R2, R3, hR⟩ : ∃ a' b' c', rdUv ys off = (a', b', c') := ⟨_, _, _, rfl⟩
        have hbd := rdUv_bd ys off
        rw [hR] at hbd
        obtain ⟨g1, g2, g3, g4, g5, g6⟩ := hbd
        simp only at g1 g2 g3 g4 g5 g6
        have HR := Lib.hid hR
        have HY := Lib.hid oy
        go_wp2_with fail
        refine (impl_ReadUvarint _ ys off _ qo HY.out.rd wy (by omega) R1 R2 R3 HR.out).mono ?_
        rintro e w' ⟨rfl, rfl⟩
        cases R3 with
        | false =>
          obtain ⟨rfl, rfl⟩ := g6 rfl
          clear g5 g6 hR oy
          go_wp2_with fail
          refine (spec_ReadUvarint _ ys off _ qo HY.out.rd wy (by omega) _ _ _ HR.out).mono ?_
          rintro e w' ⟨rfl, rfl⟩
          go_wp2_with fail
          go_ret
          exact ⟨rfl, B⟩
        | true =>
          obtain ⟨A, M, t, rfl, rfl, hq, hAt, huv, ht⟩ := rdUv_inv wy.bd hR
          obtain ⟨Q, hQ⟩ : ∃ Q : Nat, Q = A + t := ⟨_, rfl⟩
          rw [← hQ] at hq hAt
          subst hq
          have huv2 : (ys.drop A).take (Q - A) = uvB M := by rw [huv, hQ]; congr 1; omega
          have hAQ : A < Q := by omega
          have hM : M ≤ 1000000000000 := by omega
          obtain ⟨_, _, hv, _, _, h3⟩ := id HY.out.rd
          simp only [Value.slice.injEq, true_and] at hv
          obtain ⟨rfl, rfl⟩ := hv
          obtain ⟨b, o, rfl, hbw, hcell⟩ := h3 (by omega)
          have hpart := rd_part (l := ys.length) rfl hcy hmy hbw hcell A (Q - A) (by omega)
          rw [huv2] at hpart
          have HP := Lib.hid hpart
          have hwM : (Lit.int .i64 (M : Int)).wf = true := WalkArith.wf_i64 (by omega)
          have HU : Hid (uvO (M : Int) = uvB M) := Lib.hid (uvO_in hM)
          clear hpart hcell h3 huv huv2 hQ hR oy g5 g6 HR HY ht
          obtain ⟨ly2, hly2⟩ : ∃ l, l = ys.length := ⟨_, rfl⟩
          rw [← hly2] at hcy hAt ⊢
          clear hly2
          go_wp2_with fail
          have iA : (0 : Int) ≤ (A : Int) := by omega
          have iQ : (A : Int) ≤ (Q : Int) := by omega
          have iC : (Q : Int) ≤ (cy : Int) := by omega
          have iN : ¬ A = cy := by omega
          go_region_held3 (fun _ => True) (trivial)
            (first
              | (go_at_call 20; refine (impl_AppendUvarint _ [] _ _ ⟨_, _, rfl, by simp, by simp [maxLen], fun h => by simp at h⟩ hwM (by simp)).mono ?_; rintro e w9 ⟨v9, rfl, o9, b9⟩; rw [List.nil_append, HU.out] at o9; have q9 : Below u5.heap.size u5 w9 := Below.next (by repeat (first | (with_reducible exact Below.refl _ _) | (with_reducible refine Below.drew ?_) | (with_reducible refine Below.al ?_ _))) b9; have hp9 := HP.out.below q9; have B9 := Below.next B q9)
              | (go_at_call 39; refine (laws_sameBytes_same _ _ (uvB M) _ o9.rd hp9).mono ?_; rintro e w' ⟨rfl, m9, rfl⟩; have B10 := Below.dn B9 m9))
          all_goals
            go_wp2_with fail
            go_ret
            exact ⟨rfl, B10⟩
  · go_enter Try.func12, Try.ntmps12
    go_wp2_with fail
    refine (laws_big_yes _ _ _ _ (by omega)).mono ?_
    rintro e w' ⟨rfl, rfl⟩
    go_wp2_with fail
    go_ret
    exact ⟨rfl, Below.refl _ _⟩

/-! The row: the frame round the walk. -/
theorem own : ownKnob Try.prog.godebug = none := by kernel_rfl
theorem laidOut : laidOutB Try.prog = true := by kernel_rfl
set_option maxRecDepth 100000 in
theorem lifted (os : Os) (started : os.Started) (H : Type) (enc : TypeId × Value → H) :
    ReturnsInHanded {} Try.checked os 12 .any (Rows.fnVarintsSpec.pre6 enc Try.prog Try.f12 Rows.fnVarintsRow.domain false) (Rows.fnVarintsSpec.post enc Try.prog Try.f12 false true false false) := by
  refine returnsInHanded_of_change (C := Try.checked) own started (by kernel_rfl) Try.func12
    (ChangeSpec.witness6 (enc := enc) (C := Try.checked) false ⟨#[], #[.slice none 0 0], []⟩ 8 (by kernel_rfl) (by kernel_rfl) (by kernel_rfl) (by kernel_rfl)) ?_
  intro W base args ds gs before hval0 hW hcnd _
  have hval : ∀ (j : Nat) t v, Try.f12.params[j]? = some t → args[j]? = some v → Value.okWide Try.prog W .any base t v := hval0
  have hW' := hW
  obtain ⟨p, q, hA0, hV, rfl, hfz, hnd⟩ := hW
  have hA : DataW.TrodAll enc Try.prog W 0 (fun _ => true) true Try.f12.params.toList args.toList ds p := hA0
  rw [Try.params12] at hA hval
  obtain ⟨v0, vs0, d0, ds0, p0, q0, hargs, rfl, rfl, h0, rr0⟩ := trodAll_cons hA
  obtain ⟨rfl, rfl, rfl⟩ := trodAll_nil rr0
  obtain rfl : args = #[v0] := by cases args; simp_all
  obtain ⟨rfl, rfl⟩ := trodVars_none hV
  have k0 := h0
  have lt0 : ∀ x ∈ p0, x.block < W.heap.size := by obtain ⟨m, hm⟩ := k0; exact DataW.trod_lt m _ _ _ hm
  obtain ⟨a0, len0, cap0, rfl⟩ := okWide_slice Try.underlying22 (hval 0 22 v0 rfl rfl)
  obtain ⟨z0, _, r0, w0⟩ := rd_of_trod Try.underlying22 Try.underlying5 (by kernel_rfl) (fun _ => rfl) h0
  clear hA0 hval0
  refine (walk _ z0 W r0 w0).mono fun e W' ⟨he, bel⟩ => ?_
  subst he
  exact ⟨_, rfl, _, _, _, [], _, [], hW', trodAll_mk1 (shut_bool Try.underlying4 _), (trodAll_cons_mk (Below.trod laidOut (by kernel_rfl) (of_decide_eq_true (by kernel_rfl)) k0 bel lt0) trodAll_mk0), rfl, bel.frame _, fun h => by cases h⟩
theorem over : Rows.fnVarintsRow.holds Try.pinned (OpenSpec.ofChange Rows.fnVarintsSpec) :=
  OpenClaim.holds_of_wide 12 Try.f12 rfl rfl rfl rfl rfl rfl rfl ⟨rfl, rfl, rfl, rfl, rfl⟩ rfl rfl rfl rfl rfl (by kernel_rfl) Try.func12 (by kernel_rfl)
    (of_decide_eq_true (by kernel_rfl)) (by unfold Func.isWrapper; first | (rw [if_pos (by decide +kernel)]; kernel_rfl) | (rw [if_neg (by decide +kernel)]; exact ⟨rfl, rfl⟩))
    (fun os started H enc _ => lifted os started H enc)
/-- THE STATEMENT -/
theorem proved : Rows.FnVarintsSaid := over
#print axioms proved
end Go.Proofs.Ytpkaffnmoebgiaa.lawFnVarints
