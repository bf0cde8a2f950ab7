/-
  For all inputs (longer ones than 1048576 bytes the law passes by itself) decryption undoes encryption and encryption undoes decryption, and the length stays. No condition.
-/
import Derived.Test.YtgoelmhaobloaaaRows
import Derived.Test.YtgoelmhaobloaaaCrypt
import Derived.Test.YtgoelmhaobloaaaInts
import Derived.Test.YtgoelmhaobloaaaDraw3
namespace Go.Proofs.Ytgoelmhaobloaaa.lawFnCipher
open Go.Proofs.Ytgoelmhaobloaaa
open Go.ChangeShapes Go.WideShapes Go.ChangeAt Go.RowKit
open Go.ChangeMaps (open_string shut_string)
set_option linter.unusedVariables false

set_option maxRecDepth 100000 in
set_option maxHeartbeats 8000000 in
theorem walk (v0 : Value) (z0 : List Int) (w : World) (r0 : Rd .u8 w v0 z0) (h0 : ∀ n ∈ z0, (Lit.int .u8 n).wf = true) :
    Calls Try.prog 10 #[v0] w fun e w' => e = .returned (.bool true) ∧ Below w.heap.size w w' := by
  obtain ⟨A0, c0, rfl, hc0, hm0, -⟩ := id r0
  unfold maxLen at hm0
  by_cases hl : z0.length ≤ 1048576
  · skip
    go_enter Try.func10, Try.ntmps10
    have B := Below.refl w.heap.size w
    go_wp2_with fail
    refine (laws_big _ _ _ _ hl).mono ?_
    rintro e w' ⟨rfl, rfl⟩
    go_wp2_with fail
    refine (spec_DrawEncrypt _ z0 _ (r0.below B) h0 hl).mono ?_
    rintro e u1 ⟨k, vb, xs, rfl, qk, ob, lb, wb, b1⟩
    replace ob := ob.le B.size
    replace B := Below.next B b1
    clear b1
    obtain ⟨k0, k1⟩ := qk
    have hk := WalkArith.wf_i64 (n := k) (by omega)
    obtain ⟨Ab, cb, rfl, hcb, hmb, -⟩ := id ob.rd
    unfold maxLen at hmb
    have E1 := Lib.hid (M.dec_enc k xs wb.bd)
    have E2 := Lib.hid (M.enc_dec k xs wb.bd)
    have le := M.enc_length k xs
    have ld := M.dec_length k xs
    have HLE := Lib.hid le
    have HLD := Lib.hid ld
    clear le ld
    have we : WfB (M.enc k xs) := WfB.of (M.enc_bd k xs)
    have wd : WfB (M.dec k xs) := WfB.of (M.dec_bd k xs)
    go_wp2_with fail
    refine (impl_Encrypt k _ xs _ hk ob.rd wb (by omega)).mono ?_
    rintro e u2 ⟨vx, rfl, ox, b2⟩
    replace ob := ob.below b2
    replace ox := ox.le B.size
    replace B := Below.next B b2
    clear b2
    go_wp2_with fail
    refine (impl_Decrypt k _ (M.enc k xs) _ hk ox.rd we (by rw [HLE.out]; omega)).mono ?_
    rintro e u3 ⟨vy, rfl, oy, b3⟩
    replace ob := ob.below b3
    replace ox := ox.below b3
    replace oy := oy.le B.size
    replace B := Below.next B b3
    clear b3
    rw [E1.out] at oy
    go_wp2_with fail
    refine (laws_sameBytes_same _ _ xs _ oy.rd ob.rd).mono ?_
    rintro e w' ⟨rfl, m4, rfl⟩
    replace ob := ob.drewN m4
    replace ox := ox.drewN m4
    replace oy := oy.drewN m4
    replace B := Below.dn B m4
    go_wp2_with fail
    refine (impl_Decrypt k _ xs _ hk ob.rd wb (by omega)).mono ?_
    rintro e u5 ⟨vp, rfl, op, b5⟩
    replace ob := ob.below b5
    replace ox := ox.below b5
    replace oy := oy.below b5
    replace op := op.le B.size
    replace B := Below.next B b5
    clear b5
    go_wp2_with fail
    refine (impl_Encrypt k _ (M.dec k xs) _ hk op.rd wd (by rw [HLD.out]; omega)).mono ?_
    rintro e u6 ⟨vq, rfl, oq, b6⟩
    replace ob := ob.below b6
    replace ox := ox.below b6
    replace oy := oy.below b6
    replace op := op.below b6
    replace oq := oq.le B.size
    replace B := Below.next B b6
    clear b6
    rw [E2.out] at oq
    go_wp2_with fail
    refine (laws_sameBytes_same _ _ xs _ oq.rd ob.rd).mono ?_
    rintro e w' ⟨rfl, m7, rfl⟩
    replace ob := ob.drewN m7
    replace ox := ox.drewN m7
    replace oy := oy.drewN m7
    replace op := op.drewN m7
    replace oq := oq.drewN m7
    replace B := Below.dn B m7
    go_wp2_with fail
    refine (impl_Encrypt k _ xs _ hk ob.rd wb (by omega)).mono ?_
    rintro e u8 ⟨vr, rfl, or, b8⟩
    replace ob := ob.below b8
    replace ox := ox.below b8
    replace oy := oy.below b8
    replace op := op.below b8
    replace oq := oq.below b8
    replace or := or.le B.size
    replace B := Below.next B b8
    clear b8
    obtain ⟨Ar, cr, rfl, hcr, hmr, -⟩ := id or.rd
    unfold maxLen at hmr
    rw [HLE.out] at hcr ⊢
    clear or ox oy op oq ob we wd wb
    go_wp2_with fail
    go_ret
    exact ⟨by simp, B⟩
  · go_enter Try.func10, Try.ntmps10
    go_wp2_with fail
    refine (laws_big_yes _ _ _ _ (by omega)).mono ?_
    rintro e w' ⟨rfl, rfl⟩
    go_wp2_with fail
    go_ret
    exact ⟨rfl, Below.refl _ _⟩

/-! The row: the frame round the walk. -/
theorem own : ownKnob Try.prog.godebug = none := by kernel_rfl
theorem laidOut : laidOutB Try.prog = true := by kernel_rfl
set_option maxRecDepth 100000 in
theorem lifted (os : Os) (started : os.Started) (H : Type) (enc : TypeId × Value → H) :
    ReturnsInHanded {} Try.checked os 10 .any (Rows.fnCipherSpec.pre6 enc Try.prog Try.f10 Rows.fnCipherRow.domain false) (Rows.fnCipherSpec.post enc Try.prog Try.f10 false true false false) := by
  refine returnsInHanded_of_change (C := Try.checked) own started (by kernel_rfl) Try.func10
    (ChangeSpec.witness6 (enc := enc) (C := Try.checked) false ⟨#[], #[.slice none 0 0], []⟩ 8 (by kernel_rfl) (by kernel_rfl) (by kernel_rfl) (by kernel_rfl)) ?_
  intro W base args ds gs before hval0 hW hcnd _
  have hval : ∀ (j : Nat) t v, Try.f10.params[j]? = some t → args[j]? = some v → Value.okWide Try.prog W .any base t v := hval0
  have hW' := hW
  obtain ⟨p, q, hA0, hV, rfl, hfz, hnd⟩ := hW
  have hA : DataW.TrodAll enc Try.prog W 0 (fun _ => true) true Try.f10.params.toList args.toList ds p := hA0
  rw [Try.params10] at hA hval
  obtain ⟨v0, vs0, d0, ds0, p0, q0, hargs, rfl, rfl, h0, rr0⟩ := trodAll_cons hA
  obtain ⟨rfl, rfl, rfl⟩ := trodAll_nil rr0
  obtain rfl : args = #[v0] := by cases args; simp_all
  obtain ⟨rfl, rfl⟩ := trodVars_none hV
  have k0 := h0
  have lt0 : ∀ x ∈ p0, x.block < W.heap.size := by obtain ⟨m, hm⟩ := k0; exact DataW.trod_lt m _ _ _ hm
  obtain ⟨a0, len0, cap0, rfl⟩ := okWide_slice Try.underlying40 (hval 0 40 v0 rfl rfl)
  obtain ⟨z0, _, r0, w0⟩ := rd_of_trod Try.underlying40 Try.underlying5 (by kernel_rfl) (fun _ => rfl) h0
  clear hA0 hval0
  refine (walk _ z0 W r0 w0).mono fun e W' ⟨he, bel⟩ => ?_
  subst he
  exact ⟨_, rfl, _, _, _, [], _, [], hW', trodAll_mk1 (shut_bool Try.underlying4 _), (trodAll_cons_mk (Below.trod laidOut (by kernel_rfl) (of_decide_eq_true (by kernel_rfl)) k0 bel lt0) trodAll_mk0), rfl, bel.frame _, fun h => by cases h⟩
theorem over : Rows.fnCipherRow.holds Try.pinned (OpenSpec.ofChange Rows.fnCipherSpec) :=
  OpenClaim.holds_of_wide 10 Try.f10 rfl rfl rfl rfl rfl rfl rfl ⟨rfl, rfl, rfl, rfl, rfl⟩ rfl rfl rfl rfl rfl (by kernel_rfl) Try.func10 (by kernel_rfl)
    (of_decide_eq_true (by kernel_rfl)) (by unfold Func.isWrapper; first | (rw [if_pos (by decide +kernel)]; kernel_rfl) | (rw [if_neg (by decide +kernel)]; exact ⟨rfl, rfl⟩))
    (fun os started H enc _ => lifted os started H enc)
/-- THE STATEMENT -/
theorem proved : Rows.FnCipherSaid := over
#print axioms proved
end Go.Proofs.Ytgoelmhaobloaaa.lawFnCipher
