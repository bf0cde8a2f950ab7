/-
  For all inputs (longer ones than 1048576 bytes the law passes by itself) the law on byte strings and lists holds: both are decoded from their encodings; a shorter bound and one number more are refused. No condition.
-/
import Derived.Test.YtpkaffnmoebgiaaRows
import Derived.Test.YtpkaffnmoebgiaaInts
import Derived.Test.YtpkaffnmoebgiaaUv2
import Derived.Test.YtpkaffnmoebgiaaDrawV
namespace Go.Proofs.Ytpkaffnmoebgiaa.lawFnByteStrings
open Go.Proofs.Ytpkaffnmoebgiaa
open Go.ChangeShapes Go.WideShapes Go.ChangeAt Go.RowKit
open Go.ChangeMaps (open_string shut_string)
set_option linter.unusedVariables false

/-- Numbers in the range. -/
def InL (l : List Int) : Prop := ∀ z ∈ l, 0 ≤ z ∧ z ≤ 1000000000000
theorem InL.nil : InL [] := by simp [InL]
theorem InL.snoc {l : List Int} {x : Int} (h : InL l) (hx : 0 ≤ x ∧ x ≤ 1000000000000) : InL (l ++ [x]) := fun z hz => by
  rcases List.mem_append.1 hz with hz | hz
  · exact h z hz
  · simp at hz; subst hz; exact hx
theorem InL.wf {l : List Int} (h : InL l) : ∀ z ∈ l, (Lit.int .i64 z).wf = true := fun z hz => WalkArith.wf_i64 (by have := h z hz; omega)
theorem encL_wfb (l : List Int) : WfB (encL l) := by
  apply WfB.of
  intro z hz
  unfold encL at hz
  obtain ⟨y, hy, hz⟩ := List.mem_flatten.1 hz
  obtain ⟨x, _, rfl⟩ := List.mem_map.1 hy
  exact uvO_bd x z hz

set_option maxRecDepth 100000 in
set_option maxHeartbeats 8000000 in
theorem walk (v0 : Value) (z0 : List Int) (w : World) (r0 : Rd .u8 w v0 z0) (h0 : ∀ n ∈ z0, (Lit.int .u8 n).wf = true) :
    Calls Try.prog 11 #[v0] w fun e w' => e = .returned (.bool true) ∧ Below w.heap.size w w' := by
  obtain ⟨A0, c0, rfl, hc0, hm0, -⟩ := id r0
  unfold maxLen at hm0
  by_cases hl : z0.length ≤ 1048576
  · skip
    go_enter Try.func11, Try.ntmps11
    have B := Below.refl w.heap.size w
    go_wp2_with fail
    refine (laws_big _ _ _ _ hl).mono ?_
    rintro e w' ⟨rfl, rfl⟩
    go_wp2_with fail
    refine (spec_DrawAppendBytes _ z0 _ (r0.below B) h0 hl).mono ?_
    rintro e u1 ⟨vb, vd, xs, ys, rfl, ob, lb, wb, od, ld, wd, b1⟩
    replace ob := ob.le B.size
    replace od := od.le B.size
    replace B := Below.next B b1
    clear b1
    obtain ⟨Ab, cb, rfl, hcb, hmb, -⟩ := id ob.rd
    unfold maxLen at hmb
    obtain ⟨Ad, cd, rfl, hcd, hmd, -⟩ := id od.rd
    unfold maxLen at hmd
    go_wp2_with fail
    refine (impl_AppendBytes _ _ xs ys _ ob.rd od.rd (by omega) (by omega)).mono ?_
    rintro e u2 ⟨vx, rfl, ox, b2⟩
    replace ox := ox.le B.size
    replace od := od.below b2
    replace B := Below.next B b2
    clear b2 ob
    obtain ⟨Ax, cx, rfl, hcx, hmx, -⟩ := id ox.rd
    unfold maxLen at hmx
    have hu := uvO_len (ys.length : Int)
    obtain ⟨T, hT⟩ : ∃ T, T = (xs ++ uvO ys.length ++ ys).length := ⟨_, rfl⟩
    have hT3 : T ≤ 3000 := by rw [hT]; simp; omega
    rw [← hT] at hcx ox ⊢
    obtain ⟨e1, e2, e3, e4⟩ := rb_app xs ys (by omega)
    have hwx : WfB (xs ++ uvO ys.length ++ ys) := (wb.app (WfB.of (uvO_bd _))).app wd
    have HR1 : Hid (∀ u, Rd .u8 u (.slice Ax T cx) (xs ++ uvO ys.length ++ ys) → Calls Try.prog 34 #[.slice Ax T cx, .int .i64 (xs.length : Int), .int .i64 (ys.length : Int)] u fun e w' => ∃ v, e = .returned (.tuple #[v, .int .i64 (T : Int), .bool true]) ∧ Own 5 .u8 w' u.heap.size v ys ∧ Below u.heap.size u w') :=
      Lib.hid (fun u hr => by have h := impl_ReadBytes _ _ (xs.length : Int) (ys.length : Int) u hr hwx (WalkArith.wf_i64 (by omega)) (by rw [← hT]; omega); rw [e1, e2, e3, ← hT] at h; exact h)
    have HR2 : Hid (∀ u, Rd .u8 u (.slice Ax T cx) (xs ++ uvO ys.length ++ ys) → Calls Try.prog 34 #[.slice Ax T cx, .int .i64 (xs.length : Int), .int .i64 ((ys.length : Int) - 1)] u fun e w' => ∃ v n, e = .returned (.tuple #[v, .int .i64 n, .bool false]) ∧ Below u.heap.size u w') :=
      Lib.hid (fun u hr => by have h := impl_ReadBytes _ _ (xs.length : Int) ((ys.length : Int) - 1) u hr hwx (WalkArith.wf_i64 (by omega)) (by rw [← hT]; omega); rw [e4] at h; exact h.mono fun e w' ⟨v, he, _, hb⟩ => ⟨v, _, he, hb⟩)
    have HT := Lib.hid hT
    have HX := Lib.hid ox.rd
    clear hT ox e1 e2 e3 e4 hwx wb wd
    go_wp2_with fail
    refine (HR1.out _ HX.out).mono ?_
    rintro e u3 ⟨vy, rfl, oy, b3⟩
    replace oy := oy.le B.size
    replace od := od.below b3
    replace HX := Lib.hid (HX.out.below b3)
    replace B := Below.next B b3
    clear b3 HR1
    go_wp2_with fail
    refine (HR2.out _ HX.out).mono ?_
    rintro e u4 ⟨vz, nz, rfl, b4⟩
    replace od := od.below b4
    replace oy := oy.below b4
    replace B := Below.next B b4
    clear b4 HR2 HX
    go_wp2_with fail
    refine (laws_sameBytes_same _ _ ys _ oy.rd od.rd).mono ?_
    rintro e w' ⟨rfl, m5, rfl⟩
    replace B := Below.dn B m5
    clear oy od
    obtain ⟨u5, hu5⟩ : ∃ u, u = u4.drewN m5 := ⟨_, rfl⟩
    rw [← hu5] at B ⊢
    clear hu5
    obtain ⟨i0, hi, hz0, hz1, hz2⟩ := info_parts infoIntDr
    have zq := B.size
    have ho0 : Own 3 .i64 (u5.alloc (.cells #[] 3)) u5.heap.size (.slice (some ⟨u5.heap.size, 0, none⟩) 0 0) [] := Own.lit u5 u5.heap.size [] (Nat.le_refl _) (by simp [maxLen])
    have HO := Lib.hid ho0
    clear ho0
    go_wp2_with fail
    go_loopw [12, 13] (fun v i wr => ∃ (k : Nat) (l : List Int), i = .int .i64 k ∧ k ≤ 5 ∧ l.length = k ∧ InL l ∧ Own 3 .i64 wr u5.heap.size v l ∧ Below w.heap.size w wr ∧ u5.heap.size ≤ wr.heap.size) (fun _ i _ => 6 - (intOf i).toNat)
    case atStart => exact ⟨0, [], rfl, by omega, rfl, InL.nil, HO.out, Below.al B _, by simp⟩
    case round =>
      clear HO B
      obtain ⟨k, l, rfl, hk, hl2, hin, hown, hbel, hbz⟩ := hrel
      have HL := Lib.hid hl2
      clear hl2
      go_wp2_with fail
      refine (laws_at _ z0 0 _ (r0.below hbel) h0 hl (by omega)).mono ?_
      rintro e w' ⟨n, rfl, n0, n1, rfl⟩
      by_cases hlt : (k : Int) < n % 6
      · have hr := r0.below hbel
        go_wp2_with fail
        refine (laws_at _ z0 (k + 1) _ hr h0 hl (by omega)).mono ?_
        rintro e w' ⟨a, rfl, a0, a1, rfl⟩
        go_wp2_with fail
        refine (laws_at _ z0 (k + 2) _ hr h0 hl (by omega)).mono ?_
        rintro e w' ⟨b, rfl, b0, b1, rfl⟩
        obtain ⟨p0, p1⟩ := mul_bd a0 a1 b0 b1
        have p1' : a * b ≤ 65025 := by omega
        go_wp2_with fail
        refine (laws_at _ z0 (k + 3) _ hr h0 hl (by omega)).mono ?_
        rintro e w' ⟨c, rfl, c2, c3, rfl⟩
        obtain ⟨p2, p3⟩ := mul_bd p0 p1' c2 c3
        have p3' : a * b * c ≤ 16581375 := by omega
        clear p1 p3 hr
        have hl1 : Rd .i64 (wr.alloc (.cells #[.int .i64 (a * b * c)] 3)) (.slice (some ⟨wr.heap.size, 0, none⟩) 1 1) [a * b * c] := Rd.lit 3 wr [a * b * c] (by simp [maxLen])
        have how := hown.below (Below.al (Below.refl _ wr) (.cells #[.int .i64 (a * b * c)] 3))
        have Ba := Below.al hbel (.cells #[.int .i64 (a * b * c)] 3)
        go_wp2_with (at_builtin; refine wpList_append_rd _ rfl (.tmp 77) (.tmp 92) 31 rfl u5.heap.size 3 i0 (.int .i64 0) 8 Try.underlying31 hi hz0 hz1 hz2 rfl _ _ l [a * b * c] rfl how rfl hl1 (by have := HL.out; simp [maxLen]; omega) (by have := HL.out; simp; omega) (by simp; omega) ?_; intro v2 w4 hown2 hg2)
        have B4 := Below.own Ba hg2 how zq
        have HO := Lib.hid hown2
        have HI := Lib.hid (hin.snoc (x := a * b * c) (by omega))
        clear hown2 how hl1 hown
        go_wp2
        go_roundw
        case rel => exact ⟨k + 1, _, by go_num, by omega, by rw [List.length_append, HL.out]; rfl, HI.out, HO.out, B4, by have := hg2.size; simp at this; omega⟩
        case measure => simp [intOf]; omega
      · obtain ⟨Al, cl, rfl, hcl, hml, -⟩ := id hown.rd
        unfold maxLen at hml
        have hl5 : l.length ≤ 5 := by rw [HL.out]; exact hk
        have HOL := Lib.hid (hown.le zq)
        clear hown HL
        go_wp2_with fail
        refine (impl_EncodeInts _ l _ HOL.out.rd hin.wf (by omega)).mono ?_
        rintro e u6 ⟨ve, rfl, oe, b6⟩
        replace oe := oe.le hbel.size
        have ol := HOL.out.below b6
        have B6 := Below.next hbel b6
        clear b6 HOL hbel
        obtain ⟨Ae, ce, rfl, hce, hme, -⟩ := id oe.rd
        unfold maxLen at hme
        have hle := encL_len l
        obtain ⟨d1, d2⟩ := decT_app l (by omega) hin
        have hwe : WfB (encL l) := encL_wfb l
        obtain ⟨E, hE⟩ : ∃ E, E = (encL l).length := ⟨_, rfl⟩
        have hE3 : E ≤ 30 := by omega
        rw [← hE] at hce oe d1 ⊢
        have HE := Lib.hid hE
        have HD1 := Lib.hid d1
        have HD2 := Lib.hid d2
        have HOE := Lib.hid oe
        clear hE d1 d2 oe hle
        have hEl : (encL l).length ≤ 1099511627776 := by rw [← HE.out]; omega
        have HEl := Lib.hid hEl
        clear hEl
        go_wp2_with fail
        refine (impl_DecodeInts _ (encL l) 0 _ _ HOE.out.rd hwe (WalkArith.wf_i64 (by omega)) HEl.out _ _ _ HD1.out).mono ?_
        rintro e u7 ⟨vm, rfl, om, b7⟩
        have B7 := Below.next B6 b7
        replace ol := ol.below b7
        replace HOE := Lib.hid (HOE.out.below b7)
        clear b7
        go_wp2_with fail
        refine (impl_DecodeInts _ (encL l) 0 _ _ HOE.out.rd hwe (WalkArith.wf_i64 (by omega)) HEl.out _ _ _ HD2.out).mono ?_
        rintro e u8 ⟨vn, rfl, on, b8⟩
        have B8 := Below.next B7 b8
        replace ol := ol.below b8
        replace om := om.below b8
        clear b8 on HOE
        go_wp2_with fail
        refine (laws_sameInts_same _ _ l _ om.rd ol.rd).mono ?_
        rintro e w' ⟨rfl, m9, rfl⟩
        have B9 := Below.dn B8 m9
        clear om ol HD1 HD2 HE hwe
        go_wp2_with fail
        go_ret
        exact ⟨rfl, B9⟩
  · go_enter Try.func11, Try.ntmps11
    go_wp2_with fail
    refine (laws_big_yes _ _ _ _ (by omega)).mono ?_
    rintro e w' ⟨rfl, rfl⟩
    go_wp2_with fail
    go_ret
    exact ⟨rfl, Below.refl _ _⟩

/-! The row: the frame round the walk. -/
theorem own : ownKnob Try.prog.godebug = none := by kernel_rfl
theorem laidOut : laidOutB Try.prog = true := by kernel_rfl
set_option maxRecDepth 100000 in
theorem lifted (os : Os) (started : os.Started) (H : Type) (enc : TypeId × Value → H) :
    ReturnsInHanded {} Try.checked os 11 .any (Rows.fnByteStringsSpec.pre6 enc Try.prog Try.f11 Rows.fnByteStringsRow.domain false) (Rows.fnByteStringsSpec.post enc Try.prog Try.f11 false true false false) := by
  refine returnsInHanded_of_change (C := Try.checked) own started (by kernel_rfl) Try.func11
    (ChangeSpec.witness6 (enc := enc) (C := Try.checked) false ⟨#[], #[.slice none 0 0], []⟩ 8 (by kernel_rfl) (by kernel_rfl) (by kernel_rfl) (by kernel_rfl)) ?_
  intro W base args ds gs before hval0 hW hcnd _
  have hval : ∀ (j : Nat) t v, Try.f11.params[j]? = some t → args[j]? = some v → Value.okWide Try.prog W .any base t v := hval0
  have hW' := hW
  obtain ⟨p, q, hA0, hV, rfl, hfz, hnd⟩ := hW
  have hA : DataW.TrodAll enc Try.prog W 0 (fun _ => true) true Try.f11.params.toList args.toList ds p := hA0
  rw [Try.params11] at hA hval
  obtain ⟨v0, vs0, d0, ds0, p0, q0, hargs, rfl, rfl, h0, rr0⟩ := trodAll_cons hA
  obtain ⟨rfl, rfl, rfl⟩ := trodAll_nil rr0
  obtain rfl : args = #[v0] := by cases args; simp_all
  obtain ⟨rfl, rfl⟩ := trodVars_none hV
  have k0 := h0
  have lt0 : ∀ x ∈ p0, x.block < W.heap.size := by obtain ⟨m, hm⟩ := k0; exact DataW.trod_lt m _ _ _ hm
  obtain ⟨a0, len0, cap0, rfl⟩ := okWide_slice Try.underlying22 (hval 0 22 v0 rfl rfl)
  obtain ⟨z0, _, r0, w0⟩ := rd_of_trod Try.underlying22 Try.underlying5 (by kernel_rfl) (fun _ => rfl) h0
  clear hA0 hval0
  refine (walk _ z0 W r0 w0).mono fun e W' ⟨he, bel⟩ => ?_
  subst he
  exact ⟨_, rfl, _, _, _, [], _, [], hW', trodAll_mk1 (shut_bool Try.underlying4 _), (trodAll_cons_mk (Below.trod laidOut (by kernel_rfl) (of_decide_eq_true (by kernel_rfl)) k0 bel lt0) trodAll_mk0), rfl, bel.frame _, fun h => by cases h⟩
theorem over : Rows.fnByteStringsRow.holds Try.pinned (OpenSpec.ofChange Rows.fnByteStringsSpec) :=
  OpenClaim.holds_of_wide 11 Try.f11 rfl rfl rfl rfl rfl rfl rfl ⟨rfl, rfl, rfl, rfl, rfl⟩ rfl rfl rfl rfl rfl (by kernel_rfl) Try.func11 (by kernel_rfl)
    (of_decide_eq_true (by kernel_rfl)) (by unfold Func.isWrapper; first | (rw [if_pos (by decide +kernel)]; kernel_rfl) | (rw [if_neg (by decide +kernel)]; exact ⟨rfl, rfl⟩))
    (fun os started H enc _ => lifted os started H enc)
/-- THE STATEMENT -/
theorem proved : Rows.FnByteStringsSaid := over
#print axioms proved
end Go.Proofs.Ytpkaffnmoebgiaa.lawFnByteStrings
