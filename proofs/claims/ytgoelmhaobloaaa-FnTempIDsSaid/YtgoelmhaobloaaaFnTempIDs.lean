/-
  For all inputs (longer ones than 1048576 bytes the law passes by itself) an identity that is allocated is valid in its pool and not in use; where none is, the answer is the zero identity. No condition.
-/
import Derived.Test.YtgoelmhaobloaaaRows
import Derived.Test.YtgoelmhaobloaaaDrawAl
namespace Go.Proofs.Ytgoelmhaobloaaa.lawFnTempIDs
open Go.Proofs.Ytgoelmhaobloaaa
open Go.ChangeShapes Go.WideShapes Go.ChangeAt Go.RowKit
open Go.ChangeMaps (open_string shut_string)
set_option linter.unusedVariables false

set_option maxRecDepth 100000 in
set_option maxHeartbeats 8000000 in
theorem walk (v0 : Value) (z0 : List Int) (w : World) (r0 : Rd .u8 w v0 z0) (h0 : ∀ n ∈ z0, (Lit.int .u8 n).wf = true) :
    Calls Try.prog 13 #[v0] w fun e w' => e = .returned (.bool true) ∧ Below w.heap.size w w' := by
  obtain ⟨A0, c0, rfl, hc0, hm0, -⟩ := id r0
  unfold maxLen at hm0
  by_cases hl : z0.length ≤ 1048576
  · skip
    go_enter Try.func13, Try.ntmps13
    have B := Below.refl w.heap.size w
    go_wp2_with fail
    refine (laws_big _ _ _ _ hl).mono ?_
    rintro e w' ⟨rfl, rfl⟩
    have B0 := B
    clear B
    go_wp2_with fail
    refine (spec_DrawAllocateTempID _ z0 _ (r0.below B0) h0 hl).mono ?_
    rintro e w1 ⟨key, a, b, v, n, zs, rfl, ⟨k0, k1⟩, wa, wb, hr, hn, b1⟩
    replace B0 := Below.next B0 b1
    clear b1
    have wk := WalkArith.wf_i64 (n := key) (by omega)
    obtain ⟨A, c, rfl, hnc, hcm, -⟩ := id hr.2
    unfold maxLen at hcm
    have RU := Lib.hid hr
    clear hr h0 r0
    cases hq0 : M.alOk key 1 a b zs n
    · obtain ⟨x1, x2⟩ := M.al_false hq0
      have HX := Lib.hid x1.symm
      have HY := Lib.hid x2.symm
      have HQ := Lib.hid hq0.symm
      clear x1 x2 hq0
      go_wp2_with fail
      refine (impl_AllocateTempID key 1 a b _ n zs _ wk wa wb (RU.out.below (by (repeat (first | (with_reducible exact Below.refl _ _) | (with_reducible refine Below.al ?_ _) | (with_reducible refine Below.drew ?_))))) 0 0 false HX.out HY.out HQ.out).mono ?_
      rintro e w2 ⟨rfl, b2⟩
      have NI : Hid (w2.heap[w1.heap.size]? = some (.cells #[.int .i64 a, .int .i64 b] 34 (0, 0))) := Lib.hid (cells_of_below b2 (by (repeat (first | ((with_reducible refine newBlk _ _ _ _ ?_); (first | rfl | (simp; done))) | ((with_reducible refine bxSetNe ?_ _ _ ?_); (rotate_left); (first | omega | (simp; omega))) | (with_reducible refine drewBlk ?_) | (with_reducible refine oldBlk _ ?_)))))
      have NO : Below w.heap.size w w2 := Below.next (by (repeat (first | (with_reducible exact B0) | ((with_reducible refine Below.st ?_ _ _ _ ?_); (rotate_left); (first | omega | (simp; omega))) | (with_reducible refine Below.al ?_ _) | (with_reducible refine Below.drew ?_)))) b2
      replace RU := Lib.hid (RU.out.below (Below.next (by (repeat (first | (with_reducible exact Below.refl _ _) | (with_reducible refine Below.al ?_ _) | (with_reducible refine Below.drew ?_)))) b2))
      clear B0
      have HI := NI
      have B0 := NO
      clear NI NO
      have lI_2 : w1.heap.size < w2.heap.size := (Array.getElem?_eq_some_iff.1 HI.out).1
      have zz2 := B0.size
      clear b2
      have cI0 := cell_of HI.out 0
      have cI1 := cell_of HI.out 1
      simp only [List.getElem?_toArray, List.getElem?_cons_zero, List.getElem?_cons_succ] at cI0 cI1
      have fI := free_of HI.out
      have sne := bxNe
      go_wp2_with fail
      refine (spec_AllocateTempID key 1 a b _ n zs _ wk wa wb (RU.out.below (by (repeat (first | (with_reducible exact Below.refl _ _) | (with_reducible refine Below.al ?_ _) | (with_reducible refine Below.drew ?_))))) 0 0 false HX.out HY.out HQ.out).mono ?_
      rintro e w3 ⟨rfl, b3⟩
      have NI : Hid (w3.heap[w1.heap.size]? = some (.cells #[.int .i64 a, .int .i64 b] 34 (0, 0))) := Lib.hid (cells_of_below b3 (by (repeat (first | (with_reducible exact HI.out) | ((with_reducible refine newBlk _ _ _ _ ?_); (first | rfl | (simp; done))) | ((with_reducible refine bxSetNe ?_ _ _ ?_); (rotate_left); (first | omega | (simp; omega))) | (with_reducible refine drewBlk ?_) | (with_reducible refine oldBlk _ ?_)))))
      have NT : Hid (w3.heap[w2.heap.size]? = some (.cells #[.int .i64 0, .int .i64 0] 32 (0, 0))) := Lib.hid (cells_of_below b3 (by (repeat (first | (with_reducible exact HI.out) | ((with_reducible refine newBlk _ _ _ _ ?_); (first | rfl | (simp; done))) | ((with_reducible refine bxSetNe ?_ _ _ ?_); (rotate_left); (first | omega | (simp; omega))) | (with_reducible refine drewBlk ?_) | (with_reducible refine oldBlk _ ?_)))))
      have NO : Below w.heap.size w w3 := Below.next (by (repeat (first | (with_reducible exact B0) | ((with_reducible refine Below.st ?_ _ _ _ ?_); (rotate_left); (first | omega | (simp; omega))) | (with_reducible refine Below.al ?_ _) | (with_reducible refine Below.drew ?_)))) b3
      replace RU := Lib.hid (RU.out.below (Below.next (by (repeat (first | (with_reducible exact Below.refl _ _) | (with_reducible refine Below.al ?_ _) | (with_reducible refine Below.drew ?_)))) b3))
      clear cI0 cI1 fI sne HI B0
      have HI := NI
      have HT := NT
      have B0 := NO
      clear NI NT NO
      have lI_3 : w1.heap.size < w3.heap.size := (Array.getElem?_eq_some_iff.1 HI.out).1
      have lT_3 : w2.heap.size < w3.heap.size := (Array.getElem?_eq_some_iff.1 HT.out).1
      have zz3 := B0.size
      clear b3
      clear HX HY HQ HI
      have hru := RU.out.below (Below.al (Below.refl _ _) (.cells #[.int .i64 0, .int .i64 0] 32))
      obtain ⟨_, A', c', hv, _, _, h3⟩ := hru
      injection hv with hv1 hv2 hv3
      subst hv1
      have H3 := Lib.hid h3
      clear h3 hv2 hv3 RU
      have HT2 := Lib.hid (oldBlk (.cells #[.int .i64 0, .int .i64 0] 32) HT.out)
      clear HT
      have B2 := Below.al B0 (.cells #[.int .i64 0, .int .i64 0] 32)
      clear B0
      go_wp2_with fail
      go_loopw [11] (fun i wr => ∃ k m : Nat, k ≤ n ∧ i = .int .i64 k ∧ wr = (w3.alloc (.cells #[.int .i64 0, .int .i64 0] 32)).drewN m) (fun i _ => n - (intOf i).toNat)
      case atStart => exact ⟨0, 0, Nat.zero_le _, rfl, rfl⟩
      case round =>
        obtain ⟨k, m, hk, rfl, rfl⟩ := hrel
        have cT0 := cell_of HT2.out 0
        have cT1 := cell_of HT2.out 1
        simp only [List.getElem?_toArray, List.getElem?_cons_zero, List.getElem?_cons_succ] at cT0 cT1
        have B3 := Below.dn B2 m
        by_cases hlt : k < n
        · obtain ⟨bb, off, rfl, hbw, hcell⟩ := H3.out (by omega)
          have c1 := hcell (k * 2) (by omega)
          have c2 := hcell (k * 2 + 1) (by omega)
          rw [← Nat.add_assoc] at c2
          clear hcell H3 HT2 B2
          have i1 : (0 : Int) ≤ (k : Int) := by omega
          have i2 : (k : Int) < (n : Int) := by omega
          go_wp2
          go_quiet (fail)
          go_wp2
          go_roundw
          case rel => exact ⟨k + 1, _, by omega, by go_num, rfl⟩
          case measure => simp [intOf]; omega
        · obtain rfl : k = n := by omega
          clear H3 HT2 B2
          go_wp2_with fail
          go_ret
          exact ⟨by first | rfl | (simp; done), by repeat (first | (with_reducible exact B3) | (with_reducible refine Below.al ?_ _))⟩
    · obtain ⟨x1, y0, y1, hno⟩ := M.al_true hq0
      obtain ⟨q, hq⟩ : ∃ q, q = M.alY key 1 a b zs n := ⟨_, rfl⟩
      rw [← hq] at y0 y1 hno
      have HX := Lib.hid x1.symm
      have HY := Lib.hid hq
      have HQ := Lib.hid hq0.symm
      have HN := Lib.hid hno
      clear x1 hq hq0 hno
      go_wp2_with fail
      refine (impl_AllocateTempID key 1 a b _ n zs _ wk wa wb (RU.out.below (by (repeat (first | (with_reducible exact Below.refl _ _) | (with_reducible refine Below.al ?_ _) | (with_reducible refine Below.drew ?_))))) 1 q true HX.out HY.out HQ.out).mono ?_
      rintro e w2 ⟨rfl, b2⟩
      have NI : Hid (w2.heap[w1.heap.size]? = some (.cells #[.int .i64 a, .int .i64 b] 34 (0, 0))) := Lib.hid (cells_of_below b2 (by (repeat (first | ((with_reducible refine newBlk _ _ _ _ ?_); (first | rfl | (simp; done))) | ((with_reducible refine bxSetNe ?_ _ _ ?_); (rotate_left); (first | omega | (simp; omega))) | (with_reducible refine drewBlk ?_) | (with_reducible refine oldBlk _ ?_)))))
      have NO : Below w.heap.size w w2 := Below.next (by (repeat (first | (with_reducible exact B0) | ((with_reducible refine Below.st ?_ _ _ _ ?_); (rotate_left); (first | omega | (simp; omega))) | (with_reducible refine Below.al ?_ _) | (with_reducible refine Below.drew ?_)))) b2
      replace RU := Lib.hid (RU.out.below (Below.next (by (repeat (first | (with_reducible exact Below.refl _ _) | (with_reducible refine Below.al ?_ _) | (with_reducible refine Below.drew ?_)))) b2))
      clear B0
      have HI := NI
      have B0 := NO
      clear NI NO
      have lI_2 : w1.heap.size < w2.heap.size := (Array.getElem?_eq_some_iff.1 HI.out).1
      have zz2 := B0.size
      clear b2
      have cI0 := cell_of HI.out 0
      have cI1 := cell_of HI.out 1
      simp only [List.getElem?_toArray, List.getElem?_cons_zero, List.getElem?_cons_succ] at cI0 cI1
      have fI := free_of HI.out
      have sne := bxNe
      go_wp2_with fail
      refine (spec_AllocateTempID key 1 a b _ n zs _ wk wa wb (RU.out.below (by (repeat (first | (with_reducible exact Below.refl _ _) | (with_reducible refine Below.al ?_ _) | (with_reducible refine Below.drew ?_))))) 1 q true HX.out HY.out HQ.out).mono ?_
      rintro e w3 ⟨rfl, b3⟩
      have NI : Hid (w3.heap[w1.heap.size]? = some (.cells #[.int .i64 a, .int .i64 b] 34 (0, 0))) := Lib.hid (cells_of_below b3 (by (repeat (first | (with_reducible exact HI.out) | ((with_reducible refine newBlk _ _ _ _ ?_); (first | rfl | (simp; done))) | ((with_reducible refine bxSetNe ?_ _ _ ?_); (rotate_left); (first | omega | (simp; omega))) | (with_reducible refine drewBlk ?_) | (with_reducible refine oldBlk _ ?_)))))
      have NT : Hid (w3.heap[w2.heap.size]? = some (.cells #[.int .i64 1, .int .i64 q] 32 (0, 0))) := Lib.hid (cells_of_below b3 (by (repeat (first | (with_reducible exact HI.out) | ((with_reducible refine newBlk _ _ _ _ ?_); (first | rfl | (simp; done))) | ((with_reducible refine bxSetNe ?_ _ _ ?_); (rotate_left); (first | omega | (simp; omega))) | (with_reducible refine drewBlk ?_) | (with_reducible refine oldBlk _ ?_)))))
      have NO : Below w.heap.size w w3 := Below.next (by (repeat (first | (with_reducible exact B0) | ((with_reducible refine Below.st ?_ _ _ _ ?_); (rotate_left); (first | omega | (simp; omega))) | (with_reducible refine Below.al ?_ _) | (with_reducible refine Below.drew ?_)))) b3
      replace RU := Lib.hid (RU.out.below (Below.next (by (repeat (first | (with_reducible exact Below.refl _ _) | (with_reducible refine Below.al ?_ _) | (with_reducible refine Below.drew ?_)))) b3))
      clear cI0 cI1 fI sne HI B0
      have HI := NI
      have HT := NT
      have B0 := NO
      clear NI NT NO
      have lI_3 : w1.heap.size < w3.heap.size := (Array.getElem?_eq_some_iff.1 HI.out).1
      have lT_3 : w2.heap.size < w3.heap.size := (Array.getElem?_eq_some_iff.1 HT.out).1
      have zz3 := B0.size
      clear b3
      clear HX HY HQ HI
      have hru := RU.out.below (Below.al (Below.refl _ _) (.cells #[.int .i64 1, .int .i64 q] 32))
      obtain ⟨_, A', c', hv, _, _, h3⟩ := hru
      injection hv with hv1 hv2 hv3
      subst hv1
      have H3 := Lib.hid h3
      clear h3 hv2 hv3 RU
      have HT2 := Lib.hid (oldBlk (.cells #[.int .i64 1, .int .i64 q] 32) HT.out)
      clear HT
      have B2 := Below.al B0 (.cells #[.int .i64 1, .int .i64 q] 32)
      clear B0
      go_wp2_with fail
      go_loopw [11] (fun i wr => ∃ k m : Nat, k ≤ n ∧ i = .int .i64 k ∧ wr = (w3.alloc (.cells #[.int .i64 1, .int .i64 q] 32)).drewN m) (fun i _ => n - (intOf i).toNat)
      case atStart => exact ⟨0, 0, Nat.zero_le _, rfl, rfl⟩
      case round =>
        obtain ⟨k, m, hk, rfl, rfl⟩ := hrel
        have cT0 := cell_of HT2.out 0
        have cT1 := cell_of HT2.out 1
        simp only [List.getElem?_toArray, List.getElem?_cons_zero, List.getElem?_cons_succ] at cT0 cT1
        have B3 := Below.dn B2 m
        by_cases hlt : k < n
        · obtain ⟨bb, off, rfl, hbw, hcell⟩ := H3.out (by omega)
          have c1 := hcell (k * 2) (by omega)
          have c2 := hcell (k * 2 + 1) (by omega)
          rw [← Nat.add_assoc] at c2
          clear hcell H3 HT2 B2
          have i1 : (0 : Int) ≤ (k : Int) := by omega
          have i2 : (k : Int) < (n : Int) := by omega
          have hne := hasP_not HN.out hlt
          obtain ⟨x, hx⟩ : ∃ x, x = zs.getD (k * 2) 0 := ⟨_, rfl⟩
          obtain ⟨y, hy⟩ : ∃ y, y = zs.getD (k * 2 + 1) 0 := ⟨_, rfl⟩
          rw [← hx] at c1 hne
          rw [← hy] at c2 hne
          clear hx hy HN
          have hb : (x == 1 && y == q) = false := by
            rw [Bool.and_eq_false_iff, beq_eq_false_iff_ne, beq_eq_false_iff_ne]
            by_cases e : x = 1
            · exact .inr (fun e2 => hne ⟨e, e2⟩)
            · exact .inl e
          have eqT := eqlTemp
          clear hne
          go_wp2
          go_quiet (fail)
          go_wp2
          go_roundw
          case rel => exact ⟨k + 1, _, by omega, by go_num, rfl⟩
          case measure => simp [intOf]; omega
        · obtain rfl : k = n := by omega
          clear H3 HT2 B2 HN
          have hvt : M.vTid 1 q = true := by unfold M.vTid; rw [M.inR_true (n := 1) (by omega), M.inR_true (n := q) (by omega)]; rfl
          go_wp2_with (go_at_call 50; refine (impl_IsValidTempID 1 q _).mono ?_; rw [hvt]; rintro e w9 ⟨rfl, rfl⟩)
          go_ret
          exact ⟨by first | rfl | (simp; done), by repeat (first | (with_reducible exact B3) | (with_reducible refine Below.al ?_ _))⟩
  · go_enter Try.func13, Try.ntmps13
    go_wp2_with fail
    refine (laws_big_yes _ _ _ _ (by omega)).mono ?_
    rintro e w' ⟨rfl, rfl⟩
    go_wp2_with fail
    go_ret
    exact ⟨rfl, Below.refl _ _⟩

/-! The row: the frame round the walk. -/
theorem own : ownKnob Try.prog.godebug = none := by kernel_rfl
theorem laidOut : laidOutB Try.prog = true := by kernel_rfl
set_option maxRecDepth 100000 in
theorem lifted (os : Os) (started : os.Started) (H : Type) (enc : TypeId × Value → H) :
    ReturnsInHanded {} Try.checked os 13 .any (Rows.fnTempIDsSpec.pre6 enc Try.prog Try.f13 Rows.fnTempIDsRow.domain false) (Rows.fnTempIDsSpec.post enc Try.prog Try.f13 false true false false) := by
  refine returnsInHanded_of_change (C := Try.checked) own started (by kernel_rfl) Try.func13
    (ChangeSpec.witness6 (enc := enc) (C := Try.checked) false ⟨#[], #[.slice none 0 0], []⟩ 8 (by kernel_rfl) (by kernel_rfl) (by kernel_rfl) (by kernel_rfl)) ?_
  intro W base args ds gs before hval0 hW hcnd _
  have hval : ∀ (j : Nat) t v, Try.f13.params[j]? = some t → args[j]? = some v → Value.okWide Try.prog W .any base t v := hval0
  have hW' := hW
  obtain ⟨p, q, hA0, hV, rfl, hfz, hnd⟩ := hW
  have hA : DataW.TrodAll enc Try.prog W 0 (fun _ => true) true Try.f13.params.toList args.toList ds p := hA0
  rw [Try.params13] at hA hval
  obtain ⟨v0, vs0, d0, ds0, p0, q0, hargs, rfl, rfl, h0, rr0⟩ := trodAll_cons hA
  obtain ⟨rfl, rfl, rfl⟩ := trodAll_nil rr0
  obtain rfl : args = #[v0] := by cases args; simp_all
  obtain ⟨rfl, rfl⟩ := trodVars_none hV
  have k0 := h0
  have lt0 : ∀ x ∈ p0, x.block < W.heap.size := by obtain ⟨m, hm⟩ := k0; exact DataW.trod_lt m _ _ _ hm
  obtain ⟨a0, len0, cap0, rfl⟩ := okWide_slice Try.underlying40 (hval 0 40 v0 rfl rfl)
  obtain ⟨z0, _, r0, w0⟩ := rd_of_trod Try.underlying40 Try.underlying5 (by kernel_rfl) (fun _ => rfl) h0
  clear hA0 hval0
  refine (walk _ z0 W r0 w0).mono fun e W' ⟨he, bel⟩ => ?_
  subst he
  exact ⟨_, rfl, _, _, _, [], _, [], hW', trodAll_mk1 (shut_bool Try.underlying4 _), (trodAll_cons_mk (Below.trod laidOut (by kernel_rfl) (of_decide_eq_true (by kernel_rfl)) k0 bel lt0) trodAll_mk0), rfl, bel.frame _, fun h => by cases h⟩
theorem over : Rows.fnTempIDsRow.holds Try.pinned (OpenSpec.ofChange Rows.fnTempIDsSpec) :=
  OpenClaim.holds_of_wide 13 Try.f13 rfl rfl rfl rfl rfl rfl rfl ⟨rfl, rfl, rfl, rfl, rfl⟩ rfl rfl rfl rfl rfl (by kernel_rfl) Try.func13 (by kernel_rfl)
    (of_decide_eq_true (by kernel_rfl)) (by unfold Func.isWrapper; first | (rw [if_pos (by decide +kernel)]; kernel_rfl) | (rw [if_neg (by decide +kernel)]; exact ⟨rfl, rfl⟩))
    (fun os started H enc _ => lifted os started H enc)
/-- THE STATEMENT -/
theorem proved : Rows.FnTempIDsSaid := over
#print axioms proved
end Go.Proofs.Ytgoelmhaobloaaa.lawFnTempIDs
