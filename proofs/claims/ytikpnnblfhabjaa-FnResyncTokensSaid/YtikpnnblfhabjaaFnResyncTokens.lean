/-
  For all inputs (longer ones than 1048576 bytes the law passes by itself) the law on resynchronization tokens holds: a sequence number is recovered from its token; the next token is refused or means another number; a number out of range gives -1, which is refused. No condition.
-/
import Derived.Test.YtikpnnblfhabjaaRows
import Derived.Test.YtikpnnblfhabjaaAuth
import Derived.Test.YtikpnnblfhabjaaDraw3
namespace Go.Proofs.Ytikpnnblfhabjaa.lawFnResyncTokens
open Go.Proofs.Ytikpnnblfhabjaa
open Go.ChangeShapes Go.WideShapes Go.ChangeAt Go.RowKit
open Go.ChangeMaps (open_string shut_string)
set_option linter.unusedVariables false

section
open M
theorem token_in (k r : Int) {l : Int} (h : 0 ≤ l ∧ l ≤ 999999) : token k r l = 1000000 * (kh k [5, r, l] % 1000) + l := by unfold token; rw [if_pos (inR_true h)]
theorem token_out (k r : Int) {l : Int} (h : ¬ (0 ≤ l ∧ l ≤ 999999)) : token k r l = -1 := by unfold token; rw [if_neg (by rw [inR_false h]; simp)]
theorem parse_token (k r l : Int) (h : 0 ≤ l ∧ l ≤ 999999) : pOk k r (token k r l) = true ∧ pSeq k r (token k r l) = l := by
  have e : token k r l % 1000000 = l := by rw [token_in k r h]; omega
  have h1 : pOk k r (token k r l) = true := by unfold pOk; rw [e]; simp
  refine ⟨h1, ?_⟩
  unfold pSeq
  rw [if_pos h1, e]
theorem parse_neg (k r : Int) : pOk k r (-1) = false ∧ pSeq k r (-1) = 0 := by
  have e : token k r 999999 ≠ -1 := by rw [token_in k r (by omega)]; omega
  have h1 : pOk k r (-1) = false := by
    unfold pOk
    exact decide_eq_false e
  refine ⟨h1, ?_⟩
  unfold pSeq
  rw [h1]
  rfl
theorem parse_next (k r l : Int) (h : 0 ≤ l ∧ l ≤ 999999) : pOk k r (token k r l + 1) = true → pSeq k r (token k r l + 1) ≠ l := by
  intro h1
  unfold pSeq
  rw [if_pos h1, token_in k r h]
  omega
end

set_option maxRecDepth 100000 in
set_option maxHeartbeats 8000000 in
theorem walk (v0 : Value) (z0 : List Int) (w : World) (r0 : Rd .u8 w v0 z0) (h0 : ∀ n ∈ z0, (Lit.int .u8 n).wf = true) :
    Calls Try.prog 9 #[v0] w fun e w' => e = .returned (.bool true) ∧ Below w.heap.size w w' := by
  obtain ⟨A0, c0, rfl, hc0, hm0, -⟩ := id r0
  unfold maxLen at hm0
  by_cases hl : z0.length ≤ 1048576
  · skip
    go_enter Try.func9, Try.ntmps9
    have B := Below.refl w.heap.size w
    go_wp2_with fail
    refine (laws_big _ _ _ _ hl).mono ?_
    rintro e w' ⟨rfl, rfl⟩
    go_wp2_with fail
    refine (spec_DrawResyncToken _ z0 _ (r0.below B) h0 hl).mono ?_
    rintro e u1 ⟨k, r, s, rfl, qk, qr, qs, b1⟩
    replace B := Below.next B b1
    clear b1
    obtain ⟨k0, k1⟩ := qk
    obtain ⟨q0, q1⟩ := qr
    obtain ⟨s0, s1⟩ := qs
    have hk := WalkArith.wf_i64 (n := k) (by omega)
    have hr := WalkArith.wf_i64 (n := r) (by omega)
    have hs := WalkArith.wf_i64 (n := s) (by omega)
    obtain ⟨t0, t1⟩ := M.token_bd k r s
    have P1 := Lib.hid (parse_token k r s)
    have P2 := Lib.hid (parse_neg k r)
    have P3 := Lib.hid (parse_next k r s)
    obtain ⟨t, ht⟩ : ∃ t, t = M.token k r s := ⟨_, rfl⟩
    rw [← ht] at t0 t1 P1 P3
    have HT := Lib.hid ht
    clear ht
    have wt := WalkArith.wf_i64 (n := t) (by omega)
    have wt1 := WalkArith.wf_i64 (n := t + 1) (by omega)
    go_wp2_with fail
    refine (impl_ResyncToken k r s _ hk hr hs).mono ?_
    rw [← HT.out]
    rintro e u2 ⟨rfl, b2⟩
    replace B := Below.next B b2
    clear b2
    by_cases hin : 0 ≤ s ∧ s ≤ 999999
    · skip
      obtain ⟨i0, i1⟩ := hin
      obtain ⟨e1, e2⟩ := P1.out ⟨i0, i1⟩
      have HE1 := Lib.hid e1
      have HE2 := Lib.hid e2
      clear e1 e2
      go_wp2_with fail
      refine (impl_ParseResyncToken k r t _ hk hr wt).mono ?_
      rw [HE1.out, HE2.out]
      rintro e u3 ⟨rfl, b3⟩
      replace B := Below.next B b3
      clear b3
      go_wp2_with fail
      refine (impl_ParseResyncToken k r (t + 1) _ hk hr wt1).mono ?_
      have N3 := P3.out ⟨i0, i1⟩
      obtain ⟨x, hx⟩ : ∃ x, x = M.pSeq k r (t + 1) := ⟨_, rfl⟩
      obtain ⟨y, hy⟩ : ∃ y, y = M.pOk k r (t + 1) := ⟨_, rfl⟩
      rw [← hx, ← hy] at N3 ⊢
      clear hx hy
      rintro e u4 ⟨rfl, b4⟩
      replace B := Below.next B b4
      clear b4
      have HN := Lib.hid N3
      clear N3
      go_wp2_with fail
      refine (impl_ParseResyncToken k r (-1) _ hk hr (by decide)).mono ?_
      rw [P2.out.1]
      rintro e u5 ⟨rfl, b5⟩
      replace B := Below.next B b5
      clear b5
      cases y with
      | false =>
        go_wp2_with fail
        go_ret
        exact ⟨rfl, B⟩
      | true =>
        have hne : (x != s) = true := by have := HN.out rfl; simpa using this
        go_wp2_with fail
        go_ret
        exact ⟨by simp, B⟩
    · skip
      have e3 := token_out k r hin
      rw [← HT.out] at e3
      subst e3
      by_cases hn : s < 0
      all_goals
        try have hn1 : 999999 < s := by omega
        clear hin
        go_wp2_with fail
        refine (impl_ParseResyncToken k r (-1) _ hk hr wt).mono ?_
        rw [P2.out.1, P2.out.2]
        rintro e u3 ⟨rfl, b3⟩
        replace B := Below.next B b3
        clear b3
        go_wp2_with fail
        go_ret
        exact ⟨rfl, B⟩
  · go_enter Try.func9, Try.ntmps9
    go_wp2_with fail
    refine (laws_big_yes _ _ _ _ (by omega)).mono ?_
    rintro e w' ⟨rfl, rfl⟩
    go_wp2_with fail
    go_ret
    exact ⟨rfl, Below.refl _ _⟩

/-! The row: the frame round the walk. -/
theorem own : ownKnob Try.prog.godebug = none := by kernel_rfl
theorem laidOut : laidOutB Try.prog = true := by kernel_rfl
set_option maxRecDepth 100000 in
theorem lifted (os : Os) (started : os.Started) (H : Type) (enc : TypeId × Value → H) :
    ReturnsInHanded {} Try.checked os 9 .any (Rows.fnResyncTokensSpec.pre6 enc Try.prog Try.f9 Rows.fnResyncTokensRow.domain false) (Rows.fnResyncTokensSpec.post enc Try.prog Try.f9 false true false false) := by
  refine returnsInHanded_of_change (C := Try.checked) own started (by kernel_rfl) Try.func9
    (ChangeSpec.witness6 (enc := enc) (C := Try.checked) false ⟨#[], #[.slice none 0 0], []⟩ 8 (by kernel_rfl) (by kernel_rfl) (by kernel_rfl) (by kernel_rfl)) ?_
  intro W base args ds gs before hval0 hW hcnd _
  have hval : ∀ (j : Nat) t v, Try.f9.params[j]? = some t → args[j]? = some v → Value.okWide Try.prog W .any base t v := hval0
  have hW' := hW
  obtain ⟨p, q, hA0, hV, rfl, hfz, hnd⟩ := hW
  have hA : DataW.TrodAll enc Try.prog W 0 (fun _ => true) true Try.f9.params.toList args.toList ds p := hA0
  rw [Try.params9] at hA hval
  obtain ⟨v0, vs0, d0, ds0, p0, q0, hargs, rfl, rfl, h0, rr0⟩ := trodAll_cons hA
  obtain ⟨rfl, rfl, rfl⟩ := trodAll_nil rr0
  obtain rfl : args = #[v0] := by cases args; simp_all
  obtain ⟨rfl, rfl⟩ := trodVars_none hV
  have k0 := h0
  have lt0 : ∀ x ∈ p0, x.block < W.heap.size := by obtain ⟨m, hm⟩ := k0; exact DataW.trod_lt m _ _ _ hm
  obtain ⟨a0, len0, cap0, rfl⟩ := okWide_slice Try.underlying49 (hval 0 49 v0 rfl rfl)
  obtain ⟨z0, _, r0, w0⟩ := rd_of_trod Try.underlying49 Try.underlying5 (by kernel_rfl) (fun _ => rfl) h0
  clear hA0 hval0
  refine (walk _ z0 W r0 w0).mono fun e W' ⟨he, bel⟩ => ?_
  subst he
  exact ⟨_, rfl, _, _, _, [], _, [], hW', trodAll_mk1 (shut_bool Try.underlying4 _), (trodAll_cons_mk (Below.trod laidOut (by kernel_rfl) (of_decide_eq_true (by kernel_rfl)) k0 bel lt0) trodAll_mk0), rfl, bel.frame _, fun h => by cases h⟩
theorem over : Rows.fnResyncTokensRow.holds Try.pinned (OpenSpec.ofChange Rows.fnResyncTokensSpec) :=
  OpenClaim.holds_of_wide 9 Try.f9 rfl rfl rfl rfl rfl rfl rfl ⟨rfl, rfl, rfl, rfl, rfl⟩ rfl rfl rfl rfl rfl (by kernel_rfl) Try.func9 (by kernel_rfl)
    (of_decide_eq_true (by kernel_rfl)) (by unfold Func.isWrapper; first | (rw [if_pos (by decide +kernel)]; kernel_rfl) | (rw [if_neg (by decide +kernel)]; exact ⟨rfl, rfl⟩))
    (fun os started H enc _ => lifted os started H enc)
/-- THE STATEMENT -/
theorem proved : Rows.FnResyncTokensSaid := over
#print axioms proved
end Go.Proofs.Ytikpnnblfhabjaa.lawFnResyncTokens
