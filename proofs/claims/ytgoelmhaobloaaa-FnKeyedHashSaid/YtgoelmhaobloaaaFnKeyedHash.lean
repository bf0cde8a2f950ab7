/-
  For all inputs (longer ones than 1048576 bytes the law passes by itself) the law on keyed hashes holds: the hash is that of the list with the key ahead and behind, changing one value modulo the prime changes it, and keys derived from strings are valid. No condition.
-/
import Derived.Test.YtgoelmhaobloaaaRows
import Derived.Test.YtgoelmhaobloaaaStr
import Derived.Test.YtgoelmhaobloaaaKh2
import Derived.Test.YtgoelmhaobloaaaDraw3
import Derived.RegionTactic
namespace Go.Proofs.Ytgoelmhaobloaaa.lawFnKeyedHash
open Go.Proofs.Ytgoelmhaobloaaa
open Go.ChangeShapes Go.WideShapes Go.ChangeAt Go.RowKit
open Go.ChangeMaps (open_string shut_string)
set_option linter.unusedVariables false

theorem wpList_append_rdg {P : Program} {w : World} {kd : IntKind} {ops : Array Oper} {rest : List Oper} {o : Oper} {a : Act} {Q : Exit → Act → World → Prop} (_ : True) (hwant : Region.wanted o (yielded ops a.tmps) = true) (s x : Operand) (t : TypeId)
    (ho : o.op = .call { callee := .builtin .append, args := #[s, x], argTypes := #[t, t] })
    (base : Nat) (e : TypeId) (i : TypeInfo) (z : Value) (bytes : Nat) (ht : P.underlying t = some (.slice e)) (hi : P.info? e = some i) (hz : i.zero = some z)
    (hsize : i.size = 1) (hby : i.bytes = bytes) (hzs : z.cells.size = 1)
    (v u : Value) (xs ys : List Int) (hs : a.eval s = v) (hown : Own e kd w base v xs) (hx : a.eval x = u) (hr : Rd kd w u ys)
    (h63 : xs.length + ys.length ≤ maxLen) (hbytes : (xs.length + ys.length) * bytes ≤ 140737488355328) (hbase : base ≤ w.heap.size)
    (h : ∀ v' w', Own e kd w' base v' (xs ++ ys) → w.grownBy w' v.ownBlock → wpList P ops Q rest (a.put o.dst v') w') : wpList P ops Q (o :: rest) a w :=
  wpList_step fun _ hK => by
    rw [if_pos hwant]
    exact wp_append_rd w s x t ho base e i z bytes ht hi hz hsize hby hzs v u xs ys hs hown hx hr h63 hbytes hbase fun v' w' h2 h3 => hK _ _ (h v' w' h2 h3)
theorem M.dfs_bd (k : Int) (s : ByteArray) : 1 ≤ M.dfs k s ∧ M.dfs k s < 2147483647 := by
  obtain ⟨q0, q1⟩ := M.kh_bd k ((s.size : Int) :: bytesOf s)
  exact M.pos1_bd _ q0 q1

set_option maxRecDepth 100000 in
set_option maxHeartbeats 8000000 in
theorem walk (v0 : Value) (z0 : List Int) (w : World) (r0 : Rd .u8 w v0 z0) (h0 : ∀ n ∈ z0, (Lit.int .u8 n).wf = true) :
    Calls Try.prog 11 #[v0] w fun e w' => e = .returned (.bool true) ∧ Below w.heap.size w w' := by
  obtain ⟨A0, c0, rfl, hc0, hm0, -⟩ := id r0
  unfold maxLen at hm0
  by_cases hl : z0.length ≤ 1048576
  · skip
    go_enter Try.func11, Try.ntmps11
    have B := Below.refl w.heap.size w
    go_wp2_with fail
    refine (laws_big _ _ _ _ hl).mono ?_
    rintro e w' ⟨rfl, rfl⟩
    go_wp2_with fail
    refine (spec_DrawKeyedHash _ z0 _ (r0.below B) h0 hl).mono ?_
    rintro e u1 ⟨k, vb, xs, rfl, qk, ob, lb, wb, b1⟩
    replace ob := ob.le B.size
    replace B := Below.next B b1
    clear b1
    obtain ⟨k0, k1⟩ := qk
    have hk := WalkArith.wf_i64 (n := k) (by omega)
    have hwx : ∀ z ∈ xs, (Lit.int .i64 z).wf = true := fun z hz => by obtain ⟨z0, z1⟩ := wb z hz; exact WalkArith.wf_i64 (by omega)
    obtain ⟨Ab, cb, rfl, hcb, hmb, -⟩ := id ob.rd
    unfold maxLen at hmb
    obtain ⟨i0, hi, hz0, hz1, hz2⟩ := info_parts infoIntDr
    obtain ⟨p0, p1⟩ := M.kh_bd k xs
    obtain ⟨h, hh⟩ : ∃ h, h = M.kh k xs := ⟨_, rfl⟩
    have HH := Lib.hid hh
    rw [← hh] at p0 p1
    clear hh
    have HB := Lib.hid ob
    have HW := Lib.hid hwx
    have HI := Lib.hid wb
    clear ob hwx wb
    go_wp2_with fail
    refine (impl_KeyedHash k _ xs _ hk HB.out.rd HW.out).mono ?_
    rw [← HH.out]
    rintro e w' ⟨rfl, rfl⟩
    have oa : Own 3 .i64 (u1.alloc (.cells #[.int .i64 k] 3)) u1.heap.size (.slice (some ⟨u1.heap.size, 0, none⟩) 1 1) [k] := Own.lit u1 u1.heap.size [k] (Nat.le_refl _) (by simp [maxLen])
    have ra := HB.out.rd.below (Below.al (Below.refl _ u1) (.cells #[.int .i64 k] 3))
    have zq := B.size
    go_wp2_with (first
      | (at_builtin
         refine wpList_append_rdg trivial (by go_simp) (.tmp 29) (.tmp 30) 22 rfl u1.heap.size 3 i0 (.int .i64 0) 8 Try.underlying22 hi hz0 hz1 hz2 rfl _ _ [k] xs rfl oa rfl ra (by simp [maxLen]; omega) (by simp; omega) (by simp) ?_
         intro v2 w2 hown2 hg2
         have B2 : Below u1.heap.size u1 w2 := Below.own (Below.al (Below.refl _ u1) _) hg2 oa (Nat.le_refl _)
         have sz2 := B2.size
         have HO := Lib.hid hown2
         clear hown2 hg2 oa ra
         have rc : Rd .i64 (w2.alloc (.cells #[.int .i64 k] 3)) (.slice (some ⟨w2.heap.size, 0, none⟩) 1 1) [k] := Rd.lit 3 w2 [k] (by simp [maxLen])
         have oc := HO.out.below (Below.al (Below.refl _ w2) (.cells #[.int .i64 k] 3)))
      | (at_builtin
         refine wpList_append_rdg trivial (by go_simp) (.tmp 31) (.tmp 33) 22 rfl u1.heap.size 3 i0 (.int .i64 0) 8 Try.underlying22 hi hz0 hz1 hz2 rfl _ _ ([k] ++ xs) [k] rfl oc rfl rc (by simp [maxLen]; omega) (by simp; omega) (by simp; omega) ?_
         intro v3 w3 hown3 hg3))
    have B3 : Below u1.heap.size u1 w3 := Below.own (Below.al B2 _) hg3 oc (Nat.le_refl _)
    have HP := Lib.hid hown3
    clear hown3 hg3 oc rc HO B2
    have hwl : ∀ z ∈ ([k] ++ xs) ++ [k], (Lit.int .i64 z).wf = true := by
      intro z hz
      simp at hz
      rcases hz with rfl | hz | rfl
      · exact hk
      · exact HW.out z hz
      · exact hk
    have HWL := Lib.hid hwl
    clear hwl
    replace HB := Lib.hid (HB.out.below B3)
    replace B := Below.next B B3
    clear B3 sz2
    go_wp2_with fail
    refine (impl_Hash _ _ _ HP.out.rd HWL.out).mono ?_
    rw [M.kh_hash, ← HH.out]
    rintro e w' ⟨rfl, rfl⟩
    clear HP HWL zq
    by_cases hx : xs.length = 0
    · obtain rfl : xs = [] := List.eq_nil_of_length_eq_zero hx
      clear hx HB
      go_wp2_with fail
      refine (spec_DrawDeriveFromString _ z0 _ (r0.below B) h0 hl).mono ?_
      rintro e u7 ⟨key, s, rfl, qk2, hs, b7⟩
      replace B := Below.next B b7
      clear b7
      obtain ⟨k2, k3⟩ := qk2
      go_wp2_with fail
      refine (impl_DeriveFromString key s _ (WalkArith.wf_i64 (by omega)) (by omega)).mono ?_
      rintro e u8 ⟨rfl, b8⟩
      replace B := Below.next B b8
      clear b8
      obtain ⟨d, hd⟩ : ∃ d, d = M.dfs key s := ⟨_, rfl⟩
      have hd2 : M.inR d 1 2147483646 = true := by
        obtain ⟨q0, q1⟩ := M.dfs_bd key s
        rw [hd]
        exact M.inR_true (by omega)
      rw [← hd]
      clear hd
      go_wp2_with fail
      refine (impl_IsValidKey _ _).mono ?_
      rw [hd2]
      rintro e w' ⟨rfl, rfl⟩
      go_wp2_with fail
      go_ret
      exact ⟨rfl, B⟩
    · have hx1 : 0 < xs.length := by omega
      clear hx
      have oa : Own 3 .i64 (w3.alloc (.cells #[] 3)) w3.heap.size (.slice (some ⟨w3.heap.size, 0, none⟩) 0 0) [] := Own.lit w3 w3.heap.size [] (Nat.le_refl _) (by simp [maxLen])
      have ra := HB.out.rd.below (Below.al (Below.refl _ w3) (.cells #[] 3))
      go_wp2_with (at_builtin; refine wpList_append_rd _ rfl (.tmp 41) (.tmp 42) 22 rfl w3.heap.size 3 i0 (.int .i64 0) 8 Try.underlying22 hi hz0 hz1 hz2 rfl _ _ [] xs rfl oa rfl ra (by simp [maxLen]; omega) (by simp; omega) (by simp) ?_; intro v4 w4 hown4 hg4)
      have B4 : Below w3.heap.size w3 w4 := Below.own (Below.al (Below.refl _ w3) _) hg4 oa (Nat.le_refl _)
      rw [List.nil_append] at hown4
      replace hown4 := hown4.le B.size
      replace B := Below.next B B4
      clear hg4 oa ra B4 HB
      rcases hown4.forms with ⟨_, he⟩ | ⟨g, cap, rfl, hbg, hgw, hcp, hcm⟩
      · exfalso; rw [he] at hx1; simp at hx1
      unfold maxLen at hcm
      have HO := Lib.hid hown4
      clear hown4
      obtain ⟨n, hn⟩ : ∃ n, n = xs.length := ⟨_, rfl⟩
      have HN := Lib.hid hn
      rw [← hn] at hx1 lb hcp HO hcb ⊢
      clear hn
      go_wp2_with fail
      refine (laws_at _ z0 0 _ (r0.below B) h0 hl (by omega)).mono ?_
      rintro e w' ⟨a, rfl, a0, a1, rfl⟩
      obtain ⟨j, hj⟩ : ∃ j : Nat, a % (n : Int) = (j : Int) := ⟨(a % (n : Int)).toNat, by have := Int.emod_nonneg a (show (n : Int) ≠ 0 by omega); omega⟩
      have hjn : j < n := by have := Int.emod_lt_of_pos a (show (0 : Int) < n by omega); omega
      have hnz : ¬ (n : Int) = 0 := by omega
      go_wp2_with fail
      rw [hj]
      clear hj a0 a1
      have hjx : j < xs.length := by rw [← HN.out]; exact hjn
      have c1 := HO.out.cellAt HN.out j hjx
      have c3 := HO.out.frozenAt HN.out j
      obtain ⟨x0, x1⟩ := HI.out _ (getD_mem xs j hjx)
      have HST : Hid (∀ y : Int, Own 3 .i64 (w4.setCell ⟨g, j, none⟩ (.int .i64 y)).drew w.heap.size (.slice (some ⟨g, 0, none⟩) n cap) (xs.set j y)) := Lib.hid (fun y => by
        have h := (Own.stored (w := w4) (by rw [← HN.out]; exact HO.out) j y).1
        rw [← HN.out] at h
        exact h)
      have HBS : Hid (∀ y : Int, Below w.heap.size w (w4.setCell ⟨g, j, none⟩ (.int .i64 y)).drew) := Lib.hid (fun y => Below.drew (Below.st B g j _ hbg))
      have hkh : Hid (∀ y : Int, y % 2147483647 ≠ xs.getD j 0 % 2147483647 → M.kh k (xs.set j y) ≠ h) := Lib.hid (fun y hy => by rw [HH.out]; exact M.kh_set hjx hy)
      have HWS : Hid (∀ y : Int, 0 ≤ y → y < 2147483647 → ∀ z ∈ xs.set j y, (Lit.int .i64 z).wf = true) := Lib.hid (fun y h1 h2 z hz => by
        rcases List.mem_or_eq_of_mem_set hz with h | h
        · exact HW.out z h
        · subst h; exact WalkArith.wf_i64 (by omega))
      have HR : Hid (Rd .u8 w4.drew (.slice A0 z0.length c0) z0) := Lib.hid (r0.below (Below.drew B))
      obtain ⟨x, hx⟩ : ∃ x, x = xs.getD j 0 := ⟨_, rfl⟩
      rw [← hx] at c1 x0 x1 hkh
      clear hx B HO hjx HW HI HH
      have i1 : (0 : Int) ≤ (j : Int) := by omega
      have i2 : (j : Int) < (n : Int) := by omega
      have hw1 : IntKind.i64.wrap (x + 1) = x + 1 := IntWalk.i64_in _ (by omega)
      go_region_law (first
        | (go_simp; go_at_call 40; refine (laws_at _ z0 1 _ HR.out h0 hl (by omega)).mono ?_; rintro e w' ⟨b, rfl, b0, b1, rfl⟩; have hw2 : IntKind.i64.wrap (x + 1 + b) = x + 1 + b := IntWalk.i64_in _ (by omega))
        | (go_simp; go_at_call 41; refine (spec_Mod (x + 1 + b) 2147483647 _ (WalkArith.wf_i64 (by omega)) (by decide)).mono ?_; rw [M.mod_in (by omega)]; rintro e w' ⟨rfl, rfl⟩))
      all_goals
        clear hw1 hw2
        obtain ⟨y, hy⟩ : ∃ y, y = (x + 1 + b) % 2147483647 := ⟨_, rfl⟩
        have hne := hkh.out y (by omega)
        have hy0 : 0 ≤ y ∧ y < 2147483647 := by omega
        rw [← hy]
        clear hy
        have HO := HST.out y
        have B := HBS.out y
        have HWY := Lib.hid (HWS.out y hy0.1 hy0.2)
        clear HST HBS hkh HWS HR c1 c3
        generalize (w4.setCell ⟨g, j, none⟩ (.int .i64 y)).drew = w5 at *
        go_wp2_with fail
        refine (impl_KeyedHash k _ (xs.set j y) _ hk (by have h := HO.rd; exact h) HWY.out).mono ?_
        have hbe : (M.kh k (xs.set j y) == h) = false := by simpa using hne
        rintro e w' ⟨rfl, rfl⟩
        clear HO HWY hne
        go_wp2_with fail
        refine (spec_DrawDeriveFromString _ z0 _ (r0.below B) h0 hl).mono ?_
        rintro e u7 ⟨key, s, rfl, qk2, hs, b7⟩
        replace B := Below.next B b7
        clear b7
        obtain ⟨k2, k3⟩ := qk2
        go_wp2_with fail
        refine (impl_DeriveFromString key s _ (WalkArith.wf_i64 (by omega)) (by omega)).mono ?_
        rintro e u8 ⟨rfl, b8⟩
        replace B := Below.next B b8
        clear b8
        obtain ⟨d, hd⟩ : ∃ d, d = M.dfs key s := ⟨_, rfl⟩
        have hd2 : M.inR d 1 2147483646 = true := by
          obtain ⟨q0, q1⟩ := M.dfs_bd key s
          rw [hd]
          exact M.inR_true (by omega)
        rw [← hd]
        clear hd
        go_wp2_with fail
        refine (impl_IsValidKey _ _).mono ?_
        rw [hd2]
        rintro e w' ⟨rfl, rfl⟩
        go_wp2_with fail
        go_ret
        exact ⟨rfl, B⟩
  · go_enter Try.func11, Try.ntmps11
    go_wp2_with fail
    refine (laws_big_yes _ _ _ _ (by omega)).mono ?_
    rintro e w' ⟨rfl, rfl⟩
    go_wp2_with fail
    go_ret
    exact ⟨rfl, Below.refl _ _⟩

/-! The row: the frame round the walk. -/
theorem own : ownKnob Try.prog.godebug = none := by kernel_rfl
theorem laidOut : laidOutB Try.prog = true := by kernel_rfl
set_option maxRecDepth 100000 in
theorem lifted (os : Os) (started : os.Started) (H : Type) (enc : TypeId × Value → H) :
    ReturnsInHanded {} Try.checked os 11 .any (Rows.fnKeyedHashSpec.pre6 enc Try.prog Try.f11 Rows.fnKeyedHashRow.domain false) (Rows.fnKeyedHashSpec.post enc Try.prog Try.f11 false true false false) := by
  refine returnsInHanded_of_change (C := Try.checked) own started (by kernel_rfl) Try.func11
    (ChangeSpec.witness6 (enc := enc) (C := Try.checked) false ⟨#[], #[.slice none 0 0], []⟩ 8 (by kernel_rfl) (by kernel_rfl) (by kernel_rfl) (by kernel_rfl)) ?_
  intro W base args ds gs before hval0 hW hcnd _
  have hval : ∀ (j : Nat) t v, Try.f11.params[j]? = some t → args[j]? = some v → Value.okWide Try.prog W .any base t v := hval0
  have hW' := hW
  obtain ⟨p, q, hA0, hV, rfl, hfz, hnd⟩ := hW
  have hA : DataW.TrodAll enc Try.prog W 0 (fun _ => true) true Try.f11.params.toList args.toList ds p := hA0
  rw [Try.params11] at hA hval
  obtain ⟨v0, vs0, d0, ds0, p0, q0, hargs, rfl, rfl, h0, rr0⟩ := trodAll_cons hA
  obtain ⟨rfl, rfl, rfl⟩ := trodAll_nil rr0
  obtain rfl : args = #[v0] := by cases args; simp_all
  obtain ⟨rfl, rfl⟩ := trodVars_none hV
  have k0 := h0
  have lt0 : ∀ x ∈ p0, x.block < W.heap.size := by obtain ⟨m, hm⟩ := k0; exact DataW.trod_lt m _ _ _ hm
  obtain ⟨a0, len0, cap0, rfl⟩ := okWide_slice Try.underlying40 (hval 0 40 v0 rfl rfl)
  obtain ⟨z0, _, r0, w0⟩ := rd_of_trod Try.underlying40 Try.underlying5 (by kernel_rfl) (fun _ => rfl) h0
  clear hA0 hval0
  refine (walk _ z0 W r0 w0).mono fun e W' ⟨he, bel⟩ => ?_
  subst he
  exact ⟨_, rfl, _, _, _, [], _, [], hW', trodAll_mk1 (shut_bool Try.underlying4 _), (trodAll_cons_mk (Below.trod laidOut (by kernel_rfl) (of_decide_eq_true (by kernel_rfl)) k0 bel lt0) trodAll_mk0), rfl, bel.frame _, fun h => by cases h⟩
theorem over : Rows.fnKeyedHashRow.holds Try.pinned (OpenSpec.ofChange Rows.fnKeyedHashSpec) :=
  OpenClaim.holds_of_wide 11 Try.f11 rfl rfl rfl rfl rfl rfl rfl ⟨rfl, rfl, rfl, rfl, rfl⟩ rfl rfl rfl rfl rfl (by kernel_rfl) Try.func11 (by kernel_rfl)
    (of_decide_eq_true (by kernel_rfl)) (by unfold Func.isWrapper; first | (rw [if_pos (by decide +kernel)]; kernel_rfl) | (rw [if_neg (by decide +kernel)]; exact ⟨rfl, rfl⟩))
    (fun os started H enc _ => lifted os started H enc)
/-- THE STATEMENT -/
theorem proved : Rows.FnKeyedHashSaid := over
#print axioms proved
end Go.Proofs.Ytgoelmhaobloaaa.lawFnKeyedHash
