/-
  Contracts: the inputs drawn for the laws on varints and byte strings; a byte of the input; the input's size.
-/
import Derived.Test.YtpkaffnmoebgiaaDraw2
import Derived.Test.YtpkaffnmoebgiaaVarA
namespace Go.Proofs.Ytpkaffnmoebgiaa
open Go.RowKit

def WfB (xs : List Int) : Prop := ∀ z ∈ xs, (Lit.int .u8 z).wf = true
theorem WfB.bd {xs : List Int} (h : WfB xs) : ∀ z ∈ xs, 0 ≤ z ∧ z ≤ 255 := fun z hz => bounds_u8 (h z hz)
theorem WfB.nil : WfB [] := by simp [WfB]
theorem WfB.app {xs ys : List Int} (h : WfB xs) (k : WfB ys) : WfB (xs ++ ys) := fun z hz => (List.mem_append.1 hz).elim (h z) (k z)
theorem WfB.of {xs : List Int} (h : ∀ z ∈ xs, 0 ≤ z ∧ z ≤ 255) : WfB xs := fun z hz => WalkArith.wf_u8 (h z hz)

/-- Bytes and a number, drawn. -/
def DrewVar (w : World) (e : Ending) (w' : World) : Prop :=
  ∃ v xs n, e = .returned (.tuple #[v, .int .i64 n]) ∧ Own 5 .u8 w' w.heap.size v xs ∧ xs.length ≤ 1000 ∧ WfB xs ∧ WfI n ∧ Below w.heap.size w w'
set_option maxRecDepth 100000 in
set_option maxHeartbeats 4000000 in
theorem spec_DrawAppendUvarint (va : Value) (zs : List Int) (w : World) (ha : Rd .u8 w va zs) (hw : ∀ z ∈ zs, (Lit.int .u8 z).wf = true) (hlen : zs.length ≤ 1048576) :
    Calls Try.prog 42 #[va] w (DrewVar w) := by
  go_enter Try.func42, Try.ntmps42
  go_wp2_with fail
  refine (spec_l1New _ _ _ ha hw hlen).mono ?_
  rintro e w0 ⟨g, rfl, hc0, hg, B⟩
  go_wp2_with fail
  refine (spec_l1Below _ _ 3 _ (by omega) hc0).mono ?_
  rintro e w1 ⟨x, qx, rfl, hc1, ho1⟩
  replace B := Only.below B ho1 hg
  obtain ⟨x0, x1⟩ := qx.bd (by omega)
  clear qx
  obtain ⟨m, rfl⟩ : ∃ m : Nat, x = (m : Int) := ⟨x.toNat, by omega⟩
  go_wp2_with fail
  refine (spec_l1Bytes _ _ m _ (by omega) hc1).mono ?_
  rintro e w2 ⟨vb, xb, rfl, ob, lb, xbw, hc2, ho2⟩
  have gb := hc1.lt
  have zb := B.size
  replace B := Only.below B ho2 hg
  go_wp2_with fail
  refine (spec_l1One _ _ _ hc2).mono ?_
  rintro e w3 ⟨y, qy, rfl, hc3, ho3⟩
  replace ob := ho3.own ob gb
  replace B := Only.below B ho3 hg
  replace ob := ob.le zb
  have HO := Lib.hid ob
  clear ob
  go_wp2_with fail
  go_ret2
  exact ⟨_, xb, y, rfl, HO.out, by omega, xbw, qy, B⟩

/-- Two byte strings, drawn. -/
def DrewTwo (w : World) (e : Ending) (w' : World) : Prop :=
  ∃ v u xs ys, e = .returned (.tuple #[v, u]) ∧ Own 5 .u8 w' w.heap.size v xs ∧ xs.length ≤ 1000 ∧ WfB xs ∧ Own 5 .u8 w' w.heap.size u ys ∧ ys.length ≤ 1000 ∧ WfB ys ∧ Below w.heap.size w w'
set_option maxRecDepth 100000 in
set_option maxHeartbeats 4000000 in
theorem spec_DrawAppendBytes (va : Value) (zs : List Int) (w : World) (ha : Rd .u8 w va zs) (hw : ∀ z ∈ zs, (Lit.int .u8 z).wf = true) (hlen : zs.length ≤ 1048576) :
    Calls Try.prog 38 #[va] w (DrewTwo w) := by
  go_enter Try.func38, Try.ntmps38
  go_wp2_with fail
  refine (spec_l1New _ _ _ ha hw hlen).mono ?_
  rintro e w0 ⟨g, rfl, hc0, hg, B⟩
  go_wp2_with fail
  refine (spec_l1Below _ _ 3 _ (by omega) hc0).mono ?_
  rintro e w1 ⟨x, qx, rfl, hc1, ho1⟩
  replace B := Only.below B ho1 hg
  obtain ⟨x0, x1⟩ := qx.bd (by omega)
  clear qx
  obtain ⟨m, rfl⟩ : ∃ m : Nat, x = (m : Int) := ⟨x.toNat, by omega⟩
  go_wp2_with fail
  refine (spec_l1Bytes _ _ m _ (by omega) hc1).mono ?_
  rintro e w2 ⟨vb, xb, rfl, ob, lb, xbw, hc2, ho2⟩
  have gb := hc1.lt
  have zb := B.size
  replace B := Only.below B ho2 hg
  go_wp2_with fail
  refine (spec_l1Below _ _ 6 _ (by omega) hc2).mono ?_
  rintro e w3 ⟨y, qy, rfl, hc3, ho3⟩
  replace ob := ho3.own ob gb
  replace B := Only.below B ho3 hg
  obtain ⟨y0, y1⟩ := qy.bd (by omega)
  clear qy
  obtain ⟨p, rfl⟩ : ∃ m : Nat, y = (m : Int) := ⟨y.toNat, by omega⟩
  go_wp2_with fail
  refine (spec_l1Bytes _ _ p _ (by omega) hc3).mono ?_
  rintro e w4 ⟨vd, xd, rfl, od, ld, xdw, hc4, ho4⟩
  have gd := hc3.lt
  have zd := B.size
  replace ob := ho4.own ob gb
  replace B := Only.below B ho4 hg
  replace ob := ob.le zb
  replace od := od.le zd
  have HO := Lib.hid ob
  have HP := Lib.hid od
  clear ob od
  go_wp2_with fail
  go_ret2
  exact ⟨_, _, xb, xd, rfl, HO.out, by omega, xbw, HP.out, by omega, xdw, B⟩


set_option maxRecDepth 100000 in
set_option maxHeartbeats 4000000 in
theorem spec_DrawReadUvarint (va : Value) (zs : List Int) (w : World) (ha : Rd .u8 w va zs) (hw : ∀ z ∈ zs, (Lit.int .u8 z).wf = true) (hlen : zs.length ≤ 1048576) :
    Calls Try.prog 43 #[va] w (DrewVar w) := by
  go_enter Try.func43, Try.ntmps43
  go_wp2_with fail
  refine (spec_l1New _ _ _ ha hw hlen).mono ?_
  rintro e w0 ⟨g, rfl, hc0, hg, B⟩
  go_wp2_with fail
  refine (spec_l1Once _ _ 2 _ (by omega) hc0).mono ?_
  rintro e w1 ⟨b, rfl, hc1, ho1⟩
  replace B := Only.below B ho1 hg
  cases b
  · have ho0 : Own 5 .u8 (w1.alloc (.cells #[] 5)) w1.heap.size (.slice (some ⟨w1.heap.size, 0, none⟩) 0 0) [] := Own.lit w1 w1.heap.size [] (Nat.le_refl _) (by simp [maxLen])
    have hca := hc1.al (.cells #[] 5)
    have Ba := Below.al B (.cells #[] 5)
    have gq := hc1.lt
    have zq := B.size
    go_wp2_with fail
    refine (spec_l1Below _ _ 8 _ (by omega) hca).mono ?_
    rintro e w2 ⟨x, qx, rfl, hc2, ho2⟩
    obtain ⟨x0, x1⟩ := qx.bd (by omega)
    clear qx
    obtain ⟨m, rfl⟩ : ∃ m : Nat, x = (m : Int) := ⟨x.toNat, by omega⟩
    have oq := ho2.own ho0 gq
    have B2 := Only.below Ba ho2 hg
    have hz12 : w1.heap.size ≤ w2.heap.size := by have := ho2.size; simp at this; omega
    have HQ := Lib.hid oq
    clear oq ho0 hca Ba ho2
    obtain ⟨i0, hi, hz0, hz1, hz2⟩ := info_parts infoByteDr
    go_wp2_with fail
    obtain ⟨bs, hbs⟩ : ∃ bs, bs = w1.heap.size := ⟨_, rfl⟩
    rw [← hbs] at gq zq HQ
    have HB := Lib.hid hbs
    clear hbs
    go_loopw [5, 6] (fun v i wr => ∃ (k : Nat) (xs : List Int), i = .int .i64 k ∧ k ≤ 7 ∧ xs.length + k ≤ 7 ∧ WfB xs ∧ Own 5 .u8 wr bs v xs ∧ Cur wr g zs ∧ Below w.heap.size w wr ∧ bs ≤ wr.heap.size) (fun _ i _ => (intOf i).toNat)
    case atStart => exact ⟨m, [], rfl, by omega, by simp; omega, WfB.nil, by have h := HQ.out; rw [HB.out] at h ⊢; exact h, hc2, B2, by rw [HB.out]; exact hz12⟩
    case round =>
      clear HQ hc2 B2 HB
      obtain ⟨k, xs, rfl, hk, hl, hwx, hown, hcr, hbel, hbz⟩ := hrel
      have HX := Lib.hid hwx
      clear hwx
      by_cases hlt : k = 0
      · subst hlt
        have HO := Lib.hid hown
        clear hown
        go_wp2_with fail
        refine (spec_l1Below _ _ 4 _ (by omega) hcr).mono ?_
        rintro e w3 ⟨y, qy, rfl, hc3, ho3⟩
        obtain ⟨y0, y1⟩ := qy.bd (by omega)
        clear qy
        have oy := (ho3.own HO.out gq).le zq
        have HY := Lib.hid oy
        clear oy HO
        have B3 := Only.below hbel ho3 hg
        go_wp2_with fail
        go_ret2
        exact ⟨_, xs, _, rfl, HY.out, by omega, HX.out, WalkArith.wf_i64 (by omega), B3⟩
      · have hk1 : (0 : Int) < k := by omega
        go_wp2_with fail
        refine (spec_l1Int_lit _ _ [128, 255, 0, 1, 127] _ hcr (by decide) (by decide)).mono ?_
        rintro e w3 ⟨y, qy, rfl, hc3, ho3⟩
        obtain ⟨y0, y1⟩ : 0 ≤ y ∧ y ≤ 255 := mem_in (by decide) qy
        clear qy
        have oy := ho3.own hown gq
        have B3 := Only.below hbel ho3 hg
        have hbs3 : bs ≤ w3.heap.size := by have := ho3.size; omega
        have hl1 : Rd .u8 (w3.alloc (.cells #[.int .u8 y] 5)) (.slice (some ⟨w3.heap.size, 0, none⟩) 1 1) [y] := Rd.lit 5 w3 [y] (by simp [maxLen])
        have how := oy.below (Below.al (Below.refl _ w3) (.cells #[.int .u8 y] 5))
        have hca := hc3.al (.cells #[.int .u8 y] 5)
        have Ba := Below.al B3 (.cells #[.int .u8 y] 5)
        go_wp2_with (at_builtin; refine wpList_append_rd _ rfl (.tmp 23) (.tmp 28) 22 rfl bs 5 i0 (.int .u8 0) 1 Try.underlying22 hi hz0 hz1 hz2 rfl _ _ xs [y] rfl how rfl hl1 (by simp [maxLen]; omega) (by simp; omega) (by simp; omega) ?_; intro v2 w4 hown2 hg2)
        have hc4 := hca.grown hg2 how gq
        have B4 := Below.own Ba hg2 how zq
        have HO := Lib.hid hown2
        have HX2 := Lib.hid (HX.out.app (WfB.of (xs := [y]) (by intro z hz; simp at hz; subst hz; omega)))
        clear hown2 how hl1 oy hown
        go_wp2
        go_roundw
        case rel => exact ⟨k - 1, _, by go_num, by omega, by simp; omega, HX2.out, HO.out, hc4, B4, by have := hg2.size; simp at this; omega⟩
        case measure => simp [intOf]; omega
  · go_wp2_with fail
    refine (spec_l1Bytes _ _ 1 _ (by omega) hc1).mono ?_
    rintro e w2 ⟨vq, xq, rfl, oq, lq, xqw, hc2, ho2⟩
    have gq := hc1.lt
    have zq := B.size
    replace B := Only.below B ho2 hg
    go_wp2_with fail
    refine (spec_l1Num _ _ _ hc2).mono ?_
    rintro e w3 ⟨y, qy, rfl, hc3, ho3⟩
    replace oq := ho3.own oq gq
    replace B := Only.below B ho3 hg
    obtain ⟨y0, y1⟩ := qy
    have hu := uvO_len y
    go_wp2_with fail
    refine (spec_AppendUvarint _ xq y _ oq.rd (WalkArith.wf_i64 (by omega)) (by omega)).mono ?_
    rintro e w4 ⟨v4, rfl, o4, b4⟩
    replace o4 := o4.le B.size
    have B4 := Below.next B b4
    have HO := Lib.hid o4
    clear o4 oq
    go_wp2_with fail
    go_ret2
    exact ⟨_, _, _, rfl, HO.out, by simp; omega, WfB.app xqw (WfB.of (uvO_bd y)), WalkArith.wf_i64 (by omega), B4⟩

theorem laws_big (A : Option Addr) (n c : Nat) (w : World) (h : n ≤ 1048576) : Calls Try.prog 37 #[.slice A n c] w fun e w' => e = .returned (.bool false) ∧ w = w' := by
  go_enter Try.func37, Try.ntmps37
  go_wp2
  go_ret
  exact ⟨by simp; omega, rfl⟩
theorem laws_big_yes (A : Option Addr) (n c : Nat) (w : World) (h : 1048576 < n) : Calls Try.prog 37 #[.slice A n c] w fun e w' => e = .returned (.bool true) ∧ w = w' := by
  go_enter Try.func37, Try.ntmps37
  go_wp2
  go_ret
  exact ⟨by simp; omega, rfl⟩
/-- A byte of the input, or what stands in for it. -/
def ByteOf (w : World) (e : Ending) (w' : World) : Prop := ∃ n : Int, e = .returned (.int .i64 n) ∧ 0 ≤ n ∧ n ≤ 255 ∧ w = w'
theorem laws_at (va : Value) (zs : List Int) (k : Nat) (w : World) (ha : Rd .u8 w va zs) (hw : ∀ z ∈ zs, (Lit.int .u8 z).wf = true) (hlen : zs.length ≤ 1048576) (hk : k ≤ 1000) :
    Calls Try.prog 40 #[va, .int .i64 (k : Int)] w (ByteOf w) := by
  obtain ⟨A, c, rfl, h1, h2, h3⟩ := ha
  by_cases hlt : k < zs.length
  · obtain ⟨b, off, rfl, hbw, hcell⟩ := h3 (by omega)
    have c1 := hcell k hlt
    obtain ⟨x0, x1⟩ := bounds_u8 (hw _ (getD_mem zs k hlt))
    generalize zs.getD k 0 = x at *
    generalize zs.length = n at *
    clear hcell h3 hw
    go_enter Try.func40, Try.ntmps40
    go_wp2
    go_ret
    exact ⟨_, rfl, by omega, by omega, rfl⟩
  · generalize zs.length = n at *
    clear h3 hw
    go_enter Try.func40, Try.ntmps40
    go_wp2
    go_ret
    exact ⟨_, rfl, by omega, by omega, rfl⟩

end Go.Proofs.Ytpkaffnmoebgiaa
