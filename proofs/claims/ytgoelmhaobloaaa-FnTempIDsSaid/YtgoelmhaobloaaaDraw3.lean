/-
  Contracts: the inputs drawn for the laws on keys, hashes and tokens; a byte of the input; the input's size.
-/
import Derived.Test.YtgoelmhaobloaaaDraw2
namespace Go.Proofs.Ytgoelmhaobloaaa
open Go.RowKit

def WfB (xs : List Int) : Prop := ∀ z ∈ xs, (Lit.int .u8 z).wf = true
theorem WfB.bd {xs : List Int} (h : WfB xs) : ∀ z ∈ xs, 0 ≤ z ∧ z ≤ 255 := fun z hz => bounds_u8 (h z hz)
theorem WfB.nil : WfB [] := by simp [WfB]
theorem WfB.of {xs : List Int} (h : ∀ z ∈ xs, 0 ≤ z ∧ z ≤ 255) : WfB xs := fun z hz => WalkArith.wf_u8 (h z hz)

def shortStr (v : Value) : Bool := match v with | .string s => decide (s.size ≤ 20) | _ => false
theorem shortStr_of {v : Value} (h : shortStr v = true) : ∃ s, v = .string s ∧ s.size ≤ 20 := by
  cases v <;> simp [shortStr] at h
  exact ⟨_, rfl, h⟩
/-- A string drawn: short. -/
def DrewS (g : Nat) (zs : List Int) (w : World) (e : Ending) (w' : World) : Prop :=
  ∃ s : ByteArray, e = .returned (.string s) ∧ s.size ≤ 20 ∧ Cur w' g zs ∧ Only g w w'
set_option maxHeartbeats 1000000 in
theorem spec_l1Str_lit (g : Nat) (zs : List Int) (cs : Array Value) (n : Nat) (w : World) (hc : Cur w g zs) (hp : 0 < n) (hl : n ≤ 1000) (hs0 : (List.range n).all (fun j => match cs[j]? with | some v => shortStr v | none => false) = true) :
    Calls Try.prog 63 #[.pointer (some ⟨g, 0, none⟩), .slice (some ⟨w.heap.size, 0, none⟩) n n] (w.alloc (.cells cs 9)) (DrewS g zs w) := by
  have hs : ∀ j, j < n → ∃ v, cs[j]? = some v ∧ shortStr v = true := by
    intro j hj
    have := List.all_eq_true.1 hs0 j (List.mem_range.2 hj)
    cases e : cs[j]? with
    | none => rw [e] at this; cases this
    | some v => rw [e] at this; exact ⟨v, rfl, this⟩
  clear hs0
  have hc0 := hc.al (.cells cs 9)
  have ho0 := (Only.refl g w).al (.cells cs 9)
  have hne : w.heap.size ≠ g := by have := hc.lt; omega
  have hblk : (w.alloc (.cells cs 9)).heap[w.heap.size]? = some (.cells cs 9 (0, 0)) := heap_alloc_new w _
  have HS := Lib.hid hs
  have HB := Lib.hid hblk
  obtain ⟨q, hq⟩ : ∃ q, q = w.heap.size := ⟨_, rfl⟩
  rw [← hq] at hne HB ⊢
  clear hs hblk hc hq
  obtain ⟨u, hu⟩ : ∃ u, u = w.alloc (.cells cs 9) := ⟨_, rfl⟩
  rw [← hu] at hc0 ho0 HB ⊢
  clear hu
  go_enter Try.func63, Try.ntmps63
  go_wp2_with fail
  refine (spec_l1Below _ _ _ _ (by omega) hc0).mono ?_
  rintro e w1 ⟨x, hx, rfl, hc1, ho1⟩
  have hx0 : 0 ≤ x := hx.1
  have hx1 : x < n := by rcases hx.2 with h | ⟨h, _⟩ <;> omega
  obtain ⟨j, rfl⟩ : ∃ j : Nat, x = (j : Int) := ⟨x.toNat, by omega⟩
  have hj : j < n := by omega
  obtain ⟨v, hv, hsv⟩ := HS.out j hj
  obtain ⟨s, rfl, hss⟩ := shortStr_of hsv
  have cb : w1.cell? ⟨q, j, none⟩ = some (.string s) := by
    refine (ho1.cell (?_ : u.cell? ⟨q, j, none⟩ = some (.string s)) (by simp; exact hne))
    rw [cell_of_row u q j cs _ (0, 0) HB.out]
    exact hv
  clear hx hv hsv HS HB
  go_wp2_with fail
  go_ret
  exact ⟨s, rfl, hss, hc1, ho0.trans ho1⟩

set_option maxRecDepth 100000 in
set_option maxHeartbeats 2000000 in
theorem spec_l3Words (g : Nat) (zs : List Int) (w : World) (hc : Cur w g zs) :
    Calls Try.prog 61 #[.pointer (some ⟨g, 0, none⟩)] w (DrewL (InI (-1) 2147483648) 4 g zs w) := by
  obtain ⟨i0, hi, hz0, hz1, hz2⟩ := info_parts infoIntDr
  have hgw := hc.lt
  have ho0 : Own 3 .i64 (w.alloc (.cells #[] 3)) w.heap.size (.slice (some ⟨w.heap.size, 0, none⟩) 0 0) [] := Own.lit w w.heap.size [] (Nat.le_refl _) (by simp [maxLen])
  have hca := hc.al (.cells #[] 3)
  have hoa := (Only.refl g w).al (.cells #[] 3)
  go_enter Try.func61, Try.ntmps61
  go_wp2_with fail
  refine (spec_l1Below _ _ 5 _ (by omega) hca).mono ?_
  rintro e w1 ⟨x, qx, rfl, hc1, ho1⟩
  obtain ⟨x0, x1⟩ := qx.bd (by omega)
  clear qx
  obtain ⟨m, rfl⟩ : ∃ m : Nat, x = (m : Int) := ⟨x.toNat, by omega⟩
  have HO := Lib.hid (ho1.own ho0 hgw)
  have hor1 := hoa.trans ho1
  have hzw : w.heap.size ≤ w1.heap.size := by have := hor1.size; omega
  clear ho0 hca hoa ho1
  go_wp2_with fail
  go_loopw [3, 4] (fun v i wr => ∃ (k : Nat) (xs : List Int), i = .int .i64 k ∧ k ≤ 4 ∧ xs.length + k ≤ 4 ∧ (∀ z ∈ xs, InI (-1) 2147483648 z) ∧ Own 3 .i64 wr w.heap.size v xs ∧ Cur wr g zs ∧ Only g w wr) (fun _ i _ => (intOf i).toNat)
  case atStart => exact ⟨m, [], rfl, by omega, by simp; omega, by simp, HO.out, hc1, hor1⟩
  case round =>
    clear HO hc1 hor1
    obtain ⟨k, xs, rfl, hk, hl, hwx, hown, hcr, hor⟩ := hrel
    have HX := Lib.hid hwx
    clear hwx
    by_cases hlt : k = 0
    · subst hlt
      have HO := Lib.hid hown
      clear hown
      go_wp2_with fail
      go_ret
      exact ⟨_, xs, rfl, HO.out, by omega, HX.out, hcr, hor⟩
    · have hk1 : (0 : Int) < k := by omega
      go_wp2_with fail
      refine (spec_l3Word _ _ _ hcr).mono ?_
      rintro e w2 ⟨y, qy, rfl, hc2, ho2⟩
      have oy := ho2.own hown hgw
      have hor2 := hor.trans ho2
      have hl1 : Rd .i64 (w2.alloc (.cells #[.int .i64 y] 3)) (.slice (some ⟨w2.heap.size, 0, none⟩) 1 1) [y] := Rd.lit 3 w2 [y] (by simp [maxLen])
      have how := oy.below (Below.al (Below.refl _ w2) (.cells #[.int .i64 y] 3))
      have hca := hc2.al (.cells #[.int .i64 y] 3)
      have hoa := hor2.al (.cells #[.int .i64 y] 3)
      go_wp2_with (at_builtin; refine wpList_append_rd _ rfl (.tmp 12) (.tmp 15) 22 rfl w.heap.size 3 i0 (.int .i64 0) 8 Try.underlying22 hi hz0 hz1 hz2 rfl _ _ xs [y] rfl how rfl hl1 (by simp [maxLen]; omega) (by simp; omega) (by have := hoa.size; simp; simp at this; omega) ?_; intro v2 w4 hown2 hg2)
      have hc4 := hca.grown hg2 how hgw
      have hor4 := hoa.grown hg2 how (Nat.le_refl _)
      have HO := Lib.hid hown2
      have HX2 : Hid (∀ z ∈ xs ++ [y], InI (-1) 2147483648 z) := Lib.hid (by
        intro z hz
        rcases List.mem_append.1 hz with h | h
        · exact HX.out z h
        · simp at h; subst h; exact qy)
      clear hown2 how hl1 oy hown qy
      go_wp2
      go_roundw
      case rel => exact ⟨k - 1, _, by go_num, by omega, by simp; omega, HX2.out, HO.out, hc4, hor4⟩
      case measure => simp [intOf]; omega



/-- A key and bytes, drawn. -/
def DrewEnc (w : World) (e : Ending) (w' : World) : Prop :=
  ∃ k v xs, e = .returned (.tuple #[.int .i64 k, v]) ∧ InI (-1) 2147483648 k ∧ Own 5 .u8 w' w.heap.size v xs ∧ xs.length ≤ 1000 ∧ WfB xs ∧ Below w.heap.size w w'
set_option maxRecDepth 100000 in
set_option maxHeartbeats 4000000 in
theorem spec_DrawEncrypt (va : Value) (zs : List Int) (w : World) (ha : Rd .u8 w va zs) (hw : ∀ z ∈ zs, (Lit.int .u8 z).wf = true) (hlen : zs.length ≤ 1048576) :
    Calls Try.prog 37 #[va] w (DrewEnc w) := by
  go_enter Try.func37, Try.ntmps37
  go_wp2_with fail
  refine (spec_l1New _ _ _ ha hw hlen).mono ?_
  rintro e w0 ⟨g, rfl, hc0, hg, B⟩
  go_wp2_with fail
  refine (spec_l3Word _ _ _ hc0).mono ?_
  rintro e w1 ⟨k, qk, rfl, hc1, ho1⟩
  replace B := Only.below B ho1 hg
  go_wp2_with fail
  refine (spec_l1Below _ _ 8 _ (by omega) hc1).mono ?_
  rintro e w2 ⟨x, qx, rfl, hc2, ho2⟩
  replace B := Only.below B ho2 hg
  obtain ⟨x0, x1⟩ := qx.bd (by omega)
  clear qx
  obtain ⟨m, rfl⟩ : ∃ m : Nat, x = (m : Int) := ⟨x.toNat, by omega⟩
  go_wp2_with fail
  refine (spec_l1Bytes _ _ m _ (by omega) hc2).mono ?_
  rintro e w3 ⟨vb, xb, rfl, ob, lb, xbw, hc3, ho3⟩
  have gb := hc2.lt
  have zb := B.size
  replace B := Only.below B ho3 hg
  replace ob := ob.le zb
  have HO := Lib.hid ob
  clear ob
  go_wp2_with fail
  go_ret2
  exact ⟨k, _, xb, rfl, qk, HO.out, by omega, xbw, B⟩

/-- A key and numbers, drawn. -/
def DrewKh (w : World) (e : Ending) (w' : World) : Prop :=
  ∃ k v xs, e = .returned (.tuple #[.int .i64 k, v]) ∧ InI (-1) 2147483648 k ∧ Own 3 .i64 w' w.heap.size v xs ∧ xs.length ≤ 4 ∧ (∀ z ∈ xs, InI (-1) 2147483648 z) ∧ Below w.heap.size w w'
set_option maxRecDepth 100000 in
set_option maxHeartbeats 4000000 in
theorem spec_DrawKeyedHash (va : Value) (zs : List Int) (w : World) (ha : Rd .u8 w va zs) (hw : ∀ z ∈ zs, (Lit.int .u8 z).wf = true) (hlen : zs.length ≤ 1048576) :
    Calls Try.prog 39 #[va] w (DrewKh w) := by
  go_enter Try.func39, Try.ntmps39
  go_wp2_with fail
  refine (spec_l1New _ _ _ ha hw hlen).mono ?_
  rintro e w0 ⟨g, rfl, hc0, hg, B⟩
  go_wp2_with fail
  refine (spec_l3Word _ _ _ hc0).mono ?_
  rintro e w1 ⟨k, qk, rfl, hc1, ho1⟩
  replace B := Only.below B ho1 hg
  go_wp2_with fail
  refine (spec_l3Words _ _ _ hc1).mono ?_
  rintro e w2 ⟨vb, xb, rfl, ob, lb, xbw, hc2, ho2⟩
  have gb := hc1.lt
  have zb := B.size
  replace B := Only.below B ho2 hg
  replace ob := ob.le zb
  have HO := Lib.hid ob
  clear ob
  go_wp2_with fail
  go_ret2
  exact ⟨k, _, xb, rfl, qk, HO.out, by omega, xbw, B⟩

/-- A key and a string, drawn. -/
def DrewDs (w : World) (e : Ending) (w' : World) : Prop :=
  ∃ k s, e = .returned (.tuple #[.int .i64 k, .string s]) ∧ InI (-1) 2147483648 k ∧ s.size ≤ 20 ∧ Below w.heap.size w w'
set_option maxRecDepth 100000 in
set_option maxHeartbeats 4000000 in
theorem spec_DrawDeriveFromString (va : Value) (zs : List Int) (w : World) (ha : Rd .u8 w va zs) (hw : ∀ z ∈ zs, (Lit.int .u8 z).wf = true) (hlen : zs.length ≤ 1048576) :
    Calls Try.prog 42 #[va] w (DrewDs w) := by
  go_enter Try.func42, Try.ntmps42
  go_wp2_with fail
  refine (spec_l1New _ _ _ ha hw hlen).mono ?_
  rintro e w0 ⟨g, rfl, hc0, hg, B⟩
  go_wp2_with fail
  refine (spec_l3Word _ _ _ hc0).mono ?_
  rintro e w1 ⟨k, qk, rfl, hc1, ho1⟩
  replace B := Only.below B ho1 hg
  go_wp2_with fail
  refine (spec_l1Str_lit _ _ _ _ _ hc1 (by decide) (by decide) (by decide)).mono ?_
  rintro e w2 ⟨s, rfl, hs, hc2, ho2⟩
  replace B := Only.below B ho2 hg
  go_wp2_with fail
  go_ret2
  exact ⟨k, s, rfl, qk, hs, B⟩


theorem laws_big (A : Option Addr) (n c : Nat) (w : World) (h : n ≤ 1048576) : Calls Try.prog 36 #[.slice A n c] w fun e w' => e = .returned (.bool false) ∧ w = w' := by
  go_enter Try.func36, Try.ntmps36
  go_wp2
  go_ret
  exact ⟨by simp; omega, rfl⟩
theorem laws_big_yes (A : Option Addr) (n c : Nat) (w : World) (h : 1048576 < n) : Calls Try.prog 36 #[.slice A n c] w fun e w' => e = .returned (.bool true) ∧ w = w' := by
  go_enter Try.func36, Try.ntmps36
  go_wp2
  go_ret
  exact ⟨by simp; omega, rfl⟩
/-- A byte of the input, or what stands in for it. -/
def ByteOf (w : World) (e : Ending) (w' : World) : Prop := ∃ n : Int, e = .returned (.int .i64 n) ∧ 0 ≤ n ∧ n ≤ 255 ∧ w = w'
theorem laws_at (va : Value) (zs : List Int) (k : Nat) (w : World) (ha : Rd .u8 w va zs) (hw : ∀ z ∈ zs, (Lit.int .u8 z).wf = true) (hlen : zs.length ≤ 1048576) (hk : k ≤ 1000) :
    Calls Try.prog 40 #[va, .int .i64 (k : Int)] w (ByteOf w) := by
  obtain ⟨A, c, rfl, h1, h2, h3⟩ := ha
  by_cases hlt : k < zs.length
  · obtain ⟨b, off, rfl, hbw, hcell⟩ := h3 (by omega)
    have c1 := hcell k hlt
    obtain ⟨x0, x1⟩ := bounds_u8 (hw _ (getD_mem zs k hlt))
    generalize zs.getD k 0 = x at *
    generalize zs.length = n at *
    clear hcell h3 hw
    go_enter Try.func40, Try.ntmps40
    go_wp2
    go_ret
    exact ⟨_, rfl, by omega, by omega, rfl⟩
  · generalize zs.length = n at *
    clear h3 hw
    go_enter Try.func40, Try.ntmps40
    go_wp2
    go_ret
    exact ⟨_, rfl, by omega, by omega, rfl⟩

end Go.Proofs.Ytgoelmhaobloaaa
