/-
  Contracts: the stream cipher, both ways.
-/
import Derived.Test.YtgoelmhaobloaaaHash
import Derived.Test.YtgoelmhaobloaaaBytes
import Derived.Deep.RegionHeld3
import Derived.Deep.AppendLies
namespace Go.Proofs.Ytgoelmhaobloaaa
open Go.RowKit

namespace M
def ks (key : Int) (j : Nat) : Int := kh key [(j : Int)] % 256
theorem ks_bd (key : Int) (j : Nat) : 0 ≤ ks key j ∧ ks key j < 256 := by unfold ks; omega
def encF (key : Int) (xs : List Int) (j : Nat) : Int := (xs.getD j 0 + ks key j) % 256
def decF (key : Int) (xs : List Int) (j : Nat) : Int := (xs.getD j 0 - ks key j) % 256
def enc (key : Int) (xs : List Int) : List Int := (List.range xs.length).map (encF key xs)
def dec (key : Int) (xs : List Int) : List Int := (List.range xs.length).map (decF key xs)
theorem enc_length (key : Int) (xs : List Int) : (enc key xs).length = xs.length := by simp [enc]
theorem dec_length (key : Int) (xs : List Int) : (dec key xs).length = xs.length := by simp [dec]
theorem range_succ_map (f : Nat → Int) (k : Nat) : (List.range (k + 1)).map f = (List.range k).map f ++ [f k] := by simp [List.range_succ]
theorem enc_dec (key : Int) (xs : List Int) (h : ∀ z ∈ xs, 0 ≤ z ∧ z ≤ 255) : enc key (dec key xs) = xs := by
  apply List.ext_getElem (by simp [enc, dec])
  intro j h1 h2
  have hz := h xs[j] (List.getElem_mem h2)
  simp [enc, encF, dec, decF, h2, List.getD]
  omega
theorem dec_enc (key : Int) (xs : List Int) (h : ∀ z ∈ xs, 0 ≤ z ∧ z ≤ 255) : dec key (enc key xs) = xs := by
  apply List.ext_getElem (by simp [enc, dec])
  intro j h1 h2
  have hz := h xs[j] (List.getElem_mem h2)
  simp [enc, encF, dec, decF, h2, List.getD]
  omega
theorem enc_bd (key : Int) (xs : List Int) : ∀ z ∈ enc key xs, 0 ≤ z ∧ z ≤ 255 := by
  intro z hz
  simp [enc, encF] at hz
  obtain ⟨j, _, rfl⟩ := hz
  omega
theorem dec_bd (key : Int) (xs : List Int) : ∀ z ∈ dec key xs, 0 ≤ z ∧ z ≤ 255 := by
  intro z hz
  simp [dec, decF] at hz
  obtain ⟨j, _, rfl⟩ := hz
  omega
end M

theorem step_append_rd {P : Program} {kd : IntKind} {ops : Array Oper} {o : Oper} {a : Act} {w : World} {K : Act → World → Prop} {Q : Exit → Act → World → Prop} {E : Prop} (hgd : o.guard = none) (s x : Operand) (t : TypeId)
    (ho : o.op = .call { callee := .builtin .append, args := #[s, x], argTypes := #[t, t] })
    (base : Nat) (e : TypeId) (i : TypeInfo) (z : Value) (bytes : Nat) (ht : P.underlying t = some (.slice e)) (hi : P.info? e = some i) (hz : i.zero = some z)
    (hsize : i.size = 1) (hby : i.bytes = bytes) (hzs : z.cells.size = 1)
    (v u : Value) (xs ys : List Int) (hs : a.eval s = v) (hx : a.eval x = u) (hown : Own e kd w base v xs) (hr : Rd kd w u ys)
    (h63 : xs.length + ys.length ≤ maxLen) (hbytes : (xs.length + ys.length) * bytes ≤ 140737488355328) (hbase : base ≤ w.heap.size)
    (h : ∀ v' w', Own e kd w' base v' (xs ++ ys) → w.grownBy w' v.ownBlock → K (a.put o.dst v') w') :
    if Region.wanted o (yielded ops a.tmps) = true then Oper.wp P o a w K Q else E := by
  have hw : Region.wanted o (yielded ops a.tmps) = true := by simp [Region.wanted, hgd]
  rw [if_pos hw]
  exact wp_append_rd w s x t ho base e i z bytes ht hi hz hsize hby hzs v u xs ys hs hown hx hr h63 hbytes hbase h

set_option maxHeartbeats 4000000 in
theorem spec_Encrypt (key : Int) (va : Value) (xs : List Int) (w : World) (hkey : (Lit.int .i64 key).wf = true) (ha : Rd .u8 w va xs) (hw : ∀ z ∈ xs, (Lit.int .u8 z).wf = true) (hlen : xs.length ≤ 1099511627776) :
    Calls Try.prog 34 #[.int .i64 key, va] w fun e w' => ∃ v, e = .returned v ∧ Own 5 .u8 w' w.heap.size v (M.enc key xs) ∧ Below w.heap.size w w' := by
  obtain ⟨A, c, rfl, h1, h2, h3⟩ := ha
  obtain ⟨i0, hi, hz0, hz1, hz2⟩ := info_parts infoByteB
  obtain ⟨n, hn⟩ : ∃ n, n = xs.length := ⟨_, rfl⟩
  rw [← hn] at h1 h3 hlen ⊢
  have H3 := Lib.hid h3
  have HN := Lib.hid hn
  have HW := Lib.hid hw
  clear h3 hn h1 h2 hw
  have ho0 : Own 5 .u8 (w.alloc (.cells #[] 5)) w.heap.size (.slice (some ⟨w.heap.size, 0, none⟩) 0 0) ((List.range 0).map (M.encF key xs)) := Own.lit w w.heap.size [] (Nat.le_refl _) (by simp [maxLen])
  go_enter Try.func34, Try.ntmps34
  go_wp2
  go_loopw [5, 6] (fun v i wr => ∃ k : Nat, k ≤ n ∧ i = .int .i64 k ∧ Own 5 .u8 wr w.heap.size v ((List.range k).map (M.encF key xs)) ∧ Below w.heap.size w wr) (fun _ i _ => n - (intOf i).toNat)
  case atStart => exact ⟨0, Nat.zero_le _, rfl, ho0, Below.al (Below.refl _ _) _⟩
  case round =>
    clear ho0
    obtain ⟨k, hk, rfl, hown, hbel⟩ := hrel
    by_cases hlt : k < n
    · obtain ⟨b, off, rfl, hbw, hcell⟩ := H3.out (by omega)
      have c1 := (hbel.cell (p := ⟨b, off + k, none⟩) hbw).trans (hcell k hlt)
      have hbr : b < wr.heap.size := Nat.lt_of_lt_of_le hbw hbel.size
      clear hcell H3
      have hkx : k < xs.length := by rw [← HN.out]; exact hlt
      obtain ⟨x0, x1⟩ := bounds_u8 (HW.out _ (getD_mem xs k hkx))
      obtain ⟨q0, q1⟩ := M.kh_bd key [(k : Int)]
      have hs := M.range_succ_map (M.encF key xs) k
      have hf : M.encF key xs k = (xs.getD k 0 + M.kh key [(k : Int)] % 256) % 256 := rfl
      rw [hf] at hs
      have HS := Lib.hid hs
      have HK : Hid (((List.range k).map (M.encF key xs)).length = k) := Lib.hid (by simp)
      clear hs hf hkx
      obtain ⟨x, hx⟩ : ∃ x, x = xs.getD k 0 := ⟨_, rfl⟩
      rw [← hx] at c1 x0 x1 HS
      clear hx
      obtain ⟨q, hq⟩ : ∃ q, q = M.kh key [(k : Int)] := ⟨_, rfl⟩
      rw [← hq] at q0 q1 HS
      have HQ := Lib.hid hq
      clear hq
      obtain ⟨y, hy⟩ : ∃ y, y = (x + q % 256) % 256 := ⟨_, rfl⟩
      rw [← hy] at HS
      have tq : q.tmod 256 = q % 256 := Int.tmod_eq_emod_of_nonneg q0
      have hyr : IntKind.u8.wrap ((IntKind.i64.wrap (IntKind.i64.wrap x + q.tmod 256)).tmod 256) = y := by
        rw [IntWalk.i64_in x (by omega), tq, IntWalk.i64_in (x + q % 256) (by omega), Int.tmod_eq_emod_of_nonneg (by omega), hy, IntKind.wrap_u8]
        omega
      clear hy tq
      have hlk : Rd .i64 (wr.drew.alloc (.cells #[.int .i64 (k : Int)] 3)) (.slice (some ⟨wr.heap.size, 0, none⟩) 1 1) [(k : Int)] := Rd.lit 3 wr.drew [(k : Int)] (by simp [maxLen])
      have hc2 : (wr.drew.alloc (.cells #[.int .i64 (k : Int)] 3)).cell? ⟨b, off + k, none⟩ = some (.int .u8 x) := (World.cell?_alloc_lt wr.drew _ _ hbr).trans c1
      have hbr2 : b < (wr.drew.alloc (.cells #[.int .i64 (k : Int)] 3)).heap.size := by simp; omega
      have hwk : ∀ z ∈ [(k : Int)], (Lit.int .i64 z).wf = true := by intro z hz; simp at hz; subst hz; exact WalkArith.wf_i64 (by omega)
      have HWK := Lib.hid hwk
      clear hwk
      have hne : (some b : Option Nat) ≠ u5.ownBlock := fun h => by have := (hown.lt b h.symm).1; omega
      have i1 : (0 : Int) ≤ (k : Int) := by omega
      have i2 : (k : Int) < (n : Int) := by omega
      go_wp2
      go_region_held3 (fun w' => w'.cell? ⟨b, off + k, none⟩ = some (.int .u8 x)) (go_keep)
        (first
          | (go_at_call 20; refine (spec_KeyedHash _ _ [(k : Int)] _ hkey hlk HWK.out (by simp)).mono ?_; rw [← HQ.out]; rintro e w1 ⟨rfl, hb1⟩; have hcw1 := (hb1.cell (p := ⟨b, off + k, none⟩) hbr2).trans hc2; have hbw1 : b < w1.heap.size := Nat.lt_of_lt_of_le hbr2 hb1.size; have how1 := fun o => ((Own.below hown (Below.al (Below.drew (Below.refl _ wr)) (.cells #[.int .i64 (k : Int)] 3))).below hb1).below (Below.al (Below.refl _ w1) o); have hbl1 := Below.next (Below.next hbel (Below.al (Below.drew (Below.refl _ wr)) (.cells #[.int .i64 (k : Int)] 3))) hb1)
          | (refine step_append_rd (by rfl) (.tmp 14) (.tmp 28) 40 (by rfl) w.heap.size 5 i0 (.int .u8 0) 1 Try.underlying40 hi hz0 hz1 hz2 rfl _ _ ((List.range k).map (M.encF key xs)) [y] (by rfl) (by rfl) (how1 _) (Rd.lit 5 w1 [y] (by simp [maxLen])) (by rw [HK.out]; simp [maxLen]; omega) (by rw [HK.out]; simp; omega) (Nat.le_trans hbl1.size (by simp)) ?_; intro v2 w2 hown2 hg2; have hcw2 := hg2.cell ((World.cell?_alloc_lt w1 _ _ hbw1).trans hcw1) hne; have hbl2 := Below.own (Below.al hbl1 _) hg2 (how1 _) (Nat.le_refl _)))
      rw [← HS.out] at hown2
      have HO := Lib.hid hown2
      clear hown2 hg2 hown hbel how1 hcw1 hcw2 hbl1
      go_wp2
      go_roundw
      case rel => exact ⟨k + 1, by omega, by go_num, HO.out, hbl2⟩
      case measure => simp [intOf]; omega
    · obtain rfl : k = n := by omega
      have he : (List.range k).map (M.encF key xs) = M.enc key xs := by rw [HN.out]; rfl
      rw [he] at hown
      clear he
      go_wp2
      go_ret
      exact ⟨_, rfl, hown, hbel⟩

set_option maxHeartbeats 4000000 in
theorem spec_Decrypt (key : Int) (va : Value) (xs : List Int) (w : World) (hkey : (Lit.int .i64 key).wf = true) (ha : Rd .u8 w va xs) (hw : ∀ z ∈ xs, (Lit.int .u8 z).wf = true) (hlen : xs.length ≤ 1099511627776) :
    Calls Try.prog 28 #[.int .i64 key, va] w fun e w' => ∃ v, e = .returned v ∧ Own 5 .u8 w' w.heap.size v (M.dec key xs) ∧ Below w.heap.size w w' := by
  obtain ⟨A, c, rfl, h1, h2, h3⟩ := ha
  obtain ⟨i0, hi, hz0, hz1, hz2⟩ := info_parts infoByteB
  obtain ⟨n, hn⟩ : ∃ n, n = xs.length := ⟨_, rfl⟩
  rw [← hn] at h1 h3 hlen ⊢
  have H3 := Lib.hid h3
  have HN := Lib.hid hn
  have HW := Lib.hid hw
  clear h3 hn h1 h2 hw
  have ho0 : Own 5 .u8 (w.alloc (.cells #[] 5)) w.heap.size (.slice (some ⟨w.heap.size, 0, none⟩) 0 0) ((List.range 0).map (M.decF key xs)) := Own.lit w w.heap.size [] (Nat.le_refl _) (by simp [maxLen])
  go_enter Try.func28, Try.ntmps28
  go_wp2
  go_loopw [5, 6] (fun v i wr => ∃ k : Nat, k ≤ n ∧ i = .int .i64 k ∧ Own 5 .u8 wr w.heap.size v ((List.range k).map (M.decF key xs)) ∧ Below w.heap.size w wr) (fun _ i _ => n - (intOf i).toNat)
  case atStart => exact ⟨0, Nat.zero_le _, rfl, ho0, Below.al (Below.refl _ _) _⟩
  case round =>
    clear ho0
    obtain ⟨k, hk, rfl, hown, hbel⟩ := hrel
    by_cases hlt : k < n
    · obtain ⟨b, off, rfl, hbw, hcell⟩ := H3.out (by omega)
      have c1 := (hbel.cell (p := ⟨b, off + k, none⟩) hbw).trans (hcell k hlt)
      have hbr : b < wr.heap.size := Nat.lt_of_lt_of_le hbw hbel.size
      clear hcell H3
      have hkx : k < xs.length := by rw [← HN.out]; exact hlt
      obtain ⟨x0, x1⟩ := bounds_u8 (HW.out _ (getD_mem xs k hkx))
      obtain ⟨q0, q1⟩ := M.kh_bd key [(k : Int)]
      have hs := M.range_succ_map (M.decF key xs) k
      have hf : M.decF key xs k = (xs.getD k 0 - M.kh key [(k : Int)] % 256) % 256 := rfl
      rw [hf] at hs
      have HS := Lib.hid hs
      have HK : Hid (((List.range k).map (M.decF key xs)).length = k) := Lib.hid (by simp)
      clear hs hf hkx
      obtain ⟨x, hx⟩ : ∃ x, x = xs.getD k 0 := ⟨_, rfl⟩
      rw [← hx] at c1 x0 x1 HS
      clear hx
      obtain ⟨q, hq⟩ : ∃ q, q = M.kh key [(k : Int)] := ⟨_, rfl⟩
      rw [← hq] at q0 q1 HS
      have HQ := Lib.hid hq
      clear hq
      obtain ⟨y, hy⟩ : ∃ y, y = (x - q % 256) % 256 := ⟨_, rfl⟩
      rw [← hy] at HS
      have tq : q.tmod 256 = q % 256 := Int.tmod_eq_emod_of_nonneg q0
      have hwx : IntKind.i64.wrap x = x := IntWalk.i64_in _ (by omega)
      have hwd : IntKind.i64.wrap (x - q % 256) = x - q % 256 := IntWalk.i64_in _ (by omega)
      have hd : IntKind.i64.wrap (IntKind.i64.wrap x - q.tmod 256) = x - q % 256 := by rw [hwx, tq, hwd]
      obtain ⟨d, hdd⟩ : ∃ d, d = x - q % 256 := ⟨_, rfl⟩
      have d0 : -256 ≤ d ∧ d ≤ 256 := by omega
      have hmod : M.mod d 256 = y := by rw [hdd, hy]; exact M.mod_in (by omega)
      rw [← hdd] at hd
      have hyw : IntKind.u8.wrap y = y := by rw [IntKind.wrap_u8]; omega
      clear hwx hwd hdd
      clear hy tq
      have hlk : Rd .i64 (wr.drew.alloc (.cells #[.int .i64 (k : Int)] 3)) (.slice (some ⟨wr.heap.size, 0, none⟩) 1 1) [(k : Int)] := Rd.lit 3 wr.drew [(k : Int)] (by simp [maxLen])
      have hc2 : (wr.drew.alloc (.cells #[.int .i64 (k : Int)] 3)).cell? ⟨b, off + k, none⟩ = some (.int .u8 x) := (World.cell?_alloc_lt wr.drew _ _ hbr).trans c1
      have hbr2 : b < (wr.drew.alloc (.cells #[.int .i64 (k : Int)] 3)).heap.size := by simp; omega
      have hwk : ∀ z ∈ [(k : Int)], (Lit.int .i64 z).wf = true := by intro z hz; simp at hz; subst hz; exact WalkArith.wf_i64 (by omega)
      have HWK := Lib.hid hwk
      clear hwk
      have hne : (some b : Option Nat) ≠ u5.ownBlock := fun h => by have := (hown.lt b h.symm).1; omega
      have i1 : (0 : Int) ≤ (k : Int) := by omega
      have i2 : (k : Int) < (n : Int) := by omega
      go_wp2
      go_region_held3 (fun w' => w'.cell? ⟨b, off + k, none⟩ = some (.int .u8 x)) (go_keep)
        (first
          | (go_at_call 20; refine (spec_KeyedHash _ _ [(k : Int)] _ hkey hlk HWK.out (by simp)).mono ?_; rw [← HQ.out]; rintro e w1 ⟨rfl, hb1⟩; have hcw1 := (hb1.cell (p := ⟨b, off + k, none⟩) hbr2).trans hc2; have hbw1 : b < w1.heap.size := Nat.lt_of_lt_of_le hbr2 hb1.size; have how1 := fun o => ((Own.below hown (Below.al (Below.drew (Below.refl _ wr)) (.cells #[.int .i64 (k : Int)] 3))).below hb1).below (Below.al (Below.refl _ w1) o); have hbl1 := Below.next (Below.next hbel (Below.al (Below.drew (Below.refl _ wr)) (.cells #[.int .i64 (k : Int)] 3))) hb1)
          | (go_at_call 41; refine (spec_Mod _ _ _ (WalkArith.wf_i64 (show -9223372036854775808 ≤ d ∧ d ≤ 9223372036854775807 by omega)) (by decide)).mono ?_; rw [hmod]; rintro e w2 ⟨rfl, rfl⟩)
          | (refine step_append_rd (by rfl) (.tmp 14) (.tmp 28) 40 (by rfl) w.heap.size 5 i0 (.int .u8 0) 1 Try.underlying40 hi hz0 hz1 hz2 rfl _ _ ((List.range k).map (M.decF key xs)) [y] (by rfl) (by rfl) (how1 _) (Rd.lit 5 w1 [y] (by simp [maxLen])) (by rw [HK.out]; simp [maxLen]; omega) (by rw [HK.out]; simp; omega) (Nat.le_trans hbl1.size (by simp)) ?_; intro v2 w2 hown2 hg2; have hcw2 := hg2.cell ((World.cell?_alloc_lt w1 _ _ hbw1).trans hcw1) hne; have hbl2 := Below.own (Below.al hbl1 _) hg2 (how1 _) (Nat.le_refl _)))
      rw [← HS.out] at hown2
      have HO := Lib.hid hown2
      clear hown2 hg2 hown hbel how1 hcw1 hcw2 hbl1
      go_wp2
      go_roundw
      case rel => exact ⟨k + 1, by omega, by go_num, HO.out, hbl2⟩
      case measure => simp [intOf]; omega
    · obtain rfl : k = n := by omega
      have he : (List.range k).map (M.decF key xs) = M.dec key xs := by rw [HN.out]; rfl
      rw [he] at hown
      clear he
      go_wp2
      go_ret
      exact ⟨_, rfl, hown, hbel⟩

set_option maxHeartbeats 4000000 in
theorem impl_Encrypt (key : Int) (va : Value) (xs : List Int) (w : World) (hkey : (Lit.int .i64 key).wf = true) (ha : Rd .u8 w va xs) (hw : ∀ z ∈ xs, (Lit.int .u8 z).wf = true) (hlen : xs.length ≤ 1099511627776) :
    Calls Try.prog 35 #[.int .i64 key, va] w fun e w' => ∃ v, e = .returned v ∧ Own 5 .u8 w' w.heap.size v (M.enc key xs) ∧ Below w.heap.size w w' := by
  have HA := Lib.hid ha
  obtain ⟨A, c, rfl, h1, h2, h3⟩ := ha
  obtain ⟨n, hn⟩ : ∃ n, n = xs.length := ⟨_, rfl⟩
  have HN := Lib.hid hn
  have HW := Lib.hid hw
  rw [← hn] at hlen
  clear h3 h1 h2 hw hn
  go_enter Try.func35, Try.ntmps35
  go_wp2_with fail
  refine (impl_copyBytes _ _ _ HA.out (by rw [← HN.out]; omega)).mono ?_
  rintro e w1 ⟨v1, rfl, ho1, hb1⟩
  rcases ho1.forms with ⟨rfl, hnil⟩ | ⟨g, cap, rfl, hbg, hgw, hc1, hc2⟩
  · have HX := Lib.hid hnil
    clear hnil ho1
    go_wp2
    refine wp_loop_rounds 1 ?_
    rw [rounds_succ]
    go_wp2
    go_ret
    exact ⟨_, rfl, by rw [HX.out]; exact Own.nil _ _ _ _, hb1⟩
  · rw [← HN.out] at ho1 ⊢
    rw [← fillOver_zero (M.encF key xs) xs] at ho1
    clear hc1 hc2 HA
    have HO1 := Lib.hid ho1
    clear ho1
    go_wp2
    go_loopw [11] (fun i wr => ∃ k : Nat, k ≤ n ∧ i = .int .i64 k ∧ Own 5 .u8 wr w.heap.size (.slice (some ⟨g, 0, none⟩) n cap) (fillOver (M.encF key xs) xs k) ∧ Below w.heap.size w wr ∧ g < wr.heap.size) (fun i _ => n - (intOf i).toNat)
    case atStart => exact ⟨0, Nat.zero_le _, rfl, HO1.out, hb1, hgw⟩
    case round =>
      clear HO1 hb1 hgw
      obtain ⟨k, hk, rfl, hown, hbel, hgr⟩ := hrel
      have hl : n = (fillOver (M.encF key xs) xs k).length := by rw [fillOver_length]; exact HN.out
      by_cases hlt : k < n
      · have hkx : k < xs.length := by rw [← HN.out]; exact hlt
        have c1 := hown.cellAt hl k (by omega)
        rw [fillOver_ge _ xs k k (Nat.le_refl _)] at c1
        have c3 := hown.frozenAt hl k
        obtain ⟨x0, x1⟩ := bounds_u8 (HW.out _ (getD_mem xs k hkx))
        obtain ⟨q0, q1⟩ := M.kh_bd key [(k : Int)]
        have hf : M.encF key xs k = (xs.getD k 0 + M.kh key [(k : Int)] % 256) % 256 := rfl
        have hst := (Own.stored (by rw [← hl]; exact hown) k (M.encF key xs k)).1
        rw [← hl, fillOver_set (M.encF key xs) xs k] at hst
        have hbs := hbel.setCell (p := ⟨g, k, none⟩) hbg (.int .u8 (M.encF key xs k))
        rw [hf] at hst hbs
        obtain ⟨x, hx⟩ : ∃ x, x = xs.getD k 0 := ⟨_, rfl⟩
        rw [← hx] at c1 x0 x1 hst hbs
        clear hx hf
        obtain ⟨q, hq⟩ : ∃ q, q = M.kh key [(k : Int)] := ⟨_, rfl⟩
        rw [← hq] at q0 q1 hst hbs
        have HQ := Lib.hid hq
        clear hq
        obtain ⟨y, hy⟩ : ∃ y, y = (x + q % 256) % 256 := ⟨_, rfl⟩
        rw [← hy] at hst hbs
        have HST := Lib.hid hst
        have HBS := Lib.hid hbs
        clear hst hbs
        have tq : q.tmod 256 = q % 256 := Int.tmod_eq_emod_of_nonneg q0
        have hyr : IntKind.u8.wrap (x + IntKind.u8.wrap (q.tmod 256)) = y := by
          rw [tq, IntKind.wrap_u8, IntKind.wrap_u8, hy]; omega
        clear hy tq
        have hlk : Rd .i64 (wr.drew.alloc (.cells #[.int .i64 (k : Int)] 3)) (.slice (some ⟨wr.heap.size, 0, none⟩) 1 1) [(k : Int)] := Rd.lit 3 wr.drew [(k : Int)] (by simp [maxLen])
        have hwk : ∀ z ∈ [(k : Int)], (Lit.int .i64 z).wf = true := by intro z hz; simp at hz; subst hz; exact WalkArith.wf_i64 (by omega)
        have HWK := Lib.hid hwk
        clear hwk hown hl hkx
        have i1 : (0 : Int) ≤ (k : Int) := by omega
        have i2 : (k : Int) < (n : Int) := by omega
        go_wp2
        go_region_law (first
          | (go_simp; go_at_call 21; refine (impl_KeyedHash _ _ [(k : Int)] _ hkey hlk HWK.out).mono ?_; rw [← HQ.out]; rintro e w' ⟨rfl, rfl⟩))
        all_goals
          go_wp2
          go_roundw
          case rel => exact ⟨k + 1, by omega, by go_num, HST.out.below (Below.drew (Below.al (Below.refl _ _) _)), Below.drew (Below.al HBS.out _), by simp; omega⟩
          case measure => simp [intOf]; omega
      · obtain rfl : k = n := by omega
        have he : fillOver (M.encF key xs) xs k = M.enc key xs := by rw [HN.out]; exact fillOver_full _ xs
        rw [he] at hown
        have HO := Lib.hid hown
        clear he hown hl
        have hel : (M.enc key xs).length = k := by rw [M.enc_length]; exact HN.out.symm
        have HEL := Lib.hid hel
        clear hel
        go_wp2
        go_ret
        exact ⟨_, rfl, HO.out, hbel⟩

set_option maxHeartbeats 4000000 in
theorem impl_Decrypt (key : Int) (va : Value) (xs : List Int) (w : World) (hkey : (Lit.int .i64 key).wf = true) (ha : Rd .u8 w va xs) (hw : ∀ z ∈ xs, (Lit.int .u8 z).wf = true) (hlen : xs.length ≤ 1099511627776) :
    Calls Try.prog 30 #[.int .i64 key, va] w fun e w' => ∃ v, e = .returned v ∧ Own 5 .u8 w' w.heap.size v (M.dec key xs) ∧ Below w.heap.size w w' := by
  have HA := Lib.hid ha
  obtain ⟨A, c, rfl, h1, h2, h3⟩ := ha
  obtain ⟨n, hn⟩ : ∃ n, n = xs.length := ⟨_, rfl⟩
  have HN := Lib.hid hn
  have HW := Lib.hid hw
  rw [← hn] at hlen
  clear h3 h1 h2 hw hn
  go_enter Try.func30, Try.ntmps30
  go_wp2_with fail
  refine (impl_copyBytes _ _ _ HA.out (by rw [← HN.out]; omega)).mono ?_
  rintro e w1 ⟨v1, rfl, ho1, hb1⟩
  rcases ho1.forms with ⟨rfl, hnil⟩ | ⟨g, cap, rfl, hbg, hgw, hc1, hc2⟩
  · have HX := Lib.hid hnil
    clear hnil ho1
    go_wp2
    refine wp_loop_rounds 1 ?_
    rw [rounds_succ]
    go_wp2
    go_ret
    exact ⟨_, rfl, by rw [HX.out]; exact Own.nil _ _ _ _, hb1⟩
  · rw [← HN.out] at ho1 ⊢
    rw [← fillOver_zero (M.decF key xs) xs] at ho1
    clear hc1 hc2 HA
    have HO1 := Lib.hid ho1
    clear ho1
    go_wp2
    go_loopw [11] (fun i wr => ∃ k : Nat, k ≤ n ∧ i = .int .i64 k ∧ Own 5 .u8 wr w.heap.size (.slice (some ⟨g, 0, none⟩) n cap) (fillOver (M.decF key xs) xs k) ∧ Below w.heap.size w wr ∧ g < wr.heap.size) (fun i _ => n - (intOf i).toNat)
    case atStart => exact ⟨0, Nat.zero_le _, rfl, HO1.out, hb1, hgw⟩
    case round =>
      clear HO1 hb1 hgw
      obtain ⟨k, hk, rfl, hown, hbel, hgr⟩ := hrel
      have hl : n = (fillOver (M.decF key xs) xs k).length := by rw [fillOver_length]; exact HN.out
      by_cases hlt : k < n
      · have hkx : k < xs.length := by rw [← HN.out]; exact hlt
        have c1 := hown.cellAt hl k (by omega)
        rw [fillOver_ge _ xs k k (Nat.le_refl _)] at c1
        have c3 := hown.frozenAt hl k
        obtain ⟨x0, x1⟩ := bounds_u8 (HW.out _ (getD_mem xs k hkx))
        obtain ⟨q0, q1⟩ := M.kh_bd key [(k : Int)]
        have hf : M.decF key xs k = (xs.getD k 0 - M.kh key [(k : Int)] % 256) % 256 := rfl
        have hst := (Own.stored (by rw [← hl]; exact hown) k (M.decF key xs k)).1
        rw [← hl, fillOver_set (M.decF key xs) xs k] at hst
        have hbs := hbel.setCell (p := ⟨g, k, none⟩) hbg (.int .u8 (M.decF key xs k))
        rw [hf] at hst hbs
        obtain ⟨x, hx⟩ : ∃ x, x = xs.getD k 0 := ⟨_, rfl⟩
        rw [← hx] at c1 x0 x1 hst hbs
        clear hx hf
        obtain ⟨q, hq⟩ : ∃ q, q = M.kh key [(k : Int)] := ⟨_, rfl⟩
        rw [← hq] at q0 q1 hst hbs
        have HQ := Lib.hid hq
        clear hq
        obtain ⟨y, hy⟩ : ∃ y, y = (x - q % 256) % 256 := ⟨_, rfl⟩
        rw [← hy] at hst hbs
        have HST := Lib.hid hst
        have HBS := Lib.hid hbs
        clear hst hbs
        have tq : q.tmod 256 = q % 256 := Int.tmod_eq_emod_of_nonneg q0
        have hyr : IntKind.u8.wrap (x - IntKind.u8.wrap (q.tmod 256)) = y := by
          rw [tq, IntKind.wrap_u8, IntKind.wrap_u8, hy]; omega
        clear hy tq
        have hlk : Rd .i64 (wr.drew.alloc (.cells #[.int .i64 (k : Int)] 3)) (.slice (some ⟨wr.heap.size, 0, none⟩) 1 1) [(k : Int)] := Rd.lit 3 wr.drew [(k : Int)] (by simp [maxLen])
        have hwk : ∀ z ∈ [(k : Int)], (Lit.int .i64 z).wf = true := by intro z hz; simp at hz; subst hz; exact WalkArith.wf_i64 (by omega)
        have HWK := Lib.hid hwk
        clear hwk hown hl hkx
        have i1 : (0 : Int) ≤ (k : Int) := by omega
        have i2 : (k : Int) < (n : Int) := by omega
        go_wp2
        go_region_law (first
          | (go_simp; go_at_call 21; refine (impl_KeyedHash _ _ [(k : Int)] _ hkey hlk HWK.out).mono ?_; rw [← HQ.out]; rintro e w' ⟨rfl, rfl⟩))
        all_goals
          go_wp2
          go_roundw
          case rel => exact ⟨k + 1, by omega, by go_num, HST.out.below (Below.drew (Below.al (Below.refl _ _) _)), Below.drew (Below.al HBS.out _), by simp; omega⟩
          case measure => simp [intOf]; omega
      · obtain rfl : k = n := by omega
        have he : fillOver (M.decF key xs) xs k = M.dec key xs := by rw [HN.out]; exact fillOver_full _ xs
        rw [he] at hown
        have HO := Lib.hid hown
        clear he hown hl
        have hel : (M.dec key xs).length = k := by rw [M.dec_length]; exact HN.out.symm
        have HEL := Lib.hid hel
        clear hel
        go_wp2
        go_ret
        exact ⟨_, rfl, HO.out, hbel⟩

end Go.Proofs.Ytgoelmhaobloaaa
