/-
  Contracts: the inputs drawn for the laws on integers and on identities.
-/
import Derived.Test.YtflpdapalfgodaaDoorFmt
import Derived.Test.YtflpdapalfgodaaDoorDrawI
namespace Go.Proofs.YtflpdapalfgodaaDoor
open Go.RowKit Go.Lib

theorem str_le {l : List UInt8} {n : Nat} (h : l.length ≤ n) : (⟨l.toArray⟩ : ByteArray).size ≤ n := by simpa [ByteArray.size] using h
/-- A short string drawn. -/
def DrewStr (w : World) (e : Ending) (w' : World) : Prop := ∃ s : ByteArray, e = .returned (.string s) ∧ s.size ≤ 100 ∧ Below w.heap.size w w'
def DrewOne (w : World) (e : Ending) (w' : World) : Prop := ∃ n : Int, e = .returned (.int .i64 n) ∧ (Lit.int .i64 n).wf = true ∧ Below w.heap.size w w'
def DrewTwo (w : World) (e : Ending) (w' : World) : Prop := ∃ a b : Int, e = .returned (.tuple #[.int .i64 a, .int .i64 b]) ∧ (Lit.int .i64 a).wf = true ∧ (Lit.int .i64 b).wf = true ∧ Below w.heap.size w w'
theorem app_size (a b : ByteArray) : (a ++ b).size = a.size + b.size := by simp
theorem fmtS_le (a b : Int) (ha : (Lit.int .i64 a).wf = true) (hb : (Lit.int .i64 b).wf = true) : (fmtS a b).size ≤ 100 := by
  unfold fmtS
  split
  · have h1 : (⟨(itoa a).toArray⟩ : ByteArray).size ≤ 21 := str_le (itoa_len a ha)
    have h2 : (⟨(itoa b).toArray⟩ : ByteArray).size ≤ 21 := str_le (itoa_len b hb)
    unfold fmtY
    rw [app_size, app_size]
    have h3 : (⟨#[45]⟩ : ByteArray).size = 1 := rfl
    omega
  · have h3 : (⟨#[]⟩ : ByteArray).size = 0 := rfl
    omega

set_option maxRecDepth 100000 in
set_option maxHeartbeats 4000000 in
theorem spec_DrawParseInt (va : Value) (zs : List Int) (w : World) (ha : Rd .u8 w va zs) (hw : ∀ z ∈ zs, (Lit.int .u8 z).wf = true) (hlen : zs.length ≤ 1048576) :
    Calls Tryd.prog 9 #[va] w (DrewStr w) := by
  go_enter Tryd.func9, Tryd.ntmps9
  go_wp2_with fail
  refine (spec_l1New _ _ _ ha hw hlen).mono ?_
  rintro e w0 ⟨g, rfl, hc0, hg, B⟩
  go_wp2_with fail
  refine (spec_l1Once _ _ 2 _ (by omega) hc0).mono ?_
  rintro e w1 ⟨b, rfl, hc1, ho1⟩
  replace B := Only.below B ho1 hg
  cases b
  · go_wp2_with fail
    refine (spec_l1Num _ _ _ hc1).mono ?_
    rintro e w2 ⟨n, qn, rfl, hc2, ho2⟩
    replace B := Only.below B ho2 hg
    obtain ⟨n0, n1⟩ := qn
    have hn := WalkArith.wf_i64 (n := n) (by omega)
    go_wp2_with fail
    refine (spec_FormatInt n _ hn).mono ?_
    rintro e u ⟨rfl, bb⟩
    replace B := Below.next B bb
    go_wp2_with fail
    go_ret
    exact ⟨_, rfl, Nat.le_trans (str_le (itoa_len n hn)) (by omega), B⟩
  · go_wp2_with fail
    refine (spec_l1Str_lit _ zs _ _ _ hc1 (by decide) (by decide) (by decide)).mono ?_
    rintro e w2 ⟨s, rfl, hs, hc2, ho2⟩
    replace B := Only.below B ho2 hg
    go_wp2_with fail
    go_ret
    exact ⟨s, rfl, by omega, B⟩

set_option maxRecDepth 100000 in
set_option maxHeartbeats 4000000 in
theorem spec_DrawFormatInt (va : Value) (zs : List Int) (w : World) (ha : Rd .u8 w va zs) (hw : ∀ z ∈ zs, (Lit.int .u8 z).wf = true) (hlen : zs.length ≤ 1048576) :
    Calls Tryd.prog 11 #[va] w (DrewOne w) := by
  go_enter Tryd.func11, Tryd.ntmps11
  go_wp2_with fail
  refine (spec_l1New _ _ _ ha hw hlen).mono ?_
  rintro e w0 ⟨g, rfl, hc0, hg, B⟩
  go_wp2_with fail
  refine (spec_l1One _ _ _ hc0).mono ?_
  rintro e w1 ⟨n, qn, rfl, hc1, ho1⟩
  replace B := Only.below B ho1 hg
  go_wp2_with fail
  go_ret
  exact ⟨n, rfl, qn, B⟩

set_option maxRecDepth 100000 in
set_option maxHeartbeats 4000000 in
theorem spec_DrawCeilDiv (va : Value) (zs : List Int) (w : World) (ha : Rd .u8 w va zs) (hw : ∀ z ∈ zs, (Lit.int .u8 z).wf = true) (hlen : zs.length ≤ 1048576) :
    Calls Tryd.prog 13 #[va] w (DrewTwo w) := by
  go_enter Tryd.func13, Tryd.ntmps13
  go_wp2_with fail
  refine (spec_l1New _ _ _ ha hw hlen).mono ?_
  rintro e w0 ⟨g, rfl, hc0, hg, B⟩
  go_wp2_with fail
  refine (spec_l1One _ _ _ hc0).mono ?_
  rintro e w1 ⟨a, qa, rfl, hc1, ho1⟩
  replace B := Only.below B ho1 hg
  go_wp2_with fail
  refine (spec_l1One _ _ _ hc1).mono ?_
  rintro e w2 ⟨b, qb, rfl, hc2, ho2⟩
  replace B := Only.below B ho2 hg
  go_wp2_with fail
  go_ret2
  exact ⟨a, b, rfl, qa, qb, B⟩

/-- An identity drawn. -/
def DrewSid (w : World) (e : Ending) (w' : World) : Prop := ∃ a b : Int, e = .returned (.agg #[.int .i64 a, .int .i64 b]) ∧ (Lit.int .i64 a).wf = true ∧ (Lit.int .i64 b).wf = true ∧ Below w.heap.size w w'

set_option maxRecDepth 100000 in
set_option maxHeartbeats 4000000 in
theorem spec_DrawFormatSubscriberID (va : Value) (zs : List Int) (w : World) (ha : Rd .u8 w va zs) (hw : ∀ z ∈ zs, (Lit.int .u8 z).wf = true) (hlen : zs.length ≤ 1048576) :
    Calls Tryd.prog 16 #[va] w (DrewSid w) := by
  have H0 := Lib.hid (newBlk w #[.int .i64 0, .int .i64 0] 33 w.heap.size rfl)
  have B0 := Below.al (Below.refl w.heap.size w) (.cells #[.int .i64 0, .int .i64 0] 33)
  have ha1 := ha.below B0
  go_enter Tryd.func16, Tryd.ntmps16
  go_wp2_with fail
  refine (spec_l1New _ zs _ ha1 hw hlen).mono ?_
  rintro e w0 ⟨g, rfl, hc0, hg, b0⟩
  replace H0 := Lib.hid (cells_of_below b0 H0.out)
  replace B0 := Below.next B0 b0
  have hg2 : w.heap.size < g := by have h9 := hg; simp at h9; omega
  clear b0 hg ha ha1
  go_wp2_with fail
  refine (spec_l4Any g zs _ hc0).mono ?_
  rintro e w1 ⟨a, b, ⟨⟨a0, a1⟩, ⟨b0, b1⟩⟩, rfl, hc1, ho1⟩
  replace H0 := Lib.hid (Only.blk ho1 H0.out (by omega))
  replace B0 := Only.below B0 ho1 (by omega)
  clear ho1 hc0 hc1
  have c0 := cell_of H0.out 0
  have c1 := cell_of H0.out 1
  simp only [List.getElem?_toArray, List.getElem?_cons_zero, List.getElem?_cons_succ] at c0 c1
  have f0 := free_of H0.out
  have z1 : w.heap.size < w1.heap.size := (Array.getElem?_eq_some_iff.1 H0.out).1
  go_wp2_with fail
  refine bodyPost_ret (v := .agg #[.int .i64 a, .int .i64 b]) (by simp [results, Tryd.results16, go_sem, *]) rfl ?_
  exact ⟨a, b, rfl, WalkArith.wf_i64 (by omega), WalkArith.wf_i64 (by omega), by repeat (first | (with_reducible exact B0) | (with_reducible refine Below.st ?_ _ _ _ (by omega)) | (with_reducible refine Below.al ?_ _))⟩

set_option maxRecDepth 100000 in
set_option maxHeartbeats 4000000 in
theorem spec_DrawParseSubscriberID (va : Value) (zs : List Int) (w : World) (ha : Rd .u8 w va zs) (hw : ∀ z ∈ zs, (Lit.int .u8 z).wf = true) (hlen : zs.length ≤ 1048576) :
    Calls Tryd.prog 19 #[va] w (DrewStr w) := by
  go_enter Tryd.func19, Tryd.ntmps19
  go_wp2_with fail
  refine (spec_l1New _ _ _ ha hw hlen).mono ?_
  rintro e w0 ⟨g, rfl, hc0, hg, B⟩
  go_wp2_with fail
  refine (spec_l1Once _ _ 2 _ (by omega) hc0).mono ?_
  rintro e w1 ⟨b, rfl, hc1, ho1⟩
  replace B := Only.below B ho1 hg
  cases b
  · go_wp2_with fail
    refine (spec_l1Str_lit _ zs _ _ _ hc1 (by decide) (by decide) (by decide)).mono ?_
    rintro e w2 ⟨s, rfl, hs, hc2, ho2⟩
    replace B := Only.below B ho2 hg
    go_wp2_with fail
    go_ret
    exact ⟨s, rfl, by omega, B⟩
  · go_wp2_with fail
    refine (spec_l4Any _ zs _ hc1).mono ?_
    rintro e w2 ⟨a, b, ⟨⟨a0, a1⟩, ⟨b0, b1⟩⟩, rfl, hc2, ho2⟩
    replace B := Only.below B ho2 hg
    have hwa := WalkArith.wf_i64 (n := a) (by omega)
    have hwb := WalkArith.wf_i64 (n := b) (by omega)
    go_wp2_with fail
    refine (spec_FormatSubscriberID a b _ hwa hwb).mono ?_
    rintro e u ⟨rfl, bb⟩
    replace B := Below.next B bb
    go_wp2_with fail
    go_ret
    exact ⟨_, rfl, fmtS_le a b hwa hwb, B⟩

end Go.Proofs.YtflpdapalfgodaaDoor
