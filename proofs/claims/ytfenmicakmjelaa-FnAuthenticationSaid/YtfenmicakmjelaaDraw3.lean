/-
  Contracts: the inputs drawn for the laws on keys, hashes and tokens; a byte of the input; the input's size.
-/
import Derived.Test.YtfenmicakmjelaaDraw2
namespace Go.Proofs.Ytfenmicakmjelaa
open Go.RowKit

def WfB (xs : List Int) : Prop := ∀ z ∈ xs, (Lit.int .u8 z).wf = true
theorem WfB.bd {xs : List Int} (h : WfB xs) : ∀ z ∈ xs, 0 ≤ z ∧ z ≤ 255 := fun z hz => bounds_u8 (h z hz)
theorem WfB.nil : WfB [] := by simp [WfB]
theorem WfB.of {xs : List Int} (h : ∀ z ∈ xs, 0 ≤ z ∧ z ≤ 255) : WfB xs := fun z hz => WalkArith.wf_u8 (h z hz)




/-- A key, a random number, a sequence number, drawn. -/
def DrewNav (w : World) (e : Ending) (w' : World) : Prop :=
  ∃ k r s, e = .returned (.tuple #[.int .i64 k, .int .i64 r, .int .i64 s]) ∧ InI (-1) 2147483648 k ∧ InI (-1) 2147483648 r ∧ InI (-1) 1000000 s ∧ Below w.heap.size w w'
set_option maxRecDepth 100000 in
set_option maxHeartbeats 4000000 in
theorem spec_DrawNewAuthVector (va : Value) (zs : List Int) (w : World) (ha : Rd .u8 w va zs) (hw : ∀ z ∈ zs, (Lit.int .u8 z).wf = true) (hlen : zs.length ≤ 1048576) :
    Calls Try.prog 15 #[va] w (DrewNav w) := by
  go_enter Try.func15, Try.ntmps15
  go_wp2_with fail
  refine (spec_l1New _ _ _ ha hw hlen).mono ?_
  rintro e w0 ⟨g, rfl, hc0, hg, B⟩
  go_wp2_with fail
  refine (spec_l3Word _ _ _ hc0).mono ?_
  rintro e w1 ⟨k, qk, rfl, hc1, ho1⟩
  replace B := Only.below B ho1 hg
  go_wp2_with fail
  refine (spec_l3Word _ _ _ hc1).mono ?_
  rintro e w2 ⟨r, qr, rfl, hc2, ho2⟩
  replace B := Only.below B ho2 hg
  go_wp2_with fail
  refine (spec_l5Seq _ _ _ hc2).mono ?_
  rintro e w3 ⟨s, qs, rfl, hc3, ho3⟩
  replace B := Only.below B ho3 hg
  go_wp2_with fail
  go_ret3
  exact ⟨k, r, s, rfl, qk, qr, qs, B⟩





theorem laws_big (A : Option Addr) (n c : Nat) (w : World) (h : n ≤ 1048576) : Calls Try.prog 14 #[.slice A n c] w fun e w' => e = .returned (.bool false) ∧ w = w' := by
  go_enter Try.func14, Try.ntmps14
  go_wp2
  go_ret
  exact ⟨by simp; omega, rfl⟩
theorem laws_big_yes (A : Option Addr) (n c : Nat) (w : World) (h : 1048576 < n) : Calls Try.prog 14 #[.slice A n c] w fun e w' => e = .returned (.bool true) ∧ w = w' := by
  go_enter Try.func14, Try.ntmps14
  go_wp2
  go_ret
  exact ⟨by simp; omega, rfl⟩

end Go.Proofs.Ytfenmicakmjelaa
