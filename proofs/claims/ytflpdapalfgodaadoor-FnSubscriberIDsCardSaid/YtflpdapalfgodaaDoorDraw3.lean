/-
  Contracts: the inputs drawn for the laws on keys, hashes and tokens; a byte of the input; the input's size.
-/
import Derived.Test.YtflpdapalfgodaaDoorDraw2
namespace Go.Proofs.YtflpdapalfgodaaDoor
open Go.RowKit

def WfB (xs : List Int) : Prop := ∀ z ∈ xs, (Lit.int .u8 z).wf = true
theorem WfB.bd {xs : List Int} (h : WfB xs) : ∀ z ∈ xs, 0 ≤ z ∧ z ≤ 255 := fun z hz => bounds_u8 (h z hz)
theorem WfB.nil : WfB [] := by simp [WfB]
theorem WfB.of {xs : List Int} (h : ∀ z ∈ xs, 0 ≤ z ∧ z ≤ 255) : WfB xs := fun z hz => WalkArith.wf_u8 (h z hz)

def shortStr (v : Value) : Bool := match v with | .string s => decide (s.size ≤ 20) | _ => false
theorem shortStr_of {v : Value} (h : shortStr v = true) : ∃ s, v = .string s ∧ s.size ≤ 20 := by
  cases v <;> simp [shortStr] at h
  exact ⟨_, rfl, h⟩
/-- A string drawn: short. -/
def DrewS (g : Nat) (zs : List Int) (w : World) (e : Ending) (w' : World) : Prop :=
  ∃ s : ByteArray, e = .returned (.string s) ∧ s.size ≤ 20 ∧ Cur w' g zs ∧ Only g w w'
set_option maxHeartbeats 1000000 in
theorem spec_l1Str_lit (g : Nat) (zs : List Int) (cs : Array Value) (n : Nat) (w : World) (hc : Cur w g zs) (hp : 0 < n) (hl : n ≤ 1000) (hs0 : (List.range n).all (fun j => match cs[j]? with | some v => shortStr v | none => false) = true) :
    Calls Tryd.prog 31 #[.pointer (some ⟨g, 0, none⟩), .slice (some ⟨w.heap.size, 0, none⟩) n n] (w.alloc (.cells cs 9)) (DrewS g zs w) := by
  have hs : ∀ j, j < n → ∃ v, cs[j]? = some v ∧ shortStr v = true := by
    intro j hj
    have := List.all_eq_true.1 hs0 j (List.mem_range.2 hj)
    cases e : cs[j]? with
    | none => rw [e] at this; cases this
    | some v => rw [e] at this; exact ⟨v, rfl, this⟩
  clear hs0
  have hc0 := hc.al (.cells cs 9)
  have ho0 := (Only.refl g w).al (.cells cs 9)
  have hne : w.heap.size ≠ g := by have := hc.lt; omega
  have hblk : (w.alloc (.cells cs 9)).heap[w.heap.size]? = some (.cells cs 9 (0, 0)) := heap_alloc_new w _
  have HS := Lib.hid hs
  have HB := Lib.hid hblk
  obtain ⟨q, hq⟩ : ∃ q, q = w.heap.size := ⟨_, rfl⟩
  rw [← hq] at hne HB ⊢
  clear hs hblk hc hq
  obtain ⟨u, hu⟩ : ∃ u, u = w.alloc (.cells cs 9) := ⟨_, rfl⟩
  rw [← hu] at hc0 ho0 HB ⊢
  clear hu
  go_enter Tryd.func31, Tryd.ntmps31
  go_wp2_with fail
  refine (spec_l1Below _ _ _ _ (by omega) hc0).mono ?_
  rintro e w1 ⟨x, hx, rfl, hc1, ho1⟩
  have hx0 : 0 ≤ x := hx.1
  have hx1 : x < n := by rcases hx.2 with h | ⟨h, _⟩ <;> omega
  obtain ⟨j, rfl⟩ : ∃ j : Nat, x = (j : Int) := ⟨x.toNat, by omega⟩
  have hj : j < n := by omega
  obtain ⟨v, hv, hsv⟩ := HS.out j hj
  obtain ⟨s, rfl, hss⟩ := shortStr_of hsv
  have cb : w1.cell? ⟨q, j, none⟩ = some (.string s) := by
    refine (ho1.cell (?_ : u.cell? ⟨q, j, none⟩ = some (.string s)) (by simp; exact hne))
    rw [cell_of_row u q j cs _ (0, 0) HB.out]
    exact hv
  clear hx hv hsv HS HB
  go_wp2_with fail
  go_ret
  exact ⟨s, rfl, hss, hc1, ho0.trans ho1⟩








theorem laws_big (A : Option Addr) (n c : Nat) (w : World) (h : n ≤ 1048576) : Calls Tryd.prog 8 #[.slice A n c] w fun e w' => e = .returned (.bool false) ∧ w = w' := by
  go_enter Tryd.func8, Tryd.ntmps8
  go_wp2
  go_ret
  exact ⟨by simp; omega, rfl⟩
theorem laws_big_yes (A : Option Addr) (n c : Nat) (w : World) (h : 1048576 < n) : Calls Tryd.prog 8 #[.slice A n c] w fun e w' => e = .returned (.bool true) ∧ w = w' := by
  go_enter Tryd.func8, Tryd.ntmps8
  go_wp2
  go_ret
  exact ⟨by simp; omega, rfl⟩

end Go.Proofs.YtflpdapalfgodaaDoor
