/-
  Contracts: keys derived from strings.
-/
import Derived.Test.YtgoelmhaobloaaaAuth
import Derived.Test.YtgoelmhaobloaaaBytes
import Derived.Laws.IdiomStrings
namespace Go.Proofs.Ytgoelmhaobloaaa
open Go.RowKit

/-- A string's bytes as numbers. -/
def bytesOf (s : ByteArray) : List Int := s.data.toList.map fun b => (b.toNat : Int)
theorem bytesOf_length (s : ByteArray) : (bytesOf s).length = s.size := by simp [bytesOf]
theorem bytesOf_wf (s : ByteArray) : ∀ z ∈ bytesOf s, (Lit.int .u8 z).wf = true := by
  intro z hz
  simp only [bytesOf, List.mem_map] at hz
  obtain ⟨b, _, rfl⟩ := hz
  have : b.toNat < 256 := b.toNat_lt
  exact WalkArith.wf_u8 (by omega)
theorem Rd.str (w : World) (s : ByteArray) (cap g : Nat) (e : TypeId) (fr : Nat × Nat) (hg : g = w.heap.size) (hc : s.size ≤ cap) (hm : cap ≤ maxLen) :
    Rd .u8 (w.alloc (.cells (bytesRow s cap) e fr)) (.slice (some ⟨g, 0, none⟩) s.size cap) (bytesOf s) := by
  subst hg
  refine ⟨_, cap, by rw [bytesOf_length], by rw [bytesOf_length]; exact hc, hm, fun _ => ⟨w.heap.size, 0, rfl, by simp, fun j hj => ?_⟩⟩
  rw [bytesOf_length] at hj
  have hj' : j < s.data.size := hj
  have e1 : (bytesRow s cap)[j]? = some (.int .u8 (s.data[j]'hj').toNat) := by
    rw [bytesRow, Array.getElem?_append_left (by simpa using hj), Array.getElem?_map, Array.getElem?_eq_getElem hj']
    rfl
  have e2 : (bytesOf s).getD j 0 = ((s.data[j]'hj').toNat : Int) := by
    have h := Array.getElem?_eq_getElem hj'
    simp [bytesOf, List.getD, h]
  rw [e2, ← e1, Nat.zero_add, cell_of_row _ w.heap.size j (bytesRow s cap) e fr (heap_alloc_new w _)]

namespace M
def dfs (k : Int) (s : ByteArray) : Int := pos1 (kh k ((s.size : Int) :: bytesOf s))
end M

set_option maxHeartbeats 1000000 in
theorem impl_DeriveFromString (k : Int) (s : ByteArray) (w : World) (hk : (Lit.int .i64 k).wf = true) (hs : s.size ≤ 1048576) :
    Calls Try.prog 27 #[.int .i64 k, .string s] w fun e w' => e = .returned (.int .i64 (M.dfs k s)) ∧ Below w.heap.size w w' := by
  unfold M.dfs M.pos1
  have hcv := fun w s => run_bytes_of_string (P := Try.prog) w 9 40 5 s Try.underlying9 Try.underlying40 Try.underlying5
  have hcap := grownCap_le_maxLen w s.size 0 5 (by unfold maxLen; omega)
  have hge := grownCap_ge w s.size 0 5
  have hwf : ∀ z ∈ (s.size : Int) :: bytesOf s, (Lit.int .i64 z).wf = true := by
    intro z hz
    rcases List.mem_cons.1 hz with rfl | hz
    · exact WalkArith.wf_i64 (by omega)
    · have := bounds_u8 (bytesOf_wf s z hz); exact WalkArith.wf_i64 (by omega)
  cases hz : (M.kh k ((s.size : Int) :: bytesOf s) == 0)
  all_goals
    have hz' := hz
    simp only [beq_iff_eq, beq_eq_false_iff_ne, ne_eq] at hz'
    simp only [hz', if_true, if_false]
    have HZ := Lib.hid hz'
    clear hz'
    go_enter Try.func27, Try.ntmps27
    go_wp2_with fail
    generalize grownCap w s.size 0 5 = cap at hcap hge ⊢
    refine (impl_BytesToInts _ (bytesOf s) _ (Rd.str w.drew s cap _ 5 _ rfl hge hcap) (bytesOf_wf s) (by rw [bytesOf_length]; omega)).mono ?_
    rintro e u1 ⟨v, rfl, o1, b1⟩
    rw [bytesOf_length] at o1
    go_wp2_with fail
    refine (impl_KeyedHash _ _ _ _ hk o1.rd hwf).mono ?_
    rintro e w' ⟨rfl, rfl⟩
    go_wp2
    go_ret
    exact ⟨rfl, Below.next (Below.al (Below.drew (Below.refl _ _)) _) b1⟩
set_option maxHeartbeats 1000000 in
theorem spec_DeriveFromString (k : Int) (s : ByteArray) (w : World) (hk : (Lit.int .i64 k).wf = true) (hs : s.size ≤ 1048576) :
    Calls Try.prog 26 #[.int .i64 k, .string s] w fun e w' => e = .returned (.int .i64 (M.dfs k s)) ∧ Below w.heap.size w w' := by
  have hcv := fun w s => run_bytes_of_string (P := Try.prog) w 9 40 5 s Try.underlying9 Try.underlying40 Try.underlying5
  have hcap := grownCap_le_maxLen w s.size 0 5 (by unfold maxLen; omega)
  have hge := grownCap_ge w s.size 0 5
  have hwf : ∀ z ∈ (s.size : Int) :: bytesOf s, (Lit.int .i64 z).wf = true := by
    intro z hz
    rcases List.mem_cons.1 hz with rfl | hz
    · exact WalkArith.wf_i64 (by omega)
    · have := bounds_u8 (bytesOf_wf s z hz); exact WalkArith.wf_i64 (by omega)
  obtain ⟨q0, q1⟩ := M.kh_bd k ((s.size : Int) :: bytesOf s)
  have hp : M.max 1 (M.kh k ((s.size : Int) :: bytesOf s)) = M.dfs k s := M.max_pos1 _ q0
  go_enter Try.func26, Try.ntmps26
  go_wp2_with fail
  generalize grownCap w s.size 0 5 = cap at hcap hge ⊢
  refine (spec_BytesToInts _ (bytesOf s) _ (Rd.str w.drew s cap _ 5 _ rfl hge hcap) (bytesOf_wf s) (by rw [bytesOf_length]; omega)).mono ?_
  rintro e u1 ⟨v, rfl, o1, b1⟩
  rw [bytesOf_length] at o1
  go_wp2_with fail
  refine (spec_KeyedHash _ _ _ _ hk o1.rd hwf (by simp [bytesOf_length]; omega)).mono ?_
  rintro e u2 ⟨rfl, b2⟩
  go_wp2_with fail
  refine (spec_Max _ _ _).mono ?_
  rw [hp]
  rintro e w' ⟨rfl, rfl⟩
  go_wp2
  go_ret
  exact ⟨rfl, Below.next (Below.next (Below.al (Below.drew (Below.refl _ _)) _) b1) b2⟩

end Go.Proofs.Ytgoelmhaobloaaa
