/-
  Contracts: masks, sequence numbers, authentication vectors and resynchronization tokens.
-/
import Derived.Test.YthonjmkigigcdaaHash
import Derived.Test.YthonjmkigigcdaaIds
import Derived.Test.YthonjmkigigcdaaMemA
namespace Go.Proofs.Ythonjmkigigcdaa
open Go.RowKit

namespace M
def mask (k r : Int) : Int := kh k [1, r] % 1000000
theorem mask_bd (k r : Int) : 0 ≤ mask k r ∧ mask k r < 1000000 := by unfold mask; omega
def unmask (k r a : Int) : Int := (a % 1000000 - mask k r) % 1000000
theorem unmask_bd (k r a : Int) : 0 ≤ unmask k r a ∧ unmask k r a < 1000000 := by unfold unmask; omega
def pos1 (h : Int) : Int := if h = 0 then 1 else h
theorem max_pos1 (h : Int) (h0 : 0 ≤ h) : max 1 h = pos1 h := by
  unfold max pos1
  by_cases e : h = 0
  · rw [if_neg (by omega), if_pos e]
  · rw [if_neg e]
    by_cases e1 : 1 < h
    · rw [if_pos e1]
    · rw [if_neg e1]; omega
theorem pos1_bd (h : Int) (h0 : 0 ≤ h) (h1 : h < 2147483647) : 1 ≤ pos1 h ∧ pos1 h < 2147483647 := by
  unfold pos1; by_cases e : h = 0
  · rw [if_pos e]; omega
  · rw [if_neg e]; omega
def nv0 (r s : Int) : Int := if inR s 0 999999 = true then r else 0
def nv1 (k r s : Int) : Int := if inR s 0 999999 = true then (s + mask k r) % 1000000 else 0
def nv2 (k r s : Int) : Int := if inR s 0 999999 = true then kh k [2, r, s] else 0
def nv3 (k r s : Int) : Int := if inR s 0 999999 = true then kh k [3, r] else 0
def nv4 (k r s : Int) : Int := if inR s 0 999999 = true then pos1 (kh k [4, r, s]) else 0
def token (k r l : Int) : Int := if inR l 0 999999 = true then 1000000 * (kh k [5, r, l] % 1000) + l else -1
theorem token_bd (k r l : Int) : -1 ≤ token k r l ∧ token k r l < 1000000000 := by
  unfold token
  by_cases e : inR l 0 999999 = true
  · rw [if_pos e]
    have := (inR_iff _ _ _).1 e
    omega
  · rw [if_neg e]; omega
def pOk (k r t : Int) : Bool := decide (token k r (t % 1000000) = t)
def pSeq (k r t : Int) : Int := if pOk k r t = true then t % 1000000 else 0
def verify (k last r a m : Int) : Int :=
  if m = kh k [2, r, unmask k r a] then (if unmask k r a ≤ last then 2 else if last + 1000 < unmask k r a then 3 else 0) else 1
end M

end Go.Proofs.Ythonjmkigigcdaa
