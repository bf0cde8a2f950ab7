/-
  Plain arithmetic for this seat: range test, modulus, rounded-up quotient, the symbolic hash. No Go in sight.
-/
import Derived.IntWalk
namespace Go.Proofs.Ytfenmicakmjelaa.M

def inR (n lo hi : Int) : Bool := decide (lo ≤ n) && decide (n ≤ hi)
theorem inR_iff (n lo hi : Int) : inR n lo hi = true ↔ lo ≤ n ∧ n ≤ hi := by simp [inR]
theorem inR_true {n lo hi : Int} (h : lo ≤ n ∧ n ≤ hi) : inR n lo hi = true := (inR_iff _ _ _).2 h
theorem inR_false {n lo hi : Int} (h : ¬ (lo ≤ n ∧ n ≤ hi)) : inR n lo hi = false := by
  cases e : inR n lo hi
  · rfl
  · exact absurd ((inR_iff _ _ _).1 e) h

def mod (p q : Int) : Int := if 1 ≤ q ∧ q ≤ 1000000000000 then p % q else 0
theorem mod_in {p q : Int} (h : 1 ≤ q ∧ q ≤ 1000000000000) : mod p q = p % q := if_pos h
theorem mod_out {p q : Int} (h : ¬ (1 ≤ q ∧ q ≤ 1000000000000)) : mod p q = 0 := if_neg h

def max (a b : Int) : Int := if a < b then b else a
def min (a b : Int) : Int := if b < a then b else a

def cdiv (a b : Int) : Int := if (0 ≤ a ∧ a ≤ 1000000000000) ∧ (1 ≤ b ∧ b ≤ 1000000000000) then (a + b - 1) / b else 0

def step (acc v : Int) : Int := (acc * 1000003 + v % 2147483647 + 13) % 2147483647
theorem step_bd (acc v : Int) : 0 ≤ step acc v ∧ step acc v < 2147483647 := by unfold step; omega

def hash (l : List Int) : Int := l.foldl step 11
theorem foldl_bd (l : List Int) : ∀ a : Int, 0 ≤ a → a < 2147483647 → 0 ≤ l.foldl step a ∧ l.foldl step a < 2147483647 := by
  induction l with
  | nil => intro a h0 h1; exact ⟨h0, h1⟩
  | cons x l ih => intro a _ _; exact ih _ (step_bd a x).1 (step_bd a x).2
theorem hash_bd (l : List Int) : 0 ≤ hash l ∧ hash l < 2147483647 := foldl_bd l 11 (by omega) (by omega)
theorem hash_snoc (l : List Int) (x : Int) : hash (l ++ [x]) = step (hash l) x := by simp [hash]

def kh (k : Int) (l : List Int) : Int := hash (k :: (l ++ [k]))
theorem kh_bd (k : Int) (l : List Int) : 0 ≤ kh k l ∧ kh k l < 2147483647 := hash_bd _
theorem kh_eq (k : Int) (l : List Int) : kh k l = step (l.foldl step (step 11 k)) k := by simp [kh, hash]


def vSid (a b : Int) : Bool := inR a 0 3 && inR b 0 99
def vTid (a b : Int) : Bool := inR a 0 3 && inR b 0 9999
def vCard (a b k s : Int) : Bool := vSid a b && (inR k 1 2147483646 && inR s 0 999999)

end Go.Proofs.Ytfenmicakmjelaa.M
