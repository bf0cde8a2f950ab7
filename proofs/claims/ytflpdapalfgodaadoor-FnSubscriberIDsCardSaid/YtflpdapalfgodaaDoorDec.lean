/-
  Plain laws of decimal numerals: digits read, digits written; a numeral without a leading zero is the one that is written. No function of the program in sight.
-/
import Derived.Lib.ItoaNum
namespace Go.Proofs.YtflpdapalfgodaaDoor
open Go.Lib

theorem snocInd {α : Type} {C : List α → Prop} (h0 : C []) (h1 : ∀ l a, C l → C (l ++ [a])) (l : List α) : C l := by
  have h : ∀ l : List α, C l.reverse := by
    intro l
    induction l with
    | nil => exact h0
    | cons a l ih => rw [List.reverse_cons]; exact h1 _ a ih
  have := h l.reverse
  rwa [List.reverse_reverse] at this
def isDig (c : UInt8) : Bool := decide (48 ≤ c.toNat) && decide (c.toNat ≤ 57)
theorem isDig_iff (c : UInt8) : isDig c = true ↔ 48 ≤ c.toNat ∧ c.toNat ≤ 57 := by simp [isDig]
/-- The value of a row of digits. -/
def pVal (l : List UInt8) : Nat := l.foldl (fun n c => n * 10 + (c.toNat - 48)) 0
theorem pVal_snoc (l : List UInt8) (c : UInt8) : pVal (l ++ [c]) = pVal l * 10 + (c.toNat - 48) := by simp [pVal]
theorem pVal_lt (l : List UInt8) (h : ∀ c ∈ l, isDig c = true) : pVal l < 10 ^ l.length := by
  induction l using snocInd with
  | h0 => simp [pVal]
  | h1 l c ih =>
    have hc := (isDig_iff c).1 (h c (by simp))
    have := ih (fun d hd => h d (by simp [hd]))
    rw [pVal_snoc, List.length_append, List.length_singleton, Nat.pow_succ]
    omega
theorem decDigits_lo {u : Nat} (h : u < 10) : decDigits u = [UInt8.ofNat (48 + u)] := by rw [decDigits, dif_pos h]
theorem decDigits_hi {u : Nat} (h : ¬ u < 10) : decDigits u = decDigits (u / 10) ++ [UInt8.ofNat (48 + u % 10)] := by rw [decDigits, dif_neg h]
theorem ofNat_dig {c : UInt8} (h : isDig c = true) : UInt8.ofNat (48 + (c.toNat - 48)) = c := by
  have hc := (isDig_iff c).1 h
  apply UInt8.toNat_inj.1
  simp
  omega
theorem toNat_dig {d : Nat} (h : d < 10) : (UInt8.ofNat (48 + d)).toNat = 48 + d := by simp; omega
/-- Written, then read. -/
theorem pVal_dec (u : Nat) : pVal (decDigits u) = u ∧ (∀ c ∈ decDigits u, isDig c = true) ∧ decDigits u ≠ [] ∧ (1 < (decDigits u).length → (decDigits u).head? ≠ some 48) := by
  induction u using Nat.strongRecOn with
  | ind u ih =>
    by_cases h : u < 10
    · rw [decDigits_lo h]
      refine ⟨?_, ?_, by simp, by simp⟩
      · rw [show [UInt8.ofNat (48 + u)] = [] ++ [UInt8.ofNat (48 + u)] from rfl, pVal_snoc, toNat_dig h]; simp [pVal]
      · intro c hc
        rw [List.mem_singleton] at hc
        subst hc
        rw [isDig_iff, toNat_dig h]
        omega
    · obtain ⟨h1, h2, h3, h4⟩ := ih (u / 10) (by omega)
      have hd : u % 10 < 10 := by omega
      rw [decDigits_hi h]
      refine ⟨?_, ?_, by simp, fun _ => ?_⟩
      · rw [pVal_snoc, h1, toNat_dig hd]; omega
      · intro c hc
        rcases List.mem_append.1 hc with hc | hc
        · exact h2 c hc
        · rw [List.mem_singleton] at hc; subst hc; rw [isDig_iff, toNat_dig hd]; omega
      · intro hh
        cases e : decDigits (u / 10) with
        | nil => exact h3 e
        | cons a t =>
          rw [e] at hh h1 h2 h4
          simp at hh
          subst hh
          cases t with
          | nil => simp [pVal] at h1; omega
          | cons b t => exact h4 (by simp) rfl
/-- Read, then written: the same row, if it has no leading zero. -/
theorem dec_pVal (l : List UInt8) (hne : l ≠ []) (h : ∀ c ∈ l, isDig c = true) (hz : 1 < l.length → l.head? ≠ some 48) : decDigits (pVal l) = l := by
  induction l using snocInd with
  | h0 => exact absurd rfl hne
  | h1 l c ih =>
    have hc := h c (by simp)
    have hc2 := (isDig_iff c).1 hc
    rw [pVal_snoc]
    cases l with
    | nil => simp only [pVal, List.foldl_nil, List.nil_append, Nat.zero_mul, Nat.zero_add]; rw [decDigits_lo (by omega), ofNat_dig hc]
    | cons a t =>
      have h1 : (a :: t) ≠ [] := by simp
      have hz1 : (a :: t).head? ≠ some 48 := by
        have := hz (by simp)
        simpa using this
      have hih := ih h1 (fun d hd => h d (by simp only [List.mem_append]; exact .inl hd)) (fun _ => hz1)
      have hpos : 1 ≤ pVal (a :: t) := by
        rcases Nat.eq_zero_or_pos (pVal (a :: t)) with h0 | h0
        · rw [h0, decDigits_lo (by omega)] at hih
          have := congrArg List.head? hih
          simp at this
          exact absurd (by rw [← this]; rfl) hz1
        · exact h0
      have hbig : ¬ pVal (a :: t) * 10 + (c.toNat - 48) < 10 := by omega
      have e1 : (pVal (a :: t) * 10 + (c.toNat - 48)) / 10 = pVal (a :: t) := by omega
      have e2 : (pVal (a :: t) * 10 + (c.toNat - 48)) % 10 = c.toNat - 48 := by omega
      rw [decDigits_hi hbig, e1, e2, hih, ofNat_dig hc]
/-- A leading zero shows. -/
theorem dec_zero (l : List UInt8) (h : 1 < l.length) (hz : l.head? = some 48) : decDigits (pVal l) ≠ l := by
  intro e
  obtain ⟨_, _, _, h4⟩ := pVal_dec (pVal l)
  rw [e] at h4
  exact h4 h hz

/-- The digits of a number, none for 0. -/
def dz (u : Nat) : List UInt8 := if u = 0 then [] else decDigits u
theorem dz_zero : dz 0 = [] := rfl
theorem dz_pos {u : Nat} (h : u ≠ 0) : dz u = decDigits u := if_neg h
theorem dz_step {u : Nat} (h : u ≠ 0) : dz u = dz (u / 10) ++ [UInt8.ofNat (48 + u % 10)] := by
  rw [dz_pos h]
  by_cases hu : u < 10
  · have e1 : u / 10 = 0 := by omega
    have e2 : u % 10 = u := by omega
    rw [decDigits_lo hu, e1, dz_zero, e2]; rfl
  · rw [decDigits_hi hu, dz_pos (by omega)]
def DzR (N X : Nat) (D : List UInt8) : Prop := dz X ++ D = dz N
theorem DzR.start (N : Nat) : DzR N N [] := by simp [DzR]
theorem DzR.next {N X : Nat} {D : List UInt8} (h : DzR N X D) (hX : X ≠ 0) : DzR N (X / 10) (UInt8.ofNat (48 + X % 10) :: D) := by
  unfold DzR at *
  rw [← h, dz_step hX]
  simp
theorem DzR.last {N : Nat} {D : List UInt8} (h : DzR N 0 D) (hN : N ≠ 0) : D = decDigits N := by
  unfold DzR at h
  rw [dz_zero, dz_pos hN] at h
  simpa using h

/-- What a string of digits denotes: its number, if it is in range and has no leading zero. -/
def pOkI (l : List UInt8) : Bool := decide (1 ≤ l.length) && (decide (l.length ≤ 13) && (l.all isDig && (!(decide (1 < l.length) && (l.head? == some 48)) && decide (pVal l ≤ 1000000000000))))
def pNum (l : List UInt8) : Int := if pOkI l = true then (pVal l : Int) else 0

end Go.Proofs.YtflpdapalfgodaaDoor
