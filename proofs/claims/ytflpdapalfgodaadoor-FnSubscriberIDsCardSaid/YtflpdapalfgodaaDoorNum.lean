/-
  Plain laws: a number written and read again, an identity written and read again. No function of the program in sight.
-/
import Derived.Test.YtflpdapalfgodaaDoorCut
import Derived.Test.YtflpdapalfgodaaDoorFmt
namespace Go.Proofs.YtflpdapalfgodaaDoor
open Go.RowKit Go.Lib

theorem decLen (k : Nat) : ∀ u : Nat, u < 10 ^ (k + 1) → (decDigits u).length ≤ k + 1 := by
  induction k with
  | zero => intro u h; rw [decDigits_lo (by simpa using h)]; simp
  | succ k ih =>
    intro u h
    by_cases h10 : u < 10
    · rw [decDigits_lo h10]; simp
    · rw [decDigits_hi h10, List.length_append, List.length_singleton]
      have := ih (u / 10) (by rw [Nat.pow_succ] at h; omega)
      omega
theorem itoa_nn {m : Int} (h : 0 ≤ m) : itoa m = decDigits m.toNat := by unfold itoa; rw [if_neg (by omega)]
theorem pOkI_iff (l : List UInt8) : pOkI l = true ↔ 1 ≤ l.length ∧ l.length ≤ 13 ∧ (∀ c ∈ l, isDig c = true) ∧ ¬ (1 < l.length ∧ l.head? = some 48) ∧ pVal l ≤ 1000000000000 := by
  unfold pOkI
  simp only [Bool.and_eq_true, decide_eq_true_eq, List.all_eq_true, Bool.not_eq_true', Bool.and_eq_false_iff, decide_eq_false_iff_not, beq_eq_false_iff_ne]
  constructor
  · rintro ⟨h1, h2, h3, h4, h5⟩
    refine ⟨h1, h2, h3, fun ⟨h6, h7⟩ => ?_, h5⟩
    rcases h4 with h4 | h4
    · exact h4 h6
    · exact h4 h7
  · rintro ⟨h1, h2, h3, h4, h5⟩
    refine ⟨h1, h2, h3, ?_, h5⟩
    by_cases h6 : 1 < l.length
    · exact .inr fun h7 => h4 ⟨h6, h7⟩
    · exact .inl h6
theorem itoa_in {m : Int} (h0 : 0 ≤ m) (h1 : m ≤ 1000000000000) : pOkI (itoa m) = true ∧ pNum (itoa m) = m := by
  obtain ⟨p1, p2, p3, p4⟩ := pVal_dec m.toNat
  have hl := decLen 12 m.toNat (by omega)
  have hk : pOkI (itoa m) = true := by
    rw [itoa_nn h0, pOkI_iff]
    refine ⟨?_, hl, p2, fun ⟨a, b⟩ => p4 a b, by omega⟩
    exact List.length_pos_iff.2 p3
  refine ⟨hk, ?_⟩
  rw [pNum_yes hk, itoa_nn h0, p1]
  omega
theorem itoa_out {m : Int} (h : ¬ (0 ≤ m ∧ m ≤ 1000000000000)) : pOkI (itoa m) = false := by
  by_cases h0 : 0 ≤ m
  · apply pOkI_no_big
    rw [itoa_nn h0, (pVal_dec m.toNat).1]
    omega
  · apply pOkI_no_dig 0
    · unfold itoa; rw [if_pos (by omega)]; simp
    · unfold itoa; rw [if_pos (by omega)]; rfl
theorem itoa_back {l : List UInt8} (h : pOkI l = true) : itoa (pNum l) = l := by
  obtain ⟨h1, _, h3, h4, _⟩ := (pOkI_iff l).1 h
  rw [pNum_yes h, itoa_nn (by omega)]
  rw [Int.toNat_natCast]
  exact dec_pVal l (by intro e; subst e; simp at h1) h3 (fun a b => h4 ⟨a, b⟩)
theorem itoa_back_s {s : ByteArray} (h : pOkI s.data.toList = true) : (⟨(itoa (pNum s.data.toList)).toArray⟩ : ByteArray) = s := by
  rw [itoa_back h]
theorem pNum_wf (l : List UInt8) : (Lit.int .i64 (pNum l)).wf = true := by
  unfold pNum
  split
  · next h =>
    obtain ⟨_, _, _, _, h5⟩ := (pOkI_iff l).1 h
    exact WalkArith.wf_i64 (by omega)
  · decide

/-! ### CeilDiv and Mod -/
theorem cd_out {a b : Int} (h : b < 1 ∨ 1000000000000 < b) : M.cdiv a b = 0 ∧ M.mod a b = 0 := by
  unfold M.cdiv M.mod
  rw [if_neg (by omega), if_neg (by omega)]
  exact ⟨rfl, rfl⟩
theorem cd_far {a b : Int} (h : a < 0 ∨ 1000000000000 < a) : M.cdiv a b = 0 := by unfold M.cdiv; rw [if_neg (by omega)]
theorem cd_in {a b : Int} (a0 : 0 ≤ a) (a1 : a ≤ 1000000000000) (b0 : 1 ≤ b) (b1 : b ≤ 1000000000000) :
    a ≤ M.cdiv a b * b ∧ M.cdiv a b * b < a + b ∧ 0 ≤ M.cdiv a b := by
  unfold M.cdiv
  rw [if_pos ⟨⟨a0, a1⟩, b0, b1⟩]
  have h1 := Int.emod_add_mul_ediv (a + b - 1) b
  have h2 := Int.emod_nonneg (a + b - 1) (show b ≠ 0 by omega)
  have h3 := Int.emod_lt_of_pos (a + b - 1) (show 0 < b by omega)
  have h4 : 0 ≤ (a + b - 1) / b := Int.ediv_nonneg (by omega) (by omega)
  rw [Int.mul_comm b] at h1
  omega
theorem md_in {a b : Int} (b0 : 1 ≤ b) (b1 : b ≤ 1000000000000) : 0 ≤ M.mod a b ∧ M.mod a b < b ∧ (a.tmod b - M.mod a b).tmod b = 0 ∧ -1000000000000 < a.tmod b ∧ a.tmod b < 1000000000000 := by
  rw [M.mod_in ⟨b0, b1⟩]
  obtain ⟨t1, t2, t3⟩ := tmod_facts a b b0
  have h2 := Int.emod_nonneg a (show b ≠ 0 by omega)
  have h3 := Int.emod_lt_of_pos a (show 0 < b by omega)
  refine ⟨h2, h3, ?_, by omega, by omega⟩
  by_cases h : 0 ≤ a.tmod b
  · rw [← t3, Int.add_emod_right, Int.emod_eq_of_lt h t2, Int.sub_self]; simp
  · rw [← t3, Int.emod_eq_of_lt (by omega) (by omega)]
    have e : a.tmod b - (a.tmod b + b) = -b := by omega
    rw [e, Int.neg_tmod, Int.tmod_self]
    rfl

/-! ### Identities -/
theorem dig_ne {c : UInt8} (h : isDig c = true) : c ≠ 45 := by
  intro e; subst e; exact absurd h (by decide)
theorem ib_app (l r : List UInt8) (h : ∀ c ∈ l, isDig c = true) : Lib.indexByte (l ++ 45 :: r) 45 = (l.length : Int) := by
  induction l with
  | nil => rfl
  | cons a l ih =>
    have ha : ¬ (a == 45) = true := by simpa using dig_ne (h a (by simp))
    have h2 := ih (fun c hc => h c (by simp [hc]))
    rw [List.cons_append]
    unfold Lib.indexByte
    rw [if_neg ha, h2, if_neg (by simp)]
    simp
theorem sid_fmt {a b : Int} (h : M.vSid a b = true) : sidOk (itoa a ++ 45 :: itoa b) = true ∧ sidX (itoa a ++ 45 :: itoa b) = a ∧ sidY (itoa a ++ 45 :: itoa b) = b := by
  have hv := h
  unfold M.vSid M.inR at hv
  simp at hv
  obtain ⟨⟨a0, a1⟩, b0, b1⟩ := hv
  obtain ⟨o1, n1⟩ := itoa_in (m := a) a0 (by omega)
  obtain ⟨o2, n2⟩ := itoa_in (m := b) b0 (by omega)
  have hi := ib_app (itoa a) (itoa b) ((pOkI_iff _).1 o1).2.2.1
  have hne : ¬ ((itoa a).length : Int) = -1 := by omega
  have ht : (itoa a ++ 45 :: itoa b).take (itoa a).length = itoa a := by simp
  have hd : (itoa a ++ 45 :: itoa b).drop ((itoa a).length + 1) = itoa b := by
    rw [List.drop_append]
    simp
  have hA : sidA (itoa a ++ 45 :: itoa b) = a := by unfold sidA; rw [hi, if_neg hne, Int.toNat_natCast, ht, n1]
  have hB : sidB (itoa a ++ 45 :: itoa b) = b := by unfold sidB; rw [hi, if_neg hne, Int.toNat_natCast, hd, n2]
  have hO : sidOk (itoa a ++ 45 :: itoa b) = true := by
    unfold sidOk
    rw [hA, hB, h, hi, Int.toNat_natCast, ht, hd, o1, o2, decide_eq_false hne]
    rfl
  exact ⟨hO, by unfold sidX; rw [if_pos hO, hA], by unfold sidY; rw [if_pos hO, hB]⟩
theorem sid_nil : sidOk [] = false := by rfl
/-- An identity read from a string is written as that string. -/
theorem sid_back {l : List UInt8} (h : sidOk l = true) : itoa (sidX l) ++ 45 :: itoa (sidY l) = l ∧ M.vSid (sidX l) (sidY l) = true := by
  have hX : sidX l = sidA l := by unfold sidX; rw [if_pos h]
  have hY : sidY l = sidB l := by unfold sidY; rw [if_pos h]
  unfold sidOk at h
  simp only [Bool.and_eq_true, Bool.not_eq_true', decide_eq_false_iff_not] at h
  obtain ⟨h1, h2, h3, h4⟩ := h
  rw [hX, hY]
  refine ⟨?_, h4⟩
  have eA : itoa (sidA l) = l.take (Lib.indexByte l 45).toNat := by unfold sidA; rw [if_neg h1]; exact itoa_back h2
  have eB : itoa (sidB l) = l.drop ((Lib.indexByte l 45).toNat + 1) := by unfold sidB; rw [if_neg h1]; exact itoa_back h3
  rw [eA, eB]
  rcases indexByte_cases l 45 with ⟨h5, _⟩ | ⟨i, h5, h6, h7, _⟩
  · exact absurd h5 h1
  · rw [h5, Int.toNat_natCast]
    have e45 : l.getD i 0 = l[i] := by simp [List.getD, h6]
    rw [e45] at h7
    rw [← h7, ← List.drop_eq_getElem_cons h6, List.take_append_drop]
/-- The written form as a row of bytes. -/
theorem fmtS_yes {a b : Int} (h : M.vSid a b = true) : (fmtS a b).data.toList = itoa a ++ 45 :: itoa b := by
  unfold fmtS
  rw [if_pos h]
  unfold fmtY
  simp
theorem fmtS_no {a b : Int} (h : M.vSid a b = false) : (fmtS a b).data.toList = [] := by
  unfold fmtS
  rw [h]
  rfl
theorem fmtS_of {s : ByteArray} (h : sidOk s.data.toList = true) : fmtS (sidX s.data.toList) (sidY s.data.toList) = s := by
  obtain ⟨h1, h2⟩ := sid_back h
  apply ByteArray.ext
  apply Array.toList_inj.1
  rw [fmtS_yes h2, h1]
theorem sidX_wf (l : List UInt8) : (Lit.int .i64 (sidX l)).wf = true ∧ (Lit.int .i64 (sidY l)).wf = true := by
  have hA : (Lit.int .i64 (sidA l)).wf = true := by unfold sidA; split; · decide
                                                    · exact pNum_wf _
  have hB : (Lit.int .i64 (sidB l)).wf = true := by unfold sidB; split; · decide
                                                    · exact pNum_wf _
  unfold sidX sidY
  constructor
  · split
    · exact hA
    · decide
  · split
    · exact hB
    · decide
end Go.Proofs.YtflpdapalfgodaaDoor
