/-
  Plain laws: what was written is read again, and what was read is what would be written. No function of the program in sight.
-/
import Derived.Test.YtpkaffnmoebgiaaVarD
namespace Go.Proofs.Ytpkaffnmoebgiaa

theorem getD_app {P : List Int} {x : Int} {Y : List Int} {j : Nat} (h : j = P.length) : (P ++ x :: Y).getD j 0 = x := by subst h; simp [List.getD]
theorem pow_succ128 (k : Nat) : (128 : Int) ^ (k + 1) = 128 ^ k * 128 := Int.pow_succ 128 k

theorem rdU_app (m : Nat) : ∀ (r k p : Nat) (y : Int) (P Y : List Int), P.length = p + k → (uvB m).length ≤ r → (0 < k → 1 ≤ m) → y + (m : Int) * 128 ^ k ≤ 1000000000000 →
    rdU (P ++ (uvB m ++ Y)) r p y k = (y + (m : Int) * 128 ^ k, ((p + k + (uvB m).length : Nat) : Int), true) := by
  induction m using Nat.strongRecOn with
  | ind m ih =>
    intro r k p y P Y hP hr hk hmax
    have hpos := uvB_pos m
    obtain ⟨r, rfl⟩ : ∃ r', r = r' + 1 := ⟨r - 1, by omega⟩
    by_cases hm : m < 128
    · rw [uvB_lo hm]
      have hg : (P ++ ([(m : Int)] ++ Y)).getD (p + k) 0 = (m : Int) := getD_app hP.symm
      have e : (m : Int) % 128 = m := by omega
      rw [rdU_last (by simp; omega) (by rw [hg]; omega) (by rw [hg, e]; omega), hg, e]
      simp
    · have hm1 : m / 128 < m := by omega
      have hr' : (uvB m).length = (uvB (m / 128)).length + 1 := by rw [uvB_hi hm]; simp
      rw [hr'] at hr
      have hxs : P ++ (uvB m ++ Y) = (P ++ [((m % 128 + 128 : Nat) : Int)]) ++ (uvB (m / 128) ++ Y) := by rw [uvB_hi hm]; simp
      have hg : (P ++ (uvB m ++ Y)).getD (p + k) 0 = ((m % 128 + 128 : Nat) : Int) := by rw [uvB_hi hm]; exact getD_app hP.symm
      have e : (((m % 128 + 128 : Nat) : Int)) % 128 = (m : Int) % 128 := by omega
      have hy : y + (m : Int) % 128 * 128 ^ k + ((m / 128 : Nat) : Int) * 128 ^ (k + 1) = y + (m : Int) * 128 ^ k := by
        rw [pow_succ128]
        have h1 : (m : Int) = (m : Int) % 128 + ((m / 128 : Nat) : Int) * 128 := by omega
        have h2 : ((m / 128 : Nat) : Int) * (128 ^ k * 128) = ((m / 128 : Nat) : Int) * 128 * 128 ^ k := by rw [Int.mul_comm (128 ^ k) 128, Int.mul_assoc]
        rw [h2, Int.add_assoc, ← Int.add_mul, ← h1]
      rw [rdU_more (by simp; omega) (by rw [hg]; omega), hg, e, hxs, ih (m / 128) hm1 r (k + 1) p _ _ _ (by simp; omega) (by omega) (by omega) (by rw [hy]; exact hmax), hy, hr']
      congr 2
      omega
theorem rdUv_app {N : Nat} (hN : N ≤ 1000000000000) (P Y : List Int) : rdUv (P ++ (uvB N ++ Y)) P.length = ((N : Int), ((P.length + (uvB N).length : Nat) : Int), true) := by
  have hpos := uvB_pos N
  rw [rdUv_in (by simp; omega), rdU_app N 6 0 P.length 0 P Y (by simp) (uvB_len6 hN) (by omega) (by simp; omega)]
  simp

/-- What was read is what would be written. -/
theorem rdU_inv (L : List Int) (hL : ∀ z ∈ L, 0 ≤ z ∧ z ≤ 255) (r : Nat) : ∀ (p : Nat) (y : Int) (k : Nat) (m q : Int), rdU L r p y k = (m, q, true) →
    ∃ (M t : Nat), m = y + (M : Int) * 128 ^ k ∧ q = ((p + k + t : Nat) : Int) ∧ p + k + t ≤ L.length ∧ uvB M = (L.drop (p + k)).take t ∧ (0 < k → 1 ≤ M) ∧ 1 ≤ t := by
  induction r with
  | zero => intro p y k m q h; simp [rdU] at h
  | succ r ih =>
    intro p y k m q h
    by_cases hlen : L.length ≤ p + k
    · rw [rdU_end hlen] at h; simp at h
    · have hlt : p + k < L.length := by omega
      obtain ⟨x0, x1⟩ := hL _ (getD_mem L (p + k) hlt)
      have hdrop : L.drop (p + k) = L.getD (p + k) 0 :: L.drop (p + k + 1) := by
        rw [List.drop_eq_getElem_cons hlt]; simp [List.getD, hlt]
      by_cases hx : 128 ≤ L.getD (p + k) 0
      · rw [rdU_more hlt hx] at h
        obtain ⟨M, t, h1, h2, h3, h4, h5, h6⟩ := ih _ _ _ _ _ h
        have hM : 1 ≤ M := h5 (by omega)
        generalize L.getD (p + k) 0 = x at *
        obtain ⟨X, rfl⟩ : ∃ X : Nat, x = (X : Int) := ⟨x.toNat, by omega⟩
        refine ⟨X % 128 + 128 * M, t + 1, ?_, by omega, by omega, ?_, fun _ => by omega, by omega⟩
        · rw [h1, pow_succ128]
          have e1 : ((X % 128 + 128 * M : Nat) : Int) = (X : Int) % 128 + (M : Int) * 128 := by omega
          have e2 : (M : Int) * (128 ^ k * 128) = (M : Int) * 128 * 128 ^ k := by rw [Int.mul_comm (128 ^ k) 128, Int.mul_assoc]
          rw [e1, Int.add_mul, e2, Int.add_assoc]
        · rw [uvB_hi (by omega), hdrop, List.take_succ_cons]
          have e3 : (X % 128 + 128 * M) / 128 = M := by omega
          have e4 : (X % 128 + 128 * M) % 128 + 128 = X := by omega
          rw [e3, e4, h4, Nat.add_assoc]
      · by_cases hb : (0 < k ∧ L.getD (p + k) 0 = 0) ∨ 1000000000000 < y + L.getD (p + k) 0 % 128 * 128 ^ k
        · rw [rdU_bad hlt hx hb] at h; simp at h
        · rw [rdU_last hlt hx hb] at h
          simp only [Prod.mk.injEq, and_true] at h
          obtain ⟨rfl, rfl⟩ := h
          generalize L.getD (p + k) 0 = x at *
          obtain ⟨X, rfl⟩ : ∃ X : Nat, x = (X : Int) := ⟨x.toNat, by omega⟩
          have e : (X : Int) % 128 = X := by omega
          refine ⟨X, 1, by rw [e], rfl, by omega, ?_, fun hk => ?_, Nat.le_refl _⟩
          · rw [uvB_lo (by omega), hdrop]; simp
          · rcases Nat.eq_zero_or_pos X with h0 | h0
            · exact absurd (.inl ⟨hk, by omega⟩) hb
            · exact h0
theorem rdUv_inv {L : List Int} (hL : ∀ z ∈ L, 0 ≤ z ∧ z ≤ 255) {a m q : Int} (h : rdUv L a = (m, q, true)) :
    ∃ (A M t : Nat), a = (A : Int) ∧ m = (M : Int) ∧ q = ((A + t : Nat) : Int) ∧ A + t ≤ L.length ∧ uvB M = (L.drop A).take t ∧ 1 ≤ t := by
  by_cases ho : a < 0 ∨ (L.length : Int) ≤ a
  · rw [rdUv_out ho] at h; simp at h
  · obtain ⟨A, rfl⟩ : ∃ A : Nat, a = (A : Int) := ⟨a.toNat, by omega⟩
    rw [rdUv_in (by omega)] at h
    obtain ⟨M, t, h1, h2, h3, h4, _, h6⟩ := rdU_inv L hL 6 A 0 0 m q h
    exact ⟨A, M, t, rfl, by simpa using h1, by simpa using h2, by simpa using h3, by simpa using h4, h6⟩

/-- A byte string that was written is read again. -/
theorem rb_app (b d : List Int) (hd : d.length ≤ 1000000000000) :
    rdB (b ++ uvO d.length ++ d) b.length d.length = d ∧ rdN (b ++ uvO d.length ++ d) b.length d.length = ((b ++ uvO d.length ++ d).length : Int) ∧ rdOk (b ++ uvO d.length ++ d) b.length d.length = true ∧ rdOk (b ++ uvO d.length ++ d) b.length ((d.length : Int) - 1) = false := by
  rw [uvO_in hd, List.append_assoc]
  have hr := rdUv_app hd b d
  have hok : RBok (b ++ (uvB d.length ++ d)) b.length d.length := by
    unfold RBok; rw [hr]; simp; omega
  have hno : ¬ RBok (b ++ (uvB d.length ++ d)) b.length ((d.length : Int) - 1) := by
    unfold RBok; rw [hr]; simp; omega
  refine ⟨?_, ?_, ?_, ?_⟩
  · unfold rdB
    rw [if_pos hok, hr]
    simp only [Int.toNat_natCast]
    rw [← List.append_assoc, show b.length + (uvB d.length).length = (b ++ uvB d.length).length by simp, List.drop_left, List.take_length]
  · unfold rdN
    rw [if_pos hok, hr]
    simp
    omega
  · unfold rdOk; rw [if_pos hok]
  · unfold rdOk; rw [if_neg hno]

/-- A list that was written is read again; one more is not there. -/
theorem decI_app (vs : List Int) : ∀ (P acc : List Int), (∀ z ∈ vs, 0 ≤ z ∧ z ≤ 1000000000000) → decI (P ++ encL vs) vs.length P.length acc = (acc ++ vs, ((P ++ encL vs).length : Int), true) ∧ decI (P ++ encL vs) (vs.length + 1) P.length acc = ([], 0, false) := by
  induction vs with
  | nil =>
    intro P acc _
    refine ⟨by simp [decI, encL], ?_⟩
    have h : rdUv (P ++ encL []) P.length = (0, 0, false) := rdUv_out (by simp [encL])
    rw [List.length_nil, decI_no h]
  | cons x l ih =>
    intro P acc hx
    obtain ⟨x0, x1⟩ := hx x (by simp)
    obtain ⟨X, rfl⟩ : ∃ X : Nat, x = (X : Int) := ⟨x.toNat, by omega⟩
    have hX : X ≤ 1000000000000 := by omega
    have he : encL ((X : Int) :: l) = uvB X ++ encL l := by simp [encL, uvO_in hX]
    have h := rdUv_app hX P (encL l)
    obtain ⟨i1, i2⟩ := ih (P ++ uvB X) (acc ++ [(X : Int)]) (fun z hz => hx z (by simp [hz]))
    rw [List.length_append, List.append_assoc, List.append_assoc] at i1
    rw [List.length_append, List.append_assoc] at i2
    rw [he, List.length_cons]
    refine ⟨?_, ?_⟩
    · rw [decI_yes h, i1]; simp
    · rw [decI_yes h, i2]
theorem decT_app (vs : List Int) (hl : vs.length < 100) (h : ∀ z ∈ vs, 0 ≤ z ∧ z ≤ 1000000000000) : decT (encL vs) 0 vs.length = (vs, ((encL vs).length : Int), true) ∧ decT (encL vs) 0 ((vs.length : Int) + 1) = ([], 0, false) := by
  obtain ⟨h1, h2⟩ := decI_app vs [] [] h
  refine ⟨?_, ?_⟩
  · unfold decT; rw [if_pos (by omega)]; simpa using h1
  · unfold decT; rw [if_pos (by omega)]
    have e : ((vs.length : Int) + 1).toNat = vs.length + 1 := by omega
    rw [e]; simpa using h2

end Go.Proofs.Ytpkaffnmoebgiaa
