/-
  Contracts: variable-length numbers written and read, by the program and by the reference.
-/
import Derived.Test.YtpkaffnmoebgiaaBytes
import Derived.Test.YtpkaffnmoebgiaaUv
namespace Go.Proofs.Ytpkaffnmoebgiaa
open Go.RowKit

/-- 'make([]T, n, m)': n zeros are owned, with room for m. -/
theorem wpList_make_room {P : Program} (w : World) {ops : Array Oper} {rest : List Oper} {o : Oper} {a : Act} {Q : Exit → Act → World → Prop}
    (hg : o.guard = none) (l c : Operand) (t : TypeId) (hop : o.op = Op.makeSlice t l c)
    (base : Nat) (e : TypeId) (i : TypeInfo) (kd : IntKind) (h1 : P.underlying t = some (.slice e)) (h2 : P.info? e = some i) (h3 : i.zero = some (.int kd 0)) (h4 : i.size = 1)
    (kl kc : IntKind) (L C : Int) (n m : Nat) (hl : a.eval l = .int kl L) (hc : a.eval c = .int kc C) (hL : L = (n : Int)) (hC : C = (m : Int)) (hnm : n ≤ m) (b2 : i.bytes * m ≤ 281474976710656) (b3 : m ≤ maxLen) (b4 : base ≤ w.heap.size)
    (hK : ∀ w', Own e kd w' base (.slice (some ⟨w.heap.size, 0, none⟩) n m) (List.replicate n 0) → w.grownBy w' none → wpList P ops Q rest (a.put o.dst (.slice (some ⟨w.heap.size, 0, none⟩) n m)) w') :
    wpList P ops Q (o :: rest) a w := by
  refine wpList_plain hg fun K hK' => ?_
  have b3' : (m : Int) ≤ 9223372036854775807 := by simp [maxLen] at b3; omega
  have b2' : (i.bytes : Int) * (m : Int) ≤ 281474976710656 := by
    have h : ((i.bytes * m : Nat) : Int) ≤ 281474976710656 := by omega
    rwa [Int.natCast_mul] at h
  have hrun := run_make (P := P) w t e i (.int kd 0) h1 h2 h3 kl kc (n : Int) (m : Int) (by omega) (by omega) b2' b3'
  simp only [Int.toNat_natCast, h4, Nat.mul_one] at hrun
  subst hL
  subst hC
  unfold Oper.wp
  simp [execOp, hop, hl, hc, hrun, Result.andThen]
  refine hK' _ _ (hK _ ⟨by simp, .inr ⟨w.heap.size, m, _, by simp, b4, heap_alloc_new w _, by simpa using hnm, b3, ?_, ?_⟩⟩ (World.grownBy_alloc w _ none))
  · simp [madeCells]
  · show (madeCells #[.int kd 0] m).toList.take _ = _
    rw [toList_madeCells_one]
    simp [List.take_replicate, Nat.min_eq_left hnm]

set_option maxHeartbeats 8000000 in
theorem impl_ReadUvarint (va : Value) (xs : List Int) (at_ : Int) (w : World) (hat : (Lit.int .i64 at_).wf = true) (ha : Rd .u8 w va xs) (hw : ∀ z ∈ xs, (Lit.int .u8 z).wf = true) (hlen : xs.length ≤ 1099511627776)
    (A1 A2 : Int) (A3 : Bool) (hR : rdUv xs at_ = (A1, A2, A3)) :
    Calls Try.prog 18 #[va, .int .i64 at_] w fun e w' => e = .returned (.tuple #[.int .i64 A1, .int .i64 A2, .bool A3]) ∧ w = w' := by
  obtain ⟨A, c, rfl, h1, h2, h3⟩ := ha
  have bat := wf_i64_bd hat
  by_cases hout : at_ < 0 ∨ (xs.length : Int) ≤ at_
  · rw [rdUv_out hout] at hR
    simp only [Prod.mk.injEq] at hR
    obtain ⟨rfl, rfl, rfl⟩ := hR
    clear h3 hw hat h1 h2
    by_cases h0 : at_ < 0
    all_goals
      go_enter Try.func18, Try.ntmps18
      go_wp2
      go_ret3
      exact ⟨rfl, rfl⟩
  · obtain ⟨p, rfl⟩ : ∃ p : Nat, at_ = (p : Int) := ⟨at_.toNat, by omega⟩
    have hp : p < xs.length := by omega
    rw [rdUv_in hp] at hR
    obtain ⟨b, off, rfl, hbw, hcell⟩ := h3 (by omega)
    obtain ⟨n, hn⟩ : ∃ n, n = xs.length := ⟨_, rfl⟩
    rw [← hn] at h1 hcell hlen hp ⊢
    have HC := Lib.hid hcell
    have HR := Lib.hid hR
    have HN := Lib.hid hn
    have HW := Lib.hid hw
    clear hcell hn hR hw h3 h1 h2 hout hat
    go_enter Try.func18, Try.ntmps18
    go_wp2
    go_loop [7, 8] (fun u i => ∃ (k : Nat) (y : Int), k ≤ 6 ∧ i = .int .i64 k ∧ u = .int .i64 y ∧ 0 ≤ y ∧ y < 128 ^ k ∧ rdU xs (6 - k) p y k = (A1, A2, A3)) (fun _ i => 6 - (intOf i).toNat)
    case atStart => exact ⟨0, 0, by omega, by simp, rfl, by omega, by simp, HR.out⟩
    case round =>
      clear HR
      obtain ⟨k, y, hk, rfl, rfl, hy0, hy1, hR⟩ := hrel
      obtain rfl | rfl | rfl | rfl | rfl | rfl | rfl : k = 0 ∨ k = 1 ∨ k = 2 ∨ k = 3 ∨ k = 4 ∨ k = 5 ∨ k = 6 := by omega
      · have hy : y < 1 := by simpa using hy1
        clear hy1
        by_cases hlt : p < n
        · have c1 := HC.out (p) hlt
          obtain ⟨x0, x1⟩ := bounds_u8 (HW.out _ (getD_mem xs (p) (by rw [← HN.out]; exact hlt)))
          have hl := hlt
          rw [HN.out] at hl
          have E1 : Hid (128 ≤ xs.getD (p) 0 → rdU xs 5 p (y + xs.getD (p) 0 % 128 * 1) 1 = (A1, A2, A3)) := Lib.hid (fun hx => by rw [← hR]; have h := rdU_more (r := 5) (p := p) (k := 0) (n := y) hl hx; rw [show (128 : Int) ^ 0 = 1 from rfl] at h; exact h.symm)
          have E2 : Hid (¬ 128 ≤ xs.getD (p) 0 → ((0 < 0 ∧ xs.getD (p) 0 = 0) ∨ 1000000000000 < y + xs.getD (p) 0 % 128 * 1) → (A1, A2, A3) = (0, 0, false)) := Lib.hid (fun hx hb => by rw [← hR]; have h := rdU_bad (r := 5) (p := p) (k := 0) (n := y) hl hx; rw [show (128 : Int) ^ 0 = 1 from rfl] at h; exact h hb)
          have E3 : Hid (¬ 128 ≤ xs.getD (p) 0 → ¬ ((0 < 0 ∧ xs.getD (p) 0 = 0) ∨ 1000000000000 < y + xs.getD (p) 0 % 128 * 1) → (A1, A2, A3) = (y + xs.getD (p) 0 % 128 * 1, ((p + 1 : Nat) : Int), true)) := Lib.hid (fun hx hb => by rw [← hR]; have h := rdU_last (r := 5) (p := p) (k := 0) (n := y) hl hx; rw [show (128 : Int) ^ 0 = 1 from rfl] at h; exact h hb)
          clear hl hR HC HW HN
          obtain ⟨x, hx⟩ : ∃ x, x = xs.getD (p) 0 := ⟨_, rfl⟩
          rw [← hx] at c1 x0 x1 E1 E2 E3
          clear hx
          have hy00 : y = 0 := by omega
          subst hy00
          have hor : bits .or .i64 0 (x % 128) = x % 128 := by have h := or_at 0 0 (x % 128) 1 (by decide) (by omega) (by omega) (by omega) (by omega) (by omega); simpa using h
          have hm := and127_u8 x x0 x1
          by_cases hx : 128 ≤ x
          · have E := E1.out hx
            have HE := Lib.hid E
            clear E E1 E2 E3
            go_wp2
            go_round
            case rel => exact ⟨1, _, by omega, by simp, rfl, by omega, by simp; omega, by first | exact HE.out | (have h := HE.out; simpa using h)⟩
            case measure => simp [intOf]
          · have hxx : x % 128 = x := by omega
            rw [hxx] at hor
            by_cases hb : (0 < 0 ∧ x = 0) ∨ 1000000000000 < 0 + x % 128 * 1
            · have E := E2.out hx hb
              simp only [Prod.mk.injEq] at E
              obtain ⟨rfl, rfl, rfl⟩ := E
              clear E1 E2 E3
              exfalso
              omega
            · have E := E3.out hx hb
              simp only [Prod.mk.injEq] at E
              obtain ⟨e1, rfl, rfl⟩ := E
              have HE := Lib.hid e1
              clear e1 E1 E2 E3
              have hbig : ¬ 1000000000000 < x := by omega
              go_wp2
              go_ret3
              exact ⟨by rw [HE.out]; simp [hxx], rfl⟩
        · have E : (A1, A2, A3) = (0, 0, false) := by rw [← hR]; exact rdU_end (r := 5) (by rw [← HN.out]; omega)
          simp only [Prod.mk.injEq] at E
          obtain ⟨rfl, rfl, rfl⟩ := E
          clear hR HC HW HN
          exact absurd hp hlt
      · have hy : y < 128 := by simpa using hy1
        clear hy1
        by_cases hlt : p + 1 < n
        · have c1 := HC.out (p + 1) hlt
          obtain ⟨x0, x1⟩ := bounds_u8 (HW.out _ (getD_mem xs (p + 1) (by rw [← HN.out]; exact hlt)))
          have hl := hlt
          rw [HN.out] at hl
          have E1 : Hid (128 ≤ xs.getD (p + 1) 0 → rdU xs 4 p (y + xs.getD (p + 1) 0 % 128 * 128) 2 = (A1, A2, A3)) := Lib.hid (fun hx => by rw [← hR]; have h := rdU_more (r := 4) (p := p) (k := 1) (n := y) hl hx; rw [show (128 : Int) ^ 1 = 128 from rfl] at h; exact h.symm)
          have E2 : Hid (¬ 128 ≤ xs.getD (p + 1) 0 → ((0 < 1 ∧ xs.getD (p + 1) 0 = 0) ∨ 1000000000000 < y + xs.getD (p + 1) 0 % 128 * 128) → (A1, A2, A3) = (0, 0, false)) := Lib.hid (fun hx hb => by rw [← hR]; have h := rdU_bad (r := 4) (p := p) (k := 1) (n := y) hl hx; rw [show (128 : Int) ^ 1 = 128 from rfl] at h; exact h hb)
          have E3 : Hid (¬ 128 ≤ xs.getD (p + 1) 0 → ¬ ((0 < 1 ∧ xs.getD (p + 1) 0 = 0) ∨ 1000000000000 < y + xs.getD (p + 1) 0 % 128 * 128) → (A1, A2, A3) = (y + xs.getD (p + 1) 0 % 128 * 128, ((p + 1 + 1 : Nat) : Int), true)) := Lib.hid (fun hx hb => by rw [← hR]; have h := rdU_last (r := 4) (p := p) (k := 1) (n := y) hl hx; rw [show (128 : Int) ^ 1 = 128 from rfl] at h; exact h hb)
          clear hl hR HC HW HN
          obtain ⟨x, hx⟩ : ∃ x, x = xs.getD (p + 1) 0 := ⟨_, rfl⟩
          rw [← hx] at c1 x0 x1 E1 E2 E3
          clear hx
          have hor : bits .or .i64 y (x % 128 * 128) = y + x % 128 * 128 := or_at 7 y (x % 128) 128 (by decide) (by omega) (by omega) (by omega) (by omega) (by omega)
          have hm := and127_u8 x x0 x1
          by_cases hx : 128 ≤ x
          · have E := E1.out hx
            have HE := Lib.hid E
            clear E E1 E2 E3
            go_wp2
            go_round
            case rel => exact ⟨2, _, by omega, by simp, rfl, by omega, by simp; omega, by first | exact HE.out | (have h := HE.out; simpa using h)⟩
            case measure => simp [intOf]
          · have hxx : x % 128 = x := by omega
            rw [hxx] at hor
            by_cases hb : (0 < 1 ∧ x = 0) ∨ 1000000000000 < y + x % 128 * 128
            · have E := E2.out hx hb
              simp only [Prod.mk.injEq] at E
              obtain ⟨rfl, rfl, rfl⟩ := E
              clear E1 E2 E3
              by_cases hz : x = 0
              · subst hz
                have hm0 := and127_u8 0 x0 x1
                clear hm hor hxx hb
                go_wp2
                go_ret3
                exact ⟨rfl, rfl⟩
              · exfalso; omega
            · have E := E3.out hx hb
              simp only [Prod.mk.injEq] at E
              obtain ⟨e1, rfl, rfl⟩ := E
              have HE := Lib.hid e1
              clear e1 E1 E2 E3
              have hz : ¬ x = 0 := by omega
              have hbig : ¬ 1000000000000 < y + x * 128 := by omega
              go_wp2
              go_ret3
              exact ⟨by rw [HE.out]; simp [hxx], rfl⟩
        · have E : (A1, A2, A3) = (0, 0, false) := by rw [← hR]; exact rdU_end (r := 4) (by rw [← HN.out]; omega)
          simp only [Prod.mk.injEq] at E
          obtain ⟨rfl, rfl, rfl⟩ := E
          clear hR HC HW HN
          go_wp2
          go_ret3
          exact ⟨rfl, rfl⟩
      · have hy : y < 16384 := by simpa using hy1
        clear hy1
        by_cases hlt : p + 2 < n
        · have c1 := HC.out (p + 2) hlt
          obtain ⟨x0, x1⟩ := bounds_u8 (HW.out _ (getD_mem xs (p + 2) (by rw [← HN.out]; exact hlt)))
          have hl := hlt
          rw [HN.out] at hl
          have E1 : Hid (128 ≤ xs.getD (p + 2) 0 → rdU xs 3 p (y + xs.getD (p + 2) 0 % 128 * 16384) 3 = (A1, A2, A3)) := Lib.hid (fun hx => by rw [← hR]; have h := rdU_more (r := 3) (p := p) (k := 2) (n := y) hl hx; rw [show (128 : Int) ^ 2 = 16384 from rfl] at h; exact h.symm)
          have E2 : Hid (¬ 128 ≤ xs.getD (p + 2) 0 → ((0 < 2 ∧ xs.getD (p + 2) 0 = 0) ∨ 1000000000000 < y + xs.getD (p + 2) 0 % 128 * 16384) → (A1, A2, A3) = (0, 0, false)) := Lib.hid (fun hx hb => by rw [← hR]; have h := rdU_bad (r := 3) (p := p) (k := 2) (n := y) hl hx; rw [show (128 : Int) ^ 2 = 16384 from rfl] at h; exact h hb)
          have E3 : Hid (¬ 128 ≤ xs.getD (p + 2) 0 → ¬ ((0 < 2 ∧ xs.getD (p + 2) 0 = 0) ∨ 1000000000000 < y + xs.getD (p + 2) 0 % 128 * 16384) → (A1, A2, A3) = (y + xs.getD (p + 2) 0 % 128 * 16384, ((p + 2 + 1 : Nat) : Int), true)) := Lib.hid (fun hx hb => by rw [← hR]; have h := rdU_last (r := 3) (p := p) (k := 2) (n := y) hl hx; rw [show (128 : Int) ^ 2 = 16384 from rfl] at h; exact h hb)
          clear hl hR HC HW HN
          obtain ⟨x, hx⟩ : ∃ x, x = xs.getD (p + 2) 0 := ⟨_, rfl⟩
          rw [← hx] at c1 x0 x1 E1 E2 E3
          clear hx
          have hor : bits .or .i64 y (x % 128 * 16384) = y + x % 128 * 16384 := or_at 14 y (x % 128) 16384 (by decide) (by omega) (by omega) (by omega) (by omega) (by omega)
          have hm := and127_u8 x x0 x1
          by_cases hx : 128 ≤ x
          · have E := E1.out hx
            have HE := Lib.hid E
            clear E E1 E2 E3
            go_wp2
            go_round
            case rel => exact ⟨3, _, by omega, by simp, rfl, by omega, by simp; omega, by first | exact HE.out | (have h := HE.out; simpa using h)⟩
            case measure => simp [intOf]
          · have hxx : x % 128 = x := by omega
            rw [hxx] at hor
            by_cases hb : (0 < 2 ∧ x = 0) ∨ 1000000000000 < y + x % 128 * 16384
            · have E := E2.out hx hb
              simp only [Prod.mk.injEq] at E
              obtain ⟨rfl, rfl, rfl⟩ := E
              clear E1 E2 E3
              by_cases hz : x = 0
              · subst hz
                have hm0 := and127_u8 0 x0 x1
                clear hm hor hxx hb
                go_wp2
                go_ret3
                exact ⟨rfl, rfl⟩
              · exfalso; omega
            · have E := E3.out hx hb
              simp only [Prod.mk.injEq] at E
              obtain ⟨e1, rfl, rfl⟩ := E
              have HE := Lib.hid e1
              clear e1 E1 E2 E3
              have hz : ¬ x = 0 := by omega
              have hbig : ¬ 1000000000000 < y + x * 16384 := by omega
              go_wp2
              go_ret3
              exact ⟨by rw [HE.out]; simp [hxx], rfl⟩
        · have E : (A1, A2, A3) = (0, 0, false) := by rw [← hR]; exact rdU_end (r := 3) (by rw [← HN.out]; omega)
          simp only [Prod.mk.injEq] at E
          obtain ⟨rfl, rfl, rfl⟩ := E
          clear hR HC HW HN
          go_wp2
          go_ret3
          exact ⟨rfl, rfl⟩
      · have hy : y < 2097152 := by simpa using hy1
        clear hy1
        by_cases hlt : p + 3 < n
        · have c1 := HC.out (p + 3) hlt
          obtain ⟨x0, x1⟩ := bounds_u8 (HW.out _ (getD_mem xs (p + 3) (by rw [← HN.out]; exact hlt)))
          have hl := hlt
          rw [HN.out] at hl
          have E1 : Hid (128 ≤ xs.getD (p + 3) 0 → rdU xs 2 p (y + xs.getD (p + 3) 0 % 128 * 2097152) 4 = (A1, A2, A3)) := Lib.hid (fun hx => by rw [← hR]; have h := rdU_more (r := 2) (p := p) (k := 3) (n := y) hl hx; rw [show (128 : Int) ^ 3 = 2097152 from rfl] at h; exact h.symm)
          have E2 : Hid (¬ 128 ≤ xs.getD (p + 3) 0 → ((0 < 3 ∧ xs.getD (p + 3) 0 = 0) ∨ 1000000000000 < y + xs.getD (p + 3) 0 % 128 * 2097152) → (A1, A2, A3) = (0, 0, false)) := Lib.hid (fun hx hb => by rw [← hR]; have h := rdU_bad (r := 2) (p := p) (k := 3) (n := y) hl hx; rw [show (128 : Int) ^ 3 = 2097152 from rfl] at h; exact h hb)
          have E3 : Hid (¬ 128 ≤ xs.getD (p + 3) 0 → ¬ ((0 < 3 ∧ xs.getD (p + 3) 0 = 0) ∨ 1000000000000 < y + xs.getD (p + 3) 0 % 128 * 2097152) → (A1, A2, A3) = (y + xs.getD (p + 3) 0 % 128 * 2097152, ((p + 3 + 1 : Nat) : Int), true)) := Lib.hid (fun hx hb => by rw [← hR]; have h := rdU_last (r := 2) (p := p) (k := 3) (n := y) hl hx; rw [show (128 : Int) ^ 3 = 2097152 from rfl] at h; exact h hb)
          clear hl hR HC HW HN
          obtain ⟨x, hx⟩ : ∃ x, x = xs.getD (p + 3) 0 := ⟨_, rfl⟩
          rw [← hx] at c1 x0 x1 E1 E2 E3
          clear hx
          have hor : bits .or .i64 y (x % 128 * 2097152) = y + x % 128 * 2097152 := or_at 21 y (x % 128) 2097152 (by decide) (by omega) (by omega) (by omega) (by omega) (by omega)
          have hm := and127_u8 x x0 x1
          by_cases hx : 128 ≤ x
          · have E := E1.out hx
            have HE := Lib.hid E
            clear E E1 E2 E3
            go_wp2
            go_round
            case rel => exact ⟨4, _, by omega, by simp, rfl, by omega, by simp; omega, by first | exact HE.out | (have h := HE.out; simpa using h)⟩
            case measure => simp [intOf]
          · have hxx : x % 128 = x := by omega
            rw [hxx] at hor
            by_cases hb : (0 < 3 ∧ x = 0) ∨ 1000000000000 < y + x % 128 * 2097152
            · have E := E2.out hx hb
              simp only [Prod.mk.injEq] at E
              obtain ⟨rfl, rfl, rfl⟩ := E
              clear E1 E2 E3
              by_cases hz : x = 0
              · subst hz
                have hm0 := and127_u8 0 x0 x1
                clear hm hor hxx hb
                go_wp2
                go_ret3
                exact ⟨rfl, rfl⟩
              · exfalso; omega
            · have E := E3.out hx hb
              simp only [Prod.mk.injEq] at E
              obtain ⟨e1, rfl, rfl⟩ := E
              have HE := Lib.hid e1
              clear e1 E1 E2 E3
              have hz : ¬ x = 0 := by omega
              have hbig : ¬ 1000000000000 < y + x * 2097152 := by omega
              go_wp2
              go_ret3
              exact ⟨by rw [HE.out]; simp [hxx], rfl⟩
        · have E : (A1, A2, A3) = (0, 0, false) := by rw [← hR]; exact rdU_end (r := 2) (by rw [← HN.out]; omega)
          simp only [Prod.mk.injEq] at E
          obtain ⟨rfl, rfl, rfl⟩ := E
          clear hR HC HW HN
          go_wp2
          go_ret3
          exact ⟨rfl, rfl⟩
      · have hy : y < 268435456 := by simpa using hy1
        clear hy1
        by_cases hlt : p + 4 < n
        · have c1 := HC.out (p + 4) hlt
          obtain ⟨x0, x1⟩ := bounds_u8 (HW.out _ (getD_mem xs (p + 4) (by rw [← HN.out]; exact hlt)))
          have hl := hlt
          rw [HN.out] at hl
          have E1 : Hid (128 ≤ xs.getD (p + 4) 0 → rdU xs 1 p (y + xs.getD (p + 4) 0 % 128 * 268435456) 5 = (A1, A2, A3)) := Lib.hid (fun hx => by rw [← hR]; have h := rdU_more (r := 1) (p := p) (k := 4) (n := y) hl hx; rw [show (128 : Int) ^ 4 = 268435456 from rfl] at h; exact h.symm)
          have E2 : Hid (¬ 128 ≤ xs.getD (p + 4) 0 → ((0 < 4 ∧ xs.getD (p + 4) 0 = 0) ∨ 1000000000000 < y + xs.getD (p + 4) 0 % 128 * 268435456) → (A1, A2, A3) = (0, 0, false)) := Lib.hid (fun hx hb => by rw [← hR]; have h := rdU_bad (r := 1) (p := p) (k := 4) (n := y) hl hx; rw [show (128 : Int) ^ 4 = 268435456 from rfl] at h; exact h hb)
          have E3 : Hid (¬ 128 ≤ xs.getD (p + 4) 0 → ¬ ((0 < 4 ∧ xs.getD (p + 4) 0 = 0) ∨ 1000000000000 < y + xs.getD (p + 4) 0 % 128 * 268435456) → (A1, A2, A3) = (y + xs.getD (p + 4) 0 % 128 * 268435456, ((p + 4 + 1 : Nat) : Int), true)) := Lib.hid (fun hx hb => by rw [← hR]; have h := rdU_last (r := 1) (p := p) (k := 4) (n := y) hl hx; rw [show (128 : Int) ^ 4 = 268435456 from rfl] at h; exact h hb)
          clear hl hR HC HW HN
          obtain ⟨x, hx⟩ : ∃ x, x = xs.getD (p + 4) 0 := ⟨_, rfl⟩
          rw [← hx] at c1 x0 x1 E1 E2 E3
          clear hx
          have hor : bits .or .i64 y (x % 128 * 268435456) = y + x % 128 * 268435456 := or_at 28 y (x % 128) 268435456 (by decide) (by omega) (by omega) (by omega) (by omega) (by omega)
          have hm := and127_u8 x x0 x1
          by_cases hx : 128 ≤ x
          · have E := E1.out hx
            have HE := Lib.hid E
            clear E E1 E2 E3
            go_wp2
            go_round
            case rel => exact ⟨5, _, by omega, by simp, rfl, by omega, by simp; omega, by first | exact HE.out | (have h := HE.out; simpa using h)⟩
            case measure => simp [intOf]
          · have hxx : x % 128 = x := by omega
            rw [hxx] at hor
            by_cases hb : (0 < 4 ∧ x = 0) ∨ 1000000000000 < y + x % 128 * 268435456
            · have E := E2.out hx hb
              simp only [Prod.mk.injEq] at E
              obtain ⟨rfl, rfl, rfl⟩ := E
              clear E1 E2 E3
              by_cases hz : x = 0
              · subst hz
                have hm0 := and127_u8 0 x0 x1
                clear hm hor hxx hb
                go_wp2
                go_ret3
                exact ⟨rfl, rfl⟩
              · exfalso; omega
            · have E := E3.out hx hb
              simp only [Prod.mk.injEq] at E
              obtain ⟨e1, rfl, rfl⟩ := E
              have HE := Lib.hid e1
              clear e1 E1 E2 E3
              have hz : ¬ x = 0 := by omega
              have hbig : ¬ 1000000000000 < y + x * 268435456 := by omega
              go_wp2
              go_ret3
              exact ⟨by rw [HE.out]; simp [hxx], rfl⟩
        · have E : (A1, A2, A3) = (0, 0, false) := by rw [← hR]; exact rdU_end (r := 1) (by rw [← HN.out]; omega)
          simp only [Prod.mk.injEq] at E
          obtain ⟨rfl, rfl, rfl⟩ := E
          clear hR HC HW HN
          go_wp2
          go_ret3
          exact ⟨rfl, rfl⟩
      · have hy : y < 34359738368 := by simpa using hy1
        clear hy1
        by_cases hlt : p + 5 < n
        · have c1 := HC.out (p + 5) hlt
          obtain ⟨x0, x1⟩ := bounds_u8 (HW.out _ (getD_mem xs (p + 5) (by rw [← HN.out]; exact hlt)))
          have hl := hlt
          rw [HN.out] at hl
          have E1 : Hid (128 ≤ xs.getD (p + 5) 0 → rdU xs 0 p (y + xs.getD (p + 5) 0 % 128 * 34359738368) 6 = (A1, A2, A3)) := Lib.hid (fun hx => by rw [← hR]; have h := rdU_more (r := 0) (p := p) (k := 5) (n := y) hl hx; rw [show (128 : Int) ^ 5 = 34359738368 from rfl] at h; exact h.symm)
          have E2 : Hid (¬ 128 ≤ xs.getD (p + 5) 0 → ((0 < 5 ∧ xs.getD (p + 5) 0 = 0) ∨ 1000000000000 < y + xs.getD (p + 5) 0 % 128 * 34359738368) → (A1, A2, A3) = (0, 0, false)) := Lib.hid (fun hx hb => by rw [← hR]; have h := rdU_bad (r := 0) (p := p) (k := 5) (n := y) hl hx; rw [show (128 : Int) ^ 5 = 34359738368 from rfl] at h; exact h hb)
          have E3 : Hid (¬ 128 ≤ xs.getD (p + 5) 0 → ¬ ((0 < 5 ∧ xs.getD (p + 5) 0 = 0) ∨ 1000000000000 < y + xs.getD (p + 5) 0 % 128 * 34359738368) → (A1, A2, A3) = (y + xs.getD (p + 5) 0 % 128 * 34359738368, ((p + 5 + 1 : Nat) : Int), true)) := Lib.hid (fun hx hb => by rw [← hR]; have h := rdU_last (r := 0) (p := p) (k := 5) (n := y) hl hx; rw [show (128 : Int) ^ 5 = 34359738368 from rfl] at h; exact h hb)
          clear hl hR HC HW HN
          obtain ⟨x, hx⟩ : ∃ x, x = xs.getD (p + 5) 0 := ⟨_, rfl⟩
          rw [← hx] at c1 x0 x1 E1 E2 E3
          clear hx
          have hor : bits .or .i64 y (x % 128 * 34359738368) = y + x % 128 * 34359738368 := or_at 35 y (x % 128) 34359738368 (by decide) (by omega) (by omega) (by omega) (by omega) (by omega)
          have hm := and127_u8 x x0 x1
          by_cases hx : 128 ≤ x
          · have E := E1.out hx
            have HE := Lib.hid E
            clear E E1 E2 E3
            go_wp2
            go_round
            case rel => exact ⟨6, _, by omega, by simp, rfl, by omega, by simp; omega, by first | exact HE.out | (have h := HE.out; simpa using h)⟩
            case measure => simp [intOf]
          · have hxx : x % 128 = x := by omega
            rw [hxx] at hor
            by_cases hb : (0 < 5 ∧ x = 0) ∨ 1000000000000 < y + x % 128 * 34359738368
            · have E := E2.out hx hb
              simp only [Prod.mk.injEq] at E
              obtain ⟨rfl, rfl, rfl⟩ := E
              clear E1 E2 E3
              by_cases hz : x = 0
              · subst hz
                have hm0 := and127_u8 0 x0 x1
                clear hm hor hxx hb
                go_wp2
                go_ret3
                exact ⟨rfl, rfl⟩
              · go_wp2
                go_ret3
                exact ⟨rfl, rfl⟩
            · have E := E3.out hx hb
              simp only [Prod.mk.injEq] at E
              obtain ⟨e1, rfl, rfl⟩ := E
              have HE := Lib.hid e1
              clear e1 E1 E2 E3
              have hz : ¬ x = 0 := by omega
              have hbig : ¬ 1000000000000 < y + x * 34359738368 := by omega
              go_wp2
              go_ret3
              exact ⟨by rw [HE.out]; simp [hxx], rfl⟩
        · have E : (A1, A2, A3) = (0, 0, false) := by rw [← hR]; exact rdU_end (r := 0) (by rw [← HN.out]; omega)
          simp only [Prod.mk.injEq] at E
          obtain ⟨rfl, rfl, rfl⟩ := E
          clear hR HC HW HN
          go_wp2
          go_ret3
          exact ⟨rfl, rfl⟩
      · have E : (A1, A2, A3) = (0, 0, false) := by rw [← hR]; rfl
        simp only [Prod.mk.injEq] at E
        obtain ⟨rfl, rfl, rfl⟩ := E
        clear hR HC HW HN
        go_wp2
        go_ret3
        exact ⟨rfl, rfl⟩

set_option maxHeartbeats 8000000 in
theorem spec_ReadUvarint (va : Value) (xs : List Int) (at_ : Int) (w : World) (hat : (Lit.int .i64 at_).wf = true) (ha : Rd .u8 w va xs) (hw : ∀ z ∈ xs, (Lit.int .u8 z).wf = true) (hlen : xs.length ≤ 1099511627776)
    (A1 A2 : Int) (A3 : Bool) (hR : rdUv xs at_ = (A1, A2, A3)) :
    Calls Try.prog 17 #[va, .int .i64 at_] w fun e w' => e = .returned (.tuple #[.int .i64 A1, .int .i64 A2, .bool A3]) ∧ w = w' := by
  obtain ⟨A, c, rfl, h1, h2, h3⟩ := ha
  have bat := wf_i64_bd hat
  by_cases hout : at_ < 0 ∨ (xs.length : Int) ≤ at_
  · rw [rdUv_out hout] at hR
    simp only [Prod.mk.injEq] at hR
    obtain ⟨rfl, rfl, rfl⟩ := hR
    clear h3 hw hat h1 h2
    by_cases h0 : at_ < 0
    all_goals
      go_enter Try.func17, Try.ntmps17
      go_wp2
      refine wp_loop_rounds 1 ?_
      rw [rounds_succ]
      go_wp2
      go_ret3
      exact ⟨rfl, rfl⟩
  · obtain ⟨p, rfl⟩ : ∃ p : Nat, at_ = (p : Int) := ⟨at_.toNat, by omega⟩
    have hp : p < xs.length := by omega
    rw [rdUv_in hp] at hR
    obtain ⟨b, off, rfl, hbw, hcell⟩ := h3 (by omega)
    obtain ⟨n, hn⟩ : ∃ n, n = xs.length := ⟨_, rfl⟩
    rw [← hn] at h1 hcell hlen hp ⊢
    have HC := Lib.hid hcell
    have HR := Lib.hid hR
    have HN := Lib.hid hn
    have HW := Lib.hid hw
    clear hcell hn hR hw h3 h1 h2 hout hat
    go_enter Try.func17, Try.ntmps17
    go_wp2
    go_loop [7, 8] (fun u i => ∃ (k : Nat) (y : Int), k ≤ 6 ∧ i = .int .i64 k ∧ u = .int .i64 y ∧ 0 ≤ y ∧ y < 128 ^ k ∧ rdU xs (6 - k) p y k = (A1, A2, A3)) (fun _ i => 6 - (intOf i).toNat)
    case atStart => exact ⟨0, 0, by omega, by simp, rfl, by omega, by simp, HR.out⟩
    case round =>
      clear HR
      obtain ⟨k, y, hk, rfl, rfl, hy0, hy1, hR⟩ := hrel
      obtain rfl | rfl | rfl | rfl | rfl | rfl | rfl : k = 0 ∨ k = 1 ∨ k = 2 ∨ k = 3 ∨ k = 4 ∨ k = 5 ∨ k = 6 := by omega
      · have hy : y < 1 := by simpa using hy1
        clear hy1
        by_cases hlt : p < n
        · have c1 := HC.out (p) hlt
          obtain ⟨x0, x1⟩ := bounds_u8 (HW.out _ (getD_mem xs (p) (by rw [← HN.out]; exact hlt)))
          have hl := hlt
          rw [HN.out] at hl
          have E1 : Hid (128 ≤ xs.getD (p) 0 → rdU xs 5 p (y + xs.getD (p) 0 % 128 * 1) 1 = (A1, A2, A3)) := Lib.hid (fun hx => by rw [← hR]; have h := rdU_more (r := 5) (p := p) (k := 0) (n := y) hl hx; rw [show (128 : Int) ^ 0 = 1 from rfl] at h; exact h.symm)
          have E2 : Hid (¬ 128 ≤ xs.getD (p) 0 → ((0 < 0 ∧ xs.getD (p) 0 = 0) ∨ 1000000000000 < y + xs.getD (p) 0 % 128 * 1) → (A1, A2, A3) = (0, 0, false)) := Lib.hid (fun hx hb => by rw [← hR]; have h := rdU_bad (r := 5) (p := p) (k := 0) (n := y) hl hx; rw [show (128 : Int) ^ 0 = 1 from rfl] at h; exact h hb)
          have E3 : Hid (¬ 128 ≤ xs.getD (p) 0 → ¬ ((0 < 0 ∧ xs.getD (p) 0 = 0) ∨ 1000000000000 < y + xs.getD (p) 0 % 128 * 1) → (A1, A2, A3) = (y + xs.getD (p) 0 % 128 * 1, ((p + 1 : Nat) : Int), true)) := Lib.hid (fun hx hb => by rw [← hR]; have h := rdU_last (r := 5) (p := p) (k := 0) (n := y) hl hx; rw [show (128 : Int) ^ 0 = 1 from rfl] at h; exact h hb)
          clear hl hR HC HW HN
          obtain ⟨x, hx⟩ : ∃ x, x = xs.getD (p) 0 := ⟨_, rfl⟩
          rw [← hx] at c1 x0 x1 E1 E2 E3
          clear hx
          have hy00 : y = 0 := by omega
          subst hy00
          have hor : bits .or .i64 0 (x % 128) = x % 128 := by have h := or_at 0 0 (x % 128) 1 (by decide) (by omega) (by omega) (by omega) (by omega) (by omega); simpa using h
          have hm := and127_i64 x x0 (by omega)
          by_cases hx : 128 ≤ x
          · have E := E1.out hx
            have HE := Lib.hid E
            clear E E1 E2 E3
            go_wp2
            go_round
            case rel => exact ⟨1, _, by omega, by simp, rfl, by omega, by simp; omega, by first | exact HE.out | (have h := HE.out; simpa using h)⟩
            case measure => simp [intOf]
          · have hxx : x % 128 = x := by omega
            rw [hxx] at hor
            by_cases hb : (0 < 0 ∧ x = 0) ∨ 1000000000000 < 0 + x % 128 * 1
            · have E := E2.out hx hb
              simp only [Prod.mk.injEq] at E
              obtain ⟨rfl, rfl, rfl⟩ := E
              clear E1 E2 E3
              exfalso
              omega
            · have E := E3.out hx hb
              simp only [Prod.mk.injEq] at E
              obtain ⟨e1, rfl, rfl⟩ := E
              have HE := Lib.hid e1
              clear e1 E1 E2 E3
              have hbig : ¬ 1000000000000 < x := by omega
              by_cases hz : x = 0
              · subst hz
                have hm0 := and127_i64 0 x0 (by omega)
                have hor0 : bits .or .i64 0 0 = 0 := by decide +kernel
                clear hm hor hxx
                go_wp2
                go_ret3
                exact ⟨by rw [HE.out]; simp, rfl⟩
              · go_wp2
                go_ret3
                exact ⟨by rw [HE.out]; simp [hxx], rfl⟩
        · have E : (A1, A2, A3) = (0, 0, false) := by rw [← hR]; exact rdU_end (r := 5) (by rw [← HN.out]; omega)
          simp only [Prod.mk.injEq] at E
          obtain ⟨rfl, rfl, rfl⟩ := E
          clear hR HC HW HN
          exact absurd hp hlt
      · have hy : y < 128 := by simpa using hy1
        clear hy1
        by_cases hlt : p + 1 < n
        · have c1 := HC.out (p + 1) hlt
          obtain ⟨x0, x1⟩ := bounds_u8 (HW.out _ (getD_mem xs (p + 1) (by rw [← HN.out]; exact hlt)))
          have hl := hlt
          rw [HN.out] at hl
          have E1 : Hid (128 ≤ xs.getD (p + 1) 0 → rdU xs 4 p (y + xs.getD (p + 1) 0 % 128 * 128) 2 = (A1, A2, A3)) := Lib.hid (fun hx => by rw [← hR]; have h := rdU_more (r := 4) (p := p) (k := 1) (n := y) hl hx; rw [show (128 : Int) ^ 1 = 128 from rfl] at h; exact h.symm)
          have E2 : Hid (¬ 128 ≤ xs.getD (p + 1) 0 → ((0 < 1 ∧ xs.getD (p + 1) 0 = 0) ∨ 1000000000000 < y + xs.getD (p + 1) 0 % 128 * 128) → (A1, A2, A3) = (0, 0, false)) := Lib.hid (fun hx hb => by rw [← hR]; have h := rdU_bad (r := 4) (p := p) (k := 1) (n := y) hl hx; rw [show (128 : Int) ^ 1 = 128 from rfl] at h; exact h hb)
          have E3 : Hid (¬ 128 ≤ xs.getD (p + 1) 0 → ¬ ((0 < 1 ∧ xs.getD (p + 1) 0 = 0) ∨ 1000000000000 < y + xs.getD (p + 1) 0 % 128 * 128) → (A1, A2, A3) = (y + xs.getD (p + 1) 0 % 128 * 128, ((p + 1 + 1 : Nat) : Int), true)) := Lib.hid (fun hx hb => by rw [← hR]; have h := rdU_last (r := 4) (p := p) (k := 1) (n := y) hl hx; rw [show (128 : Int) ^ 1 = 128 from rfl] at h; exact h hb)
          clear hl hR HC HW HN
          obtain ⟨x, hx⟩ : ∃ x, x = xs.getD (p + 1) 0 := ⟨_, rfl⟩
          rw [← hx] at c1 x0 x1 E1 E2 E3
          clear hx
          have hor : bits .or .i64 y (x % 128 * 128) = y + x % 128 * 128 := or_at 7 y (x % 128) 128 (by decide) (by omega) (by omega) (by omega) (by omega) (by omega)
          have hm := and127_i64 x x0 (by omega)
          by_cases hx : 128 ≤ x
          · have E := E1.out hx
            have HE := Lib.hid E
            clear E E1 E2 E3
            go_wp2
            go_round
            case rel => exact ⟨2, _, by omega, by simp, rfl, by omega, by simp; omega, by first | exact HE.out | (have h := HE.out; simpa using h)⟩
            case measure => simp [intOf]
          · have hxx : x % 128 = x := by omega
            rw [hxx] at hor
            by_cases hb : (0 < 1 ∧ x = 0) ∨ 1000000000000 < y + x % 128 * 128
            · have E := E2.out hx hb
              simp only [Prod.mk.injEq] at E
              obtain ⟨rfl, rfl, rfl⟩ := E
              clear E1 E2 E3
              by_cases hz : x = 0
              · subst hz
                have hm0 := and127_i64 0 x0 (by omega)
                clear hm hor hxx hb
                go_wp2
                go_ret3
                exact ⟨rfl, rfl⟩
              · exfalso; omega
            · have E := E3.out hx hb
              simp only [Prod.mk.injEq] at E
              obtain ⟨e1, rfl, rfl⟩ := E
              have HE := Lib.hid e1
              clear e1 E1 E2 E3
              have hz : ¬ x = 0 := by omega
              have hbig : ¬ 1000000000000 < y + x * 128 := by omega
              go_wp2
              go_ret3
              exact ⟨by rw [HE.out]; simp [hxx], rfl⟩
        · have E : (A1, A2, A3) = (0, 0, false) := by rw [← hR]; exact rdU_end (r := 4) (by rw [← HN.out]; omega)
          simp only [Prod.mk.injEq] at E
          obtain ⟨rfl, rfl, rfl⟩ := E
          clear hR HC HW HN
          go_wp2
          go_ret3
          exact ⟨rfl, rfl⟩
      · have hy : y < 16384 := by simpa using hy1
        clear hy1
        by_cases hlt : p + 2 < n
        · have c1 := HC.out (p + 2) hlt
          obtain ⟨x0, x1⟩ := bounds_u8 (HW.out _ (getD_mem xs (p + 2) (by rw [← HN.out]; exact hlt)))
          have hl := hlt
          rw [HN.out] at hl
          have E1 : Hid (128 ≤ xs.getD (p + 2) 0 → rdU xs 3 p (y + xs.getD (p + 2) 0 % 128 * 16384) 3 = (A1, A2, A3)) := Lib.hid (fun hx => by rw [← hR]; have h := rdU_more (r := 3) (p := p) (k := 2) (n := y) hl hx; rw [show (128 : Int) ^ 2 = 16384 from rfl] at h; exact h.symm)
          have E2 : Hid (¬ 128 ≤ xs.getD (p + 2) 0 → ((0 < 2 ∧ xs.getD (p + 2) 0 = 0) ∨ 1000000000000 < y + xs.getD (p + 2) 0 % 128 * 16384) → (A1, A2, A3) = (0, 0, false)) := Lib.hid (fun hx hb => by rw [← hR]; have h := rdU_bad (r := 3) (p := p) (k := 2) (n := y) hl hx; rw [show (128 : Int) ^ 2 = 16384 from rfl] at h; exact h hb)
          have E3 : Hid (¬ 128 ≤ xs.getD (p + 2) 0 → ¬ ((0 < 2 ∧ xs.getD (p + 2) 0 = 0) ∨ 1000000000000 < y + xs.getD (p + 2) 0 % 128 * 16384) → (A1, A2, A3) = (y + xs.getD (p + 2) 0 % 128 * 16384, ((p + 2 + 1 : Nat) : Int), true)) := Lib.hid (fun hx hb => by rw [← hR]; have h := rdU_last (r := 3) (p := p) (k := 2) (n := y) hl hx; rw [show (128 : Int) ^ 2 = 16384 from rfl] at h; exact h hb)
          clear hl hR HC HW HN
          obtain ⟨x, hx⟩ : ∃ x, x = xs.getD (p + 2) 0 := ⟨_, rfl⟩
          rw [← hx] at c1 x0 x1 E1 E2 E3
          clear hx
          have hor : bits .or .i64 y (x % 128 * 16384) = y + x % 128 * 16384 := or_at 14 y (x % 128) 16384 (by decide) (by omega) (by omega) (by omega) (by omega) (by omega)
          have hm := and127_i64 x x0 (by omega)
          by_cases hx : 128 ≤ x
          · have E := E1.out hx
            have HE := Lib.hid E
            clear E E1 E2 E3
            go_wp2
            go_round
            case rel => exact ⟨3, _, by omega, by simp, rfl, by omega, by simp; omega, by first | exact HE.out | (have h := HE.out; simpa using h)⟩
            case measure => simp [intOf]
          · have hxx : x % 128 = x := by omega
            rw [hxx] at hor
            by_cases hb : (0 < 2 ∧ x = 0) ∨ 1000000000000 < y + x % 128 * 16384
            · have E := E2.out hx hb
              simp only [Prod.mk.injEq] at E
              obtain ⟨rfl, rfl, rfl⟩ := E
              clear E1 E2 E3
              by_cases hz : x = 0
              · subst hz
                have hm0 := and127_i64 0 x0 (by omega)
                clear hm hor hxx hb
                go_wp2
                go_ret3
                exact ⟨rfl, rfl⟩
              · exfalso; omega
            · have E := E3.out hx hb
              simp only [Prod.mk.injEq] at E
              obtain ⟨e1, rfl, rfl⟩ := E
              have HE := Lib.hid e1
              clear e1 E1 E2 E3
              have hz : ¬ x = 0 := by omega
              have hbig : ¬ 1000000000000 < y + x * 16384 := by omega
              go_wp2
              go_ret3
              exact ⟨by rw [HE.out]; simp [hxx], rfl⟩
        · have E : (A1, A2, A3) = (0, 0, false) := by rw [← hR]; exact rdU_end (r := 3) (by rw [← HN.out]; omega)
          simp only [Prod.mk.injEq] at E
          obtain ⟨rfl, rfl, rfl⟩ := E
          clear hR HC HW HN
          go_wp2
          go_ret3
          exact ⟨rfl, rfl⟩
      · have hy : y < 2097152 := by simpa using hy1
        clear hy1
        by_cases hlt : p + 3 < n
        · have c1 := HC.out (p + 3) hlt
          obtain ⟨x0, x1⟩ := bounds_u8 (HW.out _ (getD_mem xs (p + 3) (by rw [← HN.out]; exact hlt)))
          have hl := hlt
          rw [HN.out] at hl
          have E1 : Hid (128 ≤ xs.getD (p + 3) 0 → rdU xs 2 p (y + xs.getD (p + 3) 0 % 128 * 2097152) 4 = (A1, A2, A3)) := Lib.hid (fun hx => by rw [← hR]; have h := rdU_more (r := 2) (p := p) (k := 3) (n := y) hl hx; rw [show (128 : Int) ^ 3 = 2097152 from rfl] at h; exact h.symm)
          have E2 : Hid (¬ 128 ≤ xs.getD (p + 3) 0 → ((0 < 3 ∧ xs.getD (p + 3) 0 = 0) ∨ 1000000000000 < y + xs.getD (p + 3) 0 % 128 * 2097152) → (A1, A2, A3) = (0, 0, false)) := Lib.hid (fun hx hb => by rw [← hR]; have h := rdU_bad (r := 2) (p := p) (k := 3) (n := y) hl hx; rw [show (128 : Int) ^ 3 = 2097152 from rfl] at h; exact h hb)
          have E3 : Hid (¬ 128 ≤ xs.getD (p + 3) 0 → ¬ ((0 < 3 ∧ xs.getD (p + 3) 0 = 0) ∨ 1000000000000 < y + xs.getD (p + 3) 0 % 128 * 2097152) → (A1, A2, A3) = (y + xs.getD (p + 3) 0 % 128 * 2097152, ((p + 3 + 1 : Nat) : Int), true)) := Lib.hid (fun hx hb => by rw [← hR]; have h := rdU_last (r := 2) (p := p) (k := 3) (n := y) hl hx; rw [show (128 : Int) ^ 3 = 2097152 from rfl] at h; exact h hb)
          clear hl hR HC HW HN
          obtain ⟨x, hx⟩ : ∃ x, x = xs.getD (p + 3) 0 := ⟨_, rfl⟩
          rw [← hx] at c1 x0 x1 E1 E2 E3
          clear hx
          have hor : bits .or .i64 y (x % 128 * 2097152) = y + x % 128 * 2097152 := or_at 21 y (x % 128) 2097152 (by decide) (by omega) (by omega) (by omega) (by omega) (by omega)
          have hm := and127_i64 x x0 (by omega)
          by_cases hx : 128 ≤ x
          · have E := E1.out hx
            have HE := Lib.hid E
            clear E E1 E2 E3
            go_wp2
            go_round
            case rel => exact ⟨4, _, by omega, by simp, rfl, by omega, by simp; omega, by first | exact HE.out | (have h := HE.out; simpa using h)⟩
            case measure => simp [intOf]
          · have hxx : x % 128 = x := by omega
            rw [hxx] at hor
            by_cases hb : (0 < 3 ∧ x = 0) ∨ 1000000000000 < y + x % 128 * 2097152
            · have E := E2.out hx hb
              simp only [Prod.mk.injEq] at E
              obtain ⟨rfl, rfl, rfl⟩ := E
              clear E1 E2 E3
              by_cases hz : x = 0
              · subst hz
                have hm0 := and127_i64 0 x0 (by omega)
                clear hm hor hxx hb
                go_wp2
                go_ret3
                exact ⟨rfl, rfl⟩
              · exfalso; omega
            · have E := E3.out hx hb
              simp only [Prod.mk.injEq] at E
              obtain ⟨e1, rfl, rfl⟩ := E
              have HE := Lib.hid e1
              clear e1 E1 E2 E3
              have hz : ¬ x = 0 := by omega
              have hbig : ¬ 1000000000000 < y + x * 2097152 := by omega
              go_wp2
              go_ret3
              exact ⟨by rw [HE.out]; simp [hxx], rfl⟩
        · have E : (A1, A2, A3) = (0, 0, false) := by rw [← hR]; exact rdU_end (r := 2) (by rw [← HN.out]; omega)
          simp only [Prod.mk.injEq] at E
          obtain ⟨rfl, rfl, rfl⟩ := E
          clear hR HC HW HN
          go_wp2
          go_ret3
          exact ⟨rfl, rfl⟩
      · have hy : y < 268435456 := by simpa using hy1
        clear hy1
        by_cases hlt : p + 4 < n
        · have c1 := HC.out (p + 4) hlt
          obtain ⟨x0, x1⟩ := bounds_u8 (HW.out _ (getD_mem xs (p + 4) (by rw [← HN.out]; exact hlt)))
          have hl := hlt
          rw [HN.out] at hl
          have E1 : Hid (128 ≤ xs.getD (p + 4) 0 → rdU xs 1 p (y + xs.getD (p + 4) 0 % 128 * 268435456) 5 = (A1, A2, A3)) := Lib.hid (fun hx => by rw [← hR]; have h := rdU_more (r := 1) (p := p) (k := 4) (n := y) hl hx; rw [show (128 : Int) ^ 4 = 268435456 from rfl] at h; exact h.symm)
          have E2 : Hid (¬ 128 ≤ xs.getD (p + 4) 0 → ((0 < 4 ∧ xs.getD (p + 4) 0 = 0) ∨ 1000000000000 < y + xs.getD (p + 4) 0 % 128 * 268435456) → (A1, A2, A3) = (0, 0, false)) := Lib.hid (fun hx hb => by rw [← hR]; have h := rdU_bad (r := 1) (p := p) (k := 4) (n := y) hl hx; rw [show (128 : Int) ^ 4 = 268435456 from rfl] at h; exact h hb)
          have E3 : Hid (¬ 128 ≤ xs.getD (p + 4) 0 → ¬ ((0 < 4 ∧ xs.getD (p + 4) 0 = 0) ∨ 1000000000000 < y + xs.getD (p + 4) 0 % 128 * 268435456) → (A1, A2, A3) = (y + xs.getD (p + 4) 0 % 128 * 268435456, ((p + 4 + 1 : Nat) : Int), true)) := Lib.hid (fun hx hb => by rw [← hR]; have h := rdU_last (r := 1) (p := p) (k := 4) (n := y) hl hx; rw [show (128 : Int) ^ 4 = 268435456 from rfl] at h; exact h hb)
          clear hl hR HC HW HN
          obtain ⟨x, hx⟩ : ∃ x, x = xs.getD (p + 4) 0 := ⟨_, rfl⟩
          rw [← hx] at c1 x0 x1 E1 E2 E3
          clear hx
          have hor : bits .or .i64 y (x % 128 * 268435456) = y + x % 128 * 268435456 := or_at 28 y (x % 128) 268435456 (by decide) (by omega) (by omega) (by omega) (by omega) (by omega)
          have hm := and127_i64 x x0 (by omega)
          by_cases hx : 128 ≤ x
          · have E := E1.out hx
            have HE := Lib.hid E
            clear E E1 E2 E3
            go_wp2
            go_round
            case rel => exact ⟨5, _, by omega, by simp, rfl, by omega, by simp; omega, by first | exact HE.out | (have h := HE.out; simpa using h)⟩
            case measure => simp [intOf]
          · have hxx : x % 128 = x := by omega
            rw [hxx] at hor
            by_cases hb : (0 < 4 ∧ x = 0) ∨ 1000000000000 < y + x % 128 * 268435456
            · have E := E2.out hx hb
              simp only [Prod.mk.injEq] at E
              obtain ⟨rfl, rfl, rfl⟩ := E
              clear E1 E2 E3
              by_cases hz : x = 0
              · subst hz
                have hm0 := and127_i64 0 x0 (by omega)
                clear hm hor hxx hb
                go_wp2
                go_ret3
                exact ⟨rfl, rfl⟩
              · exfalso; omega
            · have E := E3.out hx hb
              simp only [Prod.mk.injEq] at E
              obtain ⟨e1, rfl, rfl⟩ := E
              have HE := Lib.hid e1
              clear e1 E1 E2 E3
              have hz : ¬ x = 0 := by omega
              have hbig : ¬ 1000000000000 < y + x * 268435456 := by omega
              go_wp2
              go_ret3
              exact ⟨by rw [HE.out]; simp [hxx], rfl⟩
        · have E : (A1, A2, A3) = (0, 0, false) := by rw [← hR]; exact rdU_end (r := 1) (by rw [← HN.out]; omega)
          simp only [Prod.mk.injEq] at E
          obtain ⟨rfl, rfl, rfl⟩ := E
          clear hR HC HW HN
          go_wp2
          go_ret3
          exact ⟨rfl, rfl⟩
      · have hy : y < 34359738368 := by simpa using hy1
        clear hy1
        by_cases hlt : p + 5 < n
        · have c1 := HC.out (p + 5) hlt
          obtain ⟨x0, x1⟩ := bounds_u8 (HW.out _ (getD_mem xs (p + 5) (by rw [← HN.out]; exact hlt)))
          have hl := hlt
          rw [HN.out] at hl
          have E1 : Hid (128 ≤ xs.getD (p + 5) 0 → rdU xs 0 p (y + xs.getD (p + 5) 0 % 128 * 34359738368) 6 = (A1, A2, A3)) := Lib.hid (fun hx => by rw [← hR]; have h := rdU_more (r := 0) (p := p) (k := 5) (n := y) hl hx; rw [show (128 : Int) ^ 5 = 34359738368 from rfl] at h; exact h.symm)
          have E2 : Hid (¬ 128 ≤ xs.getD (p + 5) 0 → ((0 < 5 ∧ xs.getD (p + 5) 0 = 0) ∨ 1000000000000 < y + xs.getD (p + 5) 0 % 128 * 34359738368) → (A1, A2, A3) = (0, 0, false)) := Lib.hid (fun hx hb => by rw [← hR]; have h := rdU_bad (r := 0) (p := p) (k := 5) (n := y) hl hx; rw [show (128 : Int) ^ 5 = 34359738368 from rfl] at h; exact h hb)
          have E3 : Hid (¬ 128 ≤ xs.getD (p + 5) 0 → ¬ ((0 < 5 ∧ xs.getD (p + 5) 0 = 0) ∨ 1000000000000 < y + xs.getD (p + 5) 0 % 128 * 34359738368) → (A1, A2, A3) = (y + xs.getD (p + 5) 0 % 128 * 34359738368, ((p + 5 + 1 : Nat) : Int), true)) := Lib.hid (fun hx hb => by rw [← hR]; have h := rdU_last (r := 0) (p := p) (k := 5) (n := y) hl hx; rw [show (128 : Int) ^ 5 = 34359738368 from rfl] at h; exact h hb)
          clear hl hR HC HW HN
          obtain ⟨x, hx⟩ : ∃ x, x = xs.getD (p + 5) 0 := ⟨_, rfl⟩
          rw [← hx] at c1 x0 x1 E1 E2 E3
          clear hx
          have hor : bits .or .i64 y (x % 128 * 34359738368) = y + x % 128 * 34359738368 := or_at 35 y (x % 128) 34359738368 (by decide) (by omega) (by omega) (by omega) (by omega) (by omega)
          have hm := and127_i64 x x0 (by omega)
          by_cases hx : 128 ≤ x
          · have E := E1.out hx
            have HE := Lib.hid E
            clear E E1 E2 E3
            go_wp2
            go_round
            case rel => exact ⟨6, _, by omega, by simp, rfl, by omega, by simp; omega, by first | exact HE.out | (have h := HE.out; simpa using h)⟩
            case measure => simp [intOf]
          · have hxx : x % 128 = x := by omega
            rw [hxx] at hor
            by_cases hb : (0 < 5 ∧ x = 0) ∨ 1000000000000 < y + x % 128 * 34359738368
            · have E := E2.out hx hb
              simp only [Prod.mk.injEq] at E
              obtain ⟨rfl, rfl, rfl⟩ := E
              clear E1 E2 E3
              by_cases hz : x = 0
              · subst hz
                have hm0 := and127_i64 0 x0 (by omega)
                clear hm hor hxx hb
                go_wp2
                go_ret3
                exact ⟨rfl, rfl⟩
              · go_wp2
                go_ret3
                exact ⟨rfl, rfl⟩
            · have E := E3.out hx hb
              simp only [Prod.mk.injEq] at E
              obtain ⟨e1, rfl, rfl⟩ := E
              have HE := Lib.hid e1
              clear e1 E1 E2 E3
              have hz : ¬ x = 0 := by omega
              have hbig : ¬ 1000000000000 < y + x * 34359738368 := by omega
              go_wp2
              go_ret3
              exact ⟨by rw [HE.out]; simp [hxx], rfl⟩
        · have E : (A1, A2, A3) = (0, 0, false) := by rw [← hR]; exact rdU_end (r := 0) (by rw [← HN.out]; omega)
          simp only [Prod.mk.injEq] at E
          obtain ⟨rfl, rfl, rfl⟩ := E
          clear hR HC HW HN
          go_wp2
          go_ret3
          exact ⟨rfl, rfl⟩
      · have E : (A1, A2, A3) = (0, 0, false) := by rw [← hR]; rfl
        simp only [Prod.mk.injEq] at E
        obtain ⟨rfl, rfl, rfl⟩ := E
        clear hR HC HW HN
        go_wp2
        go_ret3
        exact ⟨rfl, rfl⟩

end Go.Proofs.Ytpkaffnmoebgiaa
