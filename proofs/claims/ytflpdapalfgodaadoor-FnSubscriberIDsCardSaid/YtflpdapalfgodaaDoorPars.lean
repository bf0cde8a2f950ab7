/-
  Contracts: a number parsed and printed: the program's parser, the reference's printer and parser.
-/
import Derived.Test.YtflpdapalfgodaaDoorArith
import Derived.Test.YtflpdapalfgodaaDoorDec
import Derived.WalkSpells
import Derived.Laws.IdiomStrings
import Derived.Lib.ItoaLen
import Derived.Lib.Hide
namespace Go.Proofs.YtflpdapalfgodaaDoor
open Go.RowKit Go.Lib

/-- A place of a string. -/
theorem str_getD (s : ByteArray) (k : Nat) (h : k < s.size) : s.data.toList.getD k 0 = s[k] := by
  have h2 : k < s.data.toList.length := by simpa using h
  rw [List.getD_eq_getElem?_getD, List.getElem?_eq_getElem h2]
  rfl
theorem take_snocB (l : List UInt8) (k : Nat) (h : k < l.length) : l.take (k + 1) = l.take k ++ [l.getD k 0] := by
  rw [List.take_succ_eq_append_getElem h]
  simp [List.getD, h]
/-- The first k places are digits. -/
def DigTo (l : List UInt8) (k : Nat) : Prop := ∀ c ∈ l.take k, isDig c = true
theorem DigTo.zero (l : List UInt8) : DigTo l 0 := by simp [DigTo]
theorem DigTo.succ {l : List UInt8} {k : Nat} (h : DigTo l k) (hk : k < l.length) (hc : isDig (l.getD k 0) = true) : DigTo l (k + 1) := by
  intro c hcm
  rw [take_snocB l k hk] at hcm
  rcases List.mem_append.1 hcm with hh | hh
  · exact h c hh
  · rw [List.mem_singleton] at hh; subst hh; exact hc
theorem pVal_take_lt (l : List UInt8) (k : Nat) (h : DigTo l k) (hl : l.length ≤ 13) : pVal (l.take k) < 10000000000000 := by
  have h1 := pVal_lt (l.take k) h
  have h2 : (l.take k).length ≤ 13 := Nat.le_trans (List.length_take_le' k l) hl
  exact Nat.lt_of_lt_of_le h1 (Nat.le_trans (Nat.pow_le_pow_right (by decide) h2) (by decide))
theorem pOkI_no_len {l : List UInt8} (h : l.length = 0 ∨ 13 < l.length) : pOkI l = false := by
  unfold pOkI
  rcases h with h | h
  · simp [h]
  · have : ¬ l.length ≤ 13 := by omega
    simp [this]
theorem pOkI_no_zero {l : List UInt8} (h : 1 < l.length) (hz : l.getD 0 0 = 48) : pOkI l = false := by
  unfold pOkI
  have : l.head? = some 48 := by
    cases l with
    | nil => simp at h
    | cons a t => simp at hz; subst hz; rfl
  simp [this, h]
theorem pOkI_no_dig {l : List UInt8} (k : Nat) (hk : k < l.length) (hc : isDig (l.getD k 0) = false) : pOkI l = false := by
  unfold pOkI
  have : l.all isDig = false := by
    rw [List.all_eq_false]
    exact ⟨l.getD k 0, by simp [List.getD, hk], by rw [hc]; simp⟩
  simp [this]
theorem pOkI_no_big {l : List UInt8} (h : ¬ pVal l ≤ 1000000000000) : pOkI l = false := by
  unfold pOkI; simp [h]
theorem pOkI_yes {l : List UInt8} (h0 : 1 ≤ l.length) (h1 : l.length ≤ 13) (hd : DigTo l l.length) (hz : ¬ (1 < l.length ∧ l.getD 0 0 = 48)) (hb : pVal l ≤ 1000000000000) : pOkI l = true := by
  unfold pOkI
  have e1 : l.all isDig = true := List.all_eq_true.2 (fun c hc => hd c (by rw [List.take_length]; exact hc))
  have e2 : (decide (1 < l.length) && (l.head? == some 48)) = false := by
    by_cases h : 1 < l.length
    · cases l with
      | nil => simp at h
      | cons a t =>
        have : a ≠ 48 := fun e => hz ⟨h, by simpa using e⟩
        simp [this]
    · simp [h]
  rw [e1, e2]
  simp [h0, h1, hb]
theorem pNum_no {l : List UInt8} (h : pOkI l = false) : pNum l = 0 := by unfold pNum; rw [h]; rfl
theorem pNum_yes {l : List UInt8} (h : pOkI l = true) : pNum l = (pVal l : Int) := by unfold pNum; rw [if_pos h]

theorem DzR.len {N X : Nat} {D : List UInt8} (h : DzR N X D) (hN : N < 18446744073709551616) : D.length ≤ 20 := by
  unfold DzR at h
  have h1 := congrArg List.length h
  rw [List.length_append] at h1
  have h2 : (dz N).length ≤ 20 := by
    unfold dz; split
    · simp
    · rw [decDigits_length]; exact nDigits_le20 N hN
  omega

set_option maxRecDepth 100000 in
set_option maxHeartbeats 4000000 in
theorem impl_ParseInt (s : ByteArray) (w : World) (hs : s.size ≤ maxLen) (P : Int) (Q : Bool) (hP : P = pNum s.data.toList) (hQ : Q = pOkI s.data.toList) :
    Calls Tryd.prog 10 #[.string s] w fun e w' => e = .returned (.tuple #[.int .i64 P, .bool Q]) ∧ w = w' := by
  have HP := Lib.hid hP
  have HQ := Lib.hid hQ
  clear hP hQ
  unfold maxLen at hs
  have hsz : s.data.toList.length = s.size := Array.length_toList
  by_cases h0 : s.size = 0
  · have hno := pOkI_no_len (l := s.data.toList) (.inl (by omega))
    obtain rfl : P = 0 := by rw [HP.out, pNum_no hno]
    obtain rfl : Q = false := by rw [HQ.out, hno]
    clear hno hsz
    go_enter Tryd.func10, Tryd.ntmps10
    go_wp2_with fail
    go_ret2
    exact ⟨rfl, rfl⟩
  · by_cases h13 : 13 < s.size
    · have hno := pOkI_no_len (l := s.data.toList) (.inr (by omega))
      obtain rfl : P = 0 := by rw [HP.out, pNum_no hno]
      obtain rfl : Q = false := by rw [HQ.out, hno]
      clear hno hsz
      go_enter Tryd.func10, Tryd.ntmps10
      go_wp2_with fail
      go_ret2
      exact ⟨rfl, rfl⟩
    · have h00 : 0 < s.size := by omega
      have hb0 : ((s.size : Int) == 0) = false := by simpa using h0
      have g0 := str_getD s 0 h00
      by_cases hz : s[0].toNat = 48
      · by_cases h1 : 1 < s.size
        · have hno := pOkI_no_zero (l := s.data.toList) (by omega) (by rw [g0]; exact UInt8.toNat_inj.1 (by rw [hz]; rfl))
          obtain rfl : P = 0 := by rw [HP.out, pNum_no hno]
          obtain rfl : Q = false := by rw [HQ.out, hno]
          clear hno hsz g0
          have hzb : ((s[0].toNat : Int) == 48) = true := by rw [hz]; rfl
          clear hz
          go_enter Tryd.func10, Tryd.ntmps10
          go_wp2_with fail
          go_ret2
          exact ⟨rfl, rfl⟩
        · have hzz : ¬ (1 < s.data.toList.length ∧ s.data.toList.getD 0 0 = 48) := by rw [hsz]; exact fun h => h1 h.1
          have hzb : ((s[0].toNat : Int) == 48) = true := by rw [hz]; rfl
          have h1n : ¬ (1 : Int) < (s.size : Int) := by omega
          clear hz
          have HZ := Lib.hid hzz
          have HL := Lib.hid hsz
          clear hzz hsz g0
          go_enter Tryd.func10, Tryd.ntmps10
          go_wp2_with fail
          go_loop [4, 5] (fun u i => ∃ k : Nat, k ≤ s.size ∧ i = .int .i64 k ∧ u = .int .i64 (pVal (s.data.toList.take k)) ∧ DigTo s.data.toList k) (fun _ i => s.size - (intOf i).toNat)
          case atStart => exact ⟨0, Nat.zero_le _, rfl, rfl, DigTo.zero _⟩
          case round =>
            obtain ⟨k, hk, rfl, rfl, hd⟩ := hrel
            have hlen : s.data.toList.length ≤ 13 := by rw [HL.out]; omega
            have hp := pVal_take_lt _ _ hd hlen
            have HD := Lib.hid hd
            have HLN := Lib.hid hlen
            clear hd hlen hzb hb0
            by_cases hlt : k < s.size
            · have g1 := str_getD s k hlt
              have hkl : k < s.data.toList.length := by rw [HL.out]; exact hlt
              have hs := take_snocB _ k hkl
              by_cases hc : 48 ≤ s[k].toNat ∧ s[k].toNat ≤ 57
              · have hdg : isDig (s.data.toList.getD k 0) = true := by rw [g1]; exact (isDig_iff _).2 hc
                have HD2 := Lib.hid (HD.out.succ hkl hdg)
                have HV : Hid ((pVal (s.data.toList.take (k + 1)) : Int) = (pVal (s.data.toList.take k) : Int) * 10 + ((s[k].toNat : Int) - 48)) := Lib.hid (by rw [hs, pVal_snoc, g1]; omega)
                obtain ⟨hc1, hc2⟩ := hc
                clear g1 hs hdg HD HLN HZ
                generalize hq : pVal (s.data.toList.take k) = q at *
                clear hq
                go_wp2_with fail
                go_round
                case rel => exact ⟨k + 1, by omega, by go_num, by rw [HV.out], HD2.out⟩
                case measure => simp [intOf]; omega
              · have hdg : isDig (s.data.toList.getD k 0) = false := by
                  rw [g1]
                  cases e : isDig s[k]
                  · rfl
                  · exact absurd ((isDig_iff _).1 e) hc
                have hno := pOkI_no_dig k hkl hdg
                obtain rfl : P = 0 := by rw [HP.out, pNum_no hno]
                obtain rfl : Q = false := by rw [HQ.out, hno]
                clear hno g1 hs hdg HD HLN HZ HL HP HQ
                generalize hq : pVal (s.data.toList.take k) = q at *
                clear hq
                by_cases hc1 : s[k].toNat < 48
                all_goals
                  go_wp2_with fail
                  go_ret2
                  exact ⟨rfl, rfl⟩
            · obtain rfl : k = s.size := by omega
              have ht : s.data.toList.take s.size = s.data.toList := by rw [← HL.out]; exact List.take_length
              have hdd : DigTo s.data.toList s.data.toList.length := by rw [HL.out]; exact HD.out
              rw [ht] at hp ⊢
              by_cases hb : pVal s.data.toList ≤ 1000000000000
              · have hyes := pOkI_yes (l := s.data.toList) (by rw [HL.out]; omega) HLN.out hdd HZ.out hb
                obtain rfl : P = (pVal s.data.toList : Int) := by rw [HP.out, pNum_yes hyes]
                obtain rfl : Q = true := by rw [HQ.out, hyes]
                clear HP HQ
                clear hyes hdd ht HD HLN HZ HL
                go_wp2_with fail
                go_ret2
                exact ⟨rfl, rfl⟩
              · have hno := pOkI_no_big hb
                obtain rfl : P = 0 := by rw [HP.out, pNum_no hno]
                obtain rfl : Q = false := by rw [HQ.out, hno]
                clear hno hdd ht HD HLN HZ HL HP HQ
                go_wp2_with fail
                go_ret2
                exact ⟨rfl, rfl⟩
      · have hzz : ¬ (1 < s.data.toList.length ∧ s.data.toList.getD 0 0 = 48) := by rw [g0]; exact fun h => hz (by rw [h.2]; rfl)
        have hzb : ((s[0].toNat : Int) == 48) = false := beq_eq_false_iff_ne.2 (by omega)
        clear hz
        have HZ := Lib.hid hzz
        have HL := Lib.hid hsz
        clear hzz hsz g0
        go_enter Tryd.func10, Tryd.ntmps10
        go_wp2_with fail
        go_loop [4, 5] (fun u i => ∃ k : Nat, k ≤ s.size ∧ i = .int .i64 k ∧ u = .int .i64 (pVal (s.data.toList.take k)) ∧ DigTo s.data.toList k) (fun _ i => s.size - (intOf i).toNat)
        case atStart => exact ⟨0, Nat.zero_le _, rfl, rfl, DigTo.zero _⟩
        case round =>
          obtain ⟨k, hk, rfl, rfl, hd⟩ := hrel
          have hlen : s.data.toList.length ≤ 13 := by rw [HL.out]; omega
          have hp := pVal_take_lt _ _ hd hlen
          have HD := Lib.hid hd
          have HLN := Lib.hid hlen
          clear hd hlen hzb hb0
          by_cases hlt : k < s.size
          · have g1 := str_getD s k hlt
            have hkl : k < s.data.toList.length := by rw [HL.out]; exact hlt
            have hs := take_snocB _ k hkl
            by_cases hc : 48 ≤ s[k].toNat ∧ s[k].toNat ≤ 57
            · have hdg : isDig (s.data.toList.getD k 0) = true := by rw [g1]; exact (isDig_iff _).2 hc
              have HD2 := Lib.hid (HD.out.succ hkl hdg)
              have HV : Hid ((pVal (s.data.toList.take (k + 1)) : Int) = (pVal (s.data.toList.take k) : Int) * 10 + ((s[k].toNat : Int) - 48)) := Lib.hid (by rw [hs, pVal_snoc, g1]; omega)
              obtain ⟨hc1, hc2⟩ := hc
              clear g1 hs hdg HD HLN HZ
              generalize hq : pVal (s.data.toList.take k) = q at *
              clear hq
              go_wp2_with fail
              go_round
              case rel => exact ⟨k + 1, by omega, by go_num, by rw [HV.out], HD2.out⟩
              case measure => simp [intOf]; omega
            · have hdg : isDig (s.data.toList.getD k 0) = false := by
                rw [g1]
                cases e : isDig s[k]
                · rfl
                · exact absurd ((isDig_iff _).1 e) hc
              have hno := pOkI_no_dig k hkl hdg
              obtain rfl : P = 0 := by rw [HP.out, pNum_no hno]
              obtain rfl : Q = false := by rw [HQ.out, hno]
              clear hno g1 hs hdg HD HLN HZ HL HP HQ
              generalize hq : pVal (s.data.toList.take k) = q at *
              clear hq
              by_cases hc1 : s[k].toNat < 48
              all_goals
                go_wp2_with fail
                go_ret2
                exact ⟨rfl, rfl⟩
          · obtain rfl : k = s.size := by omega
            have ht : s.data.toList.take s.size = s.data.toList := by rw [← HL.out]; exact List.take_length
            have hdd : DigTo s.data.toList s.data.toList.length := by rw [HL.out]; exact HD.out
            rw [ht] at hp ⊢
            by_cases hb : pVal s.data.toList ≤ 1000000000000
            · have hyes := pOkI_yes (l := s.data.toList) (by rw [HL.out]; omega) HLN.out hdd HZ.out hb
              obtain rfl : P = (pVal s.data.toList : Int) := by rw [HP.out, pNum_yes hyes]
              obtain rfl : Q = true := by rw [HQ.out, hyes]
              clear HP HQ
              clear hyes hdd ht HD HLN HZ HL
              go_wp2_with fail
              go_ret2
              exact ⟨rfl, rfl⟩
            · have hno := pOkI_no_big hb
              obtain rfl : P = 0 := by rw [HP.out, pNum_no hno]
              obtain rfl : Q = false := by rw [HQ.out, hno]
              clear hno hdd ht HD HLN HZ HL HP HQ
              go_wp2_with fail
              go_ret2
              exact ⟨rfl, rfl⟩

set_option maxRecDepth 100000 in
set_option maxHeartbeats 4000000 in
theorem spec_FormatInt_pos (N : Nat) (w : World) (h0 : N ≠ 0) (hN : N ≤ 9223372036854775807) :
    Calls Tryd.prog 23 #[.int .i64 (N : Int)] w fun e w' => e = .returned (.string ⟨(decDigits N).toArray⟩) ∧ Below w.heap.size w w' := by
  have hn0 : 1 ≤ N := by omega
  have hnb : ((N : Int) == 0) = false := beq_eq_false_iff_ne.2 (by omega)
  go_enter Tryd.func23, Tryd.ntmps23
  go_wp2_with fail
  go_loopw [3, 4] (fun v u wr => ∃ (X : Nat) (D : List UInt8), u = .int .i64 (((X : Nat) : Int)) ∧ X ≤ 9223372036854775807 ∧ v = .string ⟨D.toArray⟩ ∧ DzR N X D ∧ Below w.heap.size w wr) (fun _ u _ => (intOf u).natAbs)
  case atStart => exact ⟨N, [], rfl, hN, rfl, DzR.start N, Below.refl _ _⟩
  case round =>
    clear hnb
    obtain ⟨X, D, rfl, hX, rfl, hD, hbel⟩ := hrel
    by_cases hx0 : X = 0
    · subst hx0
      have hl := hD.last h0
      have HL := Lib.hid hl
      have hneg : ¬ (N : Int) < 0 := by omega
      clear hD hl h0
      go_wp2_with fail
      go_ret
      exact ⟨by rw [← HL.out]; rfl, hbel⟩
    · have hDl := hD.len (by omega)
      have HD := Lib.hid (hD.next hx0)
      clear hD h0
      have hxb : (((X : Nat) : Int) != 0) = true := by
        have : ¬ (((X : Nat) : Int) = 0) := by omega
        simpa using this
      have hd0 : X % 10 < 10 := by omega
      have hrun0 := run_convert_bytes_back (P := Tryd.prog) (wr.alloc (.cells #[.int .u8 (48 + (X : Int) % 10)] 5)) 22 9 5 ⟨wr.heap.size, 0, none⟩ 1 [UInt8.ofNat (48 + X % 10)] Tryd.underlying22 Tryd.underlying5 Tryd.underlying9 (by
        intro j hj
        obtain rfl : j = 0 := by simpa using hj
        have hc := cell_of_row (wr.alloc (.cells #[.int .u8 (48 + (X : Int) % 10)] 5)) wr.heap.size 0 #[.int .u8 (48 + (X : Int) % 10)] 5 (0, 0) (heap_alloc_new wr _)
        rw [Addr.add_lit, hc]
        have e : ((UInt8.ofNat (48 + X % 10)).toNat : Int) = 48 + (X : Int) % 10 := by rw [toNat_dig hd0]; omega
        show some (Value.int .u8 (48 + (X : Int) % 10)) = some (Value.int .u8 ((UInt8.ofNat (48 + X % 10)).toNat : Int))
        rw [e])
      obtain ⟨c, hc⟩ : ∃ c, c = UInt8.ofNat (48 + X % 10) := ⟨_, rfl⟩
      rw [← hc] at hrun0 HD
      have hrun : (convert 22 9 (.slice (some ⟨wr.heap.size, 0, none⟩) 1 1)).run Tryd.prog (wr.alloc (.cells #[.int .u8 (48 + (X : Int) % 10)] 5)) = .ok (.string ⟨#[c]⟩) (wr.alloc (.cells #[.int .u8 (48 + (X : Int) % 10)] 5)) := hrun0
      clear hrun0 hc
      have B2 := Below.al hbel (.cells #[.int .u8 (48 + (X : Int) % 10)] 5)
      have hcat : (⟨#[c]⟩ : ByteArray) ++ ⟨D.toArray⟩ = ⟨(c :: D).toArray⟩ := by apply ByteArray.ext; simp
      have HCAT := Lib.hid hcat
      clear hcat
      go_wp2_with fail
      go_roundw
      case rel => exact ⟨X / 10, c :: D, by go_num, by omega, by rw [← HCAT.out], HD.out, B2⟩
      case measure => simp [intOf]; omega
set_option maxRecDepth 100000 in
set_option maxHeartbeats 4000000 in
theorem spec_FormatInt_neg (N : Nat) (w : World) (h0 : N ≠ 0) (hN : N ≤ 9223372036854775808) :
    Calls Tryd.prog 23 #[.int .i64 (-(N : Int))] w fun e w' => e = .returned (.string ⟨(45 :: decDigits N).toArray⟩) ∧ Below w.heap.size w w' := by
  have hn0 : 1 ≤ N := by omega
  have hnb : ((-(N : Int)) == 0) = false := beq_eq_false_iff_ne.2 (by omega)
  go_enter Tryd.func23, Tryd.ntmps23
  go_wp2_with fail
  go_loopw [3, 4] (fun v u wr => ∃ (X : Nat) (D : List UInt8), u = .int .i64 (-((X : Nat) : Int)) ∧ X ≤ 9223372036854775808 ∧ v = .string ⟨D.toArray⟩ ∧ DzR N X D ∧ Below w.heap.size w wr) (fun _ u _ => (intOf u).natAbs)
  case atStart => exact ⟨N, [], rfl, hN, rfl, DzR.start N, Below.refl _ _⟩
  case round =>
    clear hnb
    obtain ⟨X, D, rfl, hX, rfl, hD, hbel⟩ := hrel
    by_cases hx0 : X = 0
    · subst hx0
      have hl := hD.last h0
      have hDl := hD.len (by omega)
      have HL := Lib.hid hl
      have hcat : (⟨#[45]⟩ : ByteArray) ++ ⟨D.toArray⟩ = ⟨(45 :: D).toArray⟩ := by apply ByteArray.ext; simp
      have HCAT := Lib.hid hcat
      clear hcat
      have hneg : -(N : Int) < 0 := by omega
      clear hD hl h0
      go_wp2_with fail
      go_ret
      exact ⟨by rw [← HL.out, ← HCAT.out]; rfl, hbel⟩
    · have hDl := hD.len (by omega)
      have HD := Lib.hid (hD.next hx0)
      clear hD h0
      have hxb : (-((X : Nat) : Int) != 0) = true := by
        have : ¬ (-((X : Nat) : Int) = 0) := by omega
        simpa using this
      have hd0 : X % 10 < 10 := by omega
      have hrun0 := run_convert_bytes_back (P := Tryd.prog) (wr.alloc (.cells #[.int .u8 (48 + (X : Int) % 10)] 5)) 22 9 5 ⟨wr.heap.size, 0, none⟩ 1 [UInt8.ofNat (48 + X % 10)] Tryd.underlying22 Tryd.underlying5 Tryd.underlying9 (by
        intro j hj
        obtain rfl : j = 0 := by simpa using hj
        have hc := cell_of_row (wr.alloc (.cells #[.int .u8 (48 + (X : Int) % 10)] 5)) wr.heap.size 0 #[.int .u8 (48 + (X : Int) % 10)] 5 (0, 0) (heap_alloc_new wr _)
        rw [Addr.add_lit, hc]
        have e : ((UInt8.ofNat (48 + X % 10)).toNat : Int) = 48 + (X : Int) % 10 := by rw [toNat_dig hd0]; omega
        show some (Value.int .u8 (48 + (X : Int) % 10)) = some (Value.int .u8 ((UInt8.ofNat (48 + X % 10)).toNat : Int))
        rw [e])
      obtain ⟨c, hc⟩ : ∃ c, c = UInt8.ofNat (48 + X % 10) := ⟨_, rfl⟩
      rw [← hc] at hrun0 HD
      have hrun : (convert 22 9 (.slice (some ⟨wr.heap.size, 0, none⟩) 1 1)).run Tryd.prog (wr.alloc (.cells #[.int .u8 (48 + (X : Int) % 10)] 5)) = .ok (.string ⟨#[c]⟩) (wr.alloc (.cells #[.int .u8 (48 + (X : Int) % 10)] 5)) := hrun0
      clear hrun0 hc
      have B2 := Below.al hbel (.cells #[.int .u8 (48 + (X : Int) % 10)] 5)
      have hcat : (⟨#[c]⟩ : ByteArray) ++ ⟨D.toArray⟩ = ⟨(c :: D).toArray⟩ := by apply ByteArray.ext; simp
      have HCAT := Lib.hid hcat
      clear hcat
      have ht : (-(X : Int)).tmod 10 = -((X : Int) % 10) := by rw [Int.neg_tmod, Int.tmod_eq_emod_of_nonneg (by omega)]
      have hq : (-(X : Int)).tdiv 10 = -((X : Int) / 10) := by rw [Int.neg_tdiv, Int.tdiv_eq_ediv_of_nonneg (by omega)]
      have hnn : - -((X : Int) % 10) = (X : Int) % 10 := by omega
      by_cases hz10 : (X : Int) % 10 = 0
      · rw [hz10] at hrun B2
        simp only [Int.add_zero] at hrun B2
        go_wp2_with fail
        go_roundw
        case rel => exact ⟨X / 10, c :: D, by go_num, by omega, by rw [← HCAT.out], HD.out, B2⟩
        case measure => simp [intOf]; omega
      · go_wp2_with fail
        go_roundw
        case rel => exact ⟨X / 10, c :: D, by go_num, by omega, by rw [← HCAT.out], HD.out, B2⟩
        case measure => simp [intOf]; omega

theorem spec_FormatInt_zero (w : World) :
    Calls Tryd.prog 23 #[.int .i64 0] w fun e w' => e = .returned (.string ⟨(decDigits 0).toArray⟩) ∧ Below w.heap.size w w' := by
  have h : decDigits 0 = [48] := by rw [decDigits_lo (by omega)]; rfl
  rw [h]
  go_enter Tryd.func23, Tryd.ntmps23
  go_wp2_with fail
  go_ret
  exact ⟨rfl, Below.refl _ _⟩
theorem spec_FormatInt_nat (N : Nat) (w : World) (hN : N ≤ 9223372036854775807) :
    Calls Tryd.prog 23 #[.int .i64 (N : Int)] w fun e w' => e = .returned (.string ⟨(decDigits N).toArray⟩) ∧ Below w.heap.size w w' := by
  by_cases h : N = 0
  · subst h; exact spec_FormatInt_zero w
  · exact spec_FormatInt_pos N w h hN
theorem spec_FormatInt (n : Int) (w : World) (hn : (Lit.int .i64 n).wf = true) :
    Calls Tryd.prog 23 #[.int .i64 n] w fun e w' => e = .returned (.string ⟨(itoa n).toArray⟩) ∧ Below w.heap.size w w' := by
  have b := wf_i64_bd hn
  unfold itoa
  by_cases h : n < 0
  · rw [if_pos h]
    have h1 := spec_FormatInt_neg n.natAbs w (by omega) (by omega)
    rwa [show -(n.natAbs : Int) = n by omega] at h1
  · rw [if_neg h]
    have h1 := spec_FormatInt_nat n.toNat w (by omega)
    rwa [show (n.toNat : Int) = n by omega] at h1

set_option maxRecDepth 100000 in
set_option maxHeartbeats 4000000 in
theorem spec_ParseInt (s : ByteArray) (w : World) (hs : s.size ≤ maxLen) (P : Int) (Q : Bool) (hP : P = pNum s.data.toList) (hQ : Q = pOkI s.data.toList) :
    Calls Tryd.prog 39 #[.string s] w fun e w' => e = .returned (.tuple #[.int .i64 P, .bool Q]) ∧ Below w.heap.size w w' := by
  have HP := Lib.hid hP
  have HQ := Lib.hid hQ
  clear hP hQ
  unfold maxLen at hs
  have hsz : s.data.toList.length = s.size := Array.length_toList
  by_cases h013 : s.size = 0 ∨ 13 < s.size
  · have hno := pOkI_no_len (l := s.data.toList) (by omega)
    obtain rfl : P = 0 := by rw [HP.out, pNum_no hno]
    obtain rfl : Q = false := by rw [HQ.out, hno]
    have hir : M.inR (s.size : Int) 1 13 = false := M.inR_false (by omega)
    clear hno hsz HP HQ
    go_enter Tryd.func39, Tryd.ntmps39
    go_wp2_with (go_at_call 40; refine (spec_l1In _ _ _ _).mono ?_; rintro e w' ⟨rfl, rfl⟩)
    go_ret2
    exact ⟨rfl, Below.refl _ _⟩
  · have h0 : 0 < s.size := by omega
    have h13 : s.size ≤ 13 := by omega
    have hir : M.inR (s.size : Int) 1 13 = true := M.inR_true (by omega)
    have HL := Lib.hid hsz
    clear hsz h013
    go_enter Tryd.func39, Tryd.ntmps39
    go_wp2_with (go_at_call 40; refine (spec_l1In _ _ _ _).mono ?_; rintro e w' ⟨rfl, rfl⟩)
    go_loop [4, 5] (fun u i => ∃ k : Nat, k ≤ s.size ∧ i = .int .i64 k ∧ u = .int .i64 (pVal (s.data.toList.take k)) ∧ DigTo s.data.toList k) (fun _ i => s.size - (intOf i).toNat)
    case atStart => exact ⟨0, Nat.zero_le _, rfl, rfl, DigTo.zero _⟩
    case round =>
      clear hir
      obtain ⟨k, hk, rfl, rfl, hd⟩ := hrel
      have hlen : s.data.toList.length ≤ 13 := by rw [HL.out]; omega
      have hp := pVal_take_lt _ _ hd hlen
      have HD := Lib.hid hd
      have HLN := Lib.hid hlen
      clear hd hlen
      by_cases hlt : k < s.size
      · have g1 := str_getD s k hlt
        have hkl : k < s.data.toList.length := by rw [HL.out]; exact hlt
        have hs := take_snocB _ k hkl
        by_cases hc : 48 ≤ s[k].toNat ∧ s[k].toNat ≤ 57
        · have hdg : isDig (s.data.toList.getD k 0) = true := by rw [g1]; exact (isDig_iff _).2 hc
          have HD2 := Lib.hid (HD.out.succ hkl hdg)
          have HV : Hid ((pVal (s.data.toList.take (k + 1)) : Int) = 10 * (pVal (s.data.toList.take k) : Int) + ((s[k].toNat : Int) - 48)) := Lib.hid (by rw [hs, pVal_snoc, g1]; omega)
          have hir : M.inR (s[k].toNat : Int) 48 57 = true := M.inR_true (by omega)
          obtain ⟨hc1, hc2⟩ := hc
          clear g1 hs hdg HD HLN
          generalize hq : pVal (s.data.toList.take k) = q at *
          clear hq
          go_wp2_with (go_at_call 40; refine (spec_l1In _ _ _ _).mono ?_; rintro e w' ⟨rfl, rfl⟩)
          go_round
          case rel => exact ⟨k + 1, by omega, by go_num, by rw [HV.out], HD2.out⟩
          case measure => simp [intOf]; omega
        · have hdg : isDig (s.data.toList.getD k 0) = false := by
            rw [g1]
            cases e : isDig s[k]
            · rfl
            · exact absurd ((isDig_iff _).1 e) hc
          have hno := pOkI_no_dig k hkl hdg
          obtain rfl : P = 0 := by rw [HP.out, pNum_no hno]
          obtain rfl : Q = false := by rw [HQ.out, hno]
          have h255 := UInt8.toNat_lt s[k]
          have hir : M.inR (s[k].toNat : Int) 48 57 = false := M.inR_false (by omega)
          clear hno g1 hs hdg HD HLN HL HP HQ
          generalize hq : pVal (s.data.toList.take k) = q at *
          clear hq
          go_wp2_with (go_at_call 40; refine (spec_l1In _ _ _ _).mono ?_; rintro e w' ⟨rfl, rfl⟩)
          go_ret2
          exact ⟨rfl, Below.refl _ _⟩
      · obtain rfl : k = s.size := by omega
        have ht : s.data.toList.take s.size = s.data.toList := by rw [← HL.out]; exact List.take_length
        have hdd : DigTo s.data.toList s.data.toList.length := by rw [HL.out]; exact HD.out
        rw [ht] at hp ⊢
        by_cases hb : pVal s.data.toList ≤ 1000000000000
        · have hall : ∀ c ∈ s.data.toList, isDig c = true := by intro c hc; exact hdd c (by rw [List.take_length]; exact hc)
          have hne : s.data.toList ≠ [] := by intro e; have := HL.out; rw [e] at this; simp at this; omega
          by_cases hz : 1 < s.data.toList.length ∧ s.data.toList.getD 0 0 = 48
          · have hno := pOkI_no_zero hz.1 hz.2
            obtain rfl : P = 0 := by rw [HP.out, pNum_no hno]
            obtain rfl : Q = false := by rw [HQ.out, hno]
            have hdz : decDigits (pVal s.data.toList) ≠ s.data.toList := dec_zero _ hz.1 (by
              cases e : s.data.toList with
              | nil => exact absurd e hne
              | cons a t => have := hz.2; rw [e] at this; simp at this; simp [this])
            have hdb : (decDigits (pVal s.data.toList) == s.toList) = false := by rw [ByteArray.toList_eq]; exact beq_eq_false_iff_ne.2 hdz
            clear hno hz hdz hall hne hdd ht HD HLN HL HP HQ
            generalize pVal s.data.toList = q at *
            go_wp2_with fail
            refine (spec_FormatInt_nat q _ (by omega)).mono ?_
            rintro e w1 ⟨rfl, b1⟩
            go_wp2_with fail
            go_ret2
            exact ⟨rfl, b1⟩
          · have hyes := pOkI_yes (l := s.data.toList) (by rw [HL.out]; omega) HLN.out hdd hz hb
            obtain rfl : P = (pVal s.data.toList : Int) := by rw [HP.out, pNum_yes hyes]
            obtain rfl : Q = true := by rw [HQ.out, hyes]
            have hdz : decDigits (pVal s.data.toList) = s.data.toList := dec_pVal _ hne hall (fun h1 h2 => hz ⟨h1, by
              cases e : s.data.toList with
              | nil => exact absurd e hne
              | cons a t => rw [e] at h2; simp at h2; simp [h2]⟩)
            have hstr : (⟨(decDigits (pVal s.data.toList)).toArray⟩ : ByteArray) = s := by rw [hdz]
            have HST := Lib.hid hstr
            clear hyes hz hdz hall hne hdd ht HD HLN HL HP HQ hstr
            go_wp2_with fail
            refine (spec_FormatInt_nat (pVal s.data.toList) _ (by omega)).mono ?_
            rw [HST.out]
            rintro e w1 ⟨rfl, b1⟩
            clear HST
            go_wp2_with fail
            go_ret2
            exact ⟨rfl, b1⟩
        · have hno := pOkI_no_big hb
          obtain rfl : P = 0 := by rw [HP.out, pNum_no hno]
          obtain rfl : Q = false := by rw [HQ.out, hno]
          clear hno hdd ht HD HLN HL HP HQ
          go_wp2_with fail
          go_ret2
          exact ⟨rfl, Below.refl _ _⟩

end Go.Proofs.YtflpdapalfgodaaDoor
