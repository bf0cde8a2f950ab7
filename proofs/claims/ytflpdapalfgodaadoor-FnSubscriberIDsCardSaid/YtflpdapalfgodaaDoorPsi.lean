/-
  Contracts: an identity parsed: the program's side.
-/
import Derived.Test.YtflpdapalfgodaaDoorCut
import Derived.Test.YtflpdapalfgodaaDoorIds
namespace Go.Proofs.YtflpdapalfgodaaDoor
open Go.RowKit Go.Lib

theorem take_data (s : ByteArray) (i : Nat) : (s.extract 0 i).data.toList = s.data.toList.take i := by
  rw [ByteArray.data_extract, Array.toList_extract]; simp
theorem drop_data (s : ByteArray) (i : Nat) : (s.extract i s.size).data.toList = s.data.toList.drop i := by
  rw [ByteArray.data_extract, Array.toList_extract]
  rw [List.extract_eq_take_drop]
  exact List.take_of_length_le (by rw [List.length_drop]; exact Nat.le_of_eq (congrArg (· - i) (Array.length_toList (xs := s.data))))
theorem sz_ext (s : ByteArray) (i j : Nat) (hs : s.size ≤ 1048576) : (s.extract i j).size ≤ maxLen := by
  rw [ByteArray.size_extract]; unfold maxLen; omega

set_option maxHeartbeats 400000 in
theorem impl_ParseSubscriberID_no (s : ByteArray) (w : World) (h : Lib.indexByte s.data.toList 45 = -1) :
    Calls Tryd.prog 17 #[.string s] w fun e w' => e = .returned (.tuple #[.agg #[.int .i64 0, .int .i64 0], .bool false]) ∧ Below w.heap.size w w' := by
  have H := Lib.hid h
  clear h
  go_enter Tryd.func17, Tryd.ntmps17
  go_wp2_with (go_at_call 37; refine (strings_Cut_no _ _ H.out).mono ?_; rintro e w1 ⟨rfl, m, rfl⟩)
  refine bodyPost_ret (v := .tuple #[.agg #[.int .i64 0, .int .i64 0], .bool false]) (by simp [results, Tryd.results17, go_sem, *]) rfl ⟨rfl, ?_⟩
  exact (by repeat (first | (with_reducible exact Below.refl _ _) | (with_reducible refine Below.st ?_ _ _ _ (by simp <;> omega)) | (with_reducible refine Below.al ?_ _) | (with_reducible refine Below.dn ?_ _) | (with_reducible refine Below.drew ?_)))
set_option maxHeartbeats 400000 in
theorem impl_ParseSubscriberID_a (s : ByteArray) (i : Nat) (w : World) (hs : s.size ≤ 1048576) (h : Lib.indexByte s.data.toList 45 = (i : Int)) (hi : i < s.size) (P : Int) (hP : P = pNum (s.data.toList.take i)) (hQ : pOkI (s.data.toList.take i) = false) :
    Calls Tryd.prog 17 #[.string s] w fun e w' => e = .returned (.tuple #[.agg #[.int .i64 0, .int .i64 0], .bool false]) ∧ Below w.heap.size w w' := by
  have H := Lib.hid h
  have HS := Lib.hid hs
  have HI := Lib.hid hi
  rw [← take_data] at hP hQ
  have HP := Lib.hid hP
  have HQ := Lib.hid hQ.symm
  clear h hs hi hP hQ
  go_enter Tryd.func17, Tryd.ntmps17
  go_wp2_with (first
    | (go_at_call 37; refine (strings_Cut_yes _ i _ HS.out H.out HI.out).mono ?_; rintro e w1 ⟨rfl, m, rfl⟩)
    | (go_at_call 10; with_reducible refine (impl_ParseInt (s.extract 0 i) _ (sz_ext _ _ _ HS.out) P false HP.out HQ.out).mono ?_; rintro e w1 ⟨rfl, rfl⟩))
  refine bodyPost_ret (v := .tuple #[.agg #[.int .i64 0, .int .i64 0], .bool false]) (by simp [results, Tryd.results17, go_sem, *]) rfl ⟨rfl, ?_⟩
  exact (by repeat (first | (with_reducible exact Below.refl _ _) | (with_reducible refine Below.st ?_ _ _ _ (by simp <;> omega)) | (with_reducible refine Below.al ?_ _) | (with_reducible refine Below.dn ?_ _) | (with_reducible refine Below.drew ?_)))
set_option maxHeartbeats 400000 in
theorem impl_ParseSubscriberID_b (s : ByteArray) (i : Nat) (w : World) (hs : s.size ≤ 1048576) (h : Lib.indexByte s.data.toList 45 = (i : Int)) (hi : i < s.size) (P : Int) (hP : P = pNum (s.data.toList.take i)) (hQ : pOkI (s.data.toList.take i) = true) (R : Int) (hR : R = pNum (s.data.toList.drop (i + 1))) (hT : pOkI (s.data.toList.drop (i + 1)) = false) :
    Calls Tryd.prog 17 #[.string s] w fun e w' => e = .returned (.tuple #[.agg #[.int .i64 0, .int .i64 0], .bool false]) ∧ Below w.heap.size w w' := by
  have H := Lib.hid h
  have HS := Lib.hid hs
  have HI := Lib.hid hi
  rw [← take_data] at hP hQ
  rw [← drop_data] at hR hT
  have HP := Lib.hid hP
  have HQ := Lib.hid hQ.symm
  have HR := Lib.hid hR
  have HT := Lib.hid hT.symm
  clear h hs hi hP hQ hR hT
  go_enter Tryd.func17, Tryd.ntmps17
  go_wp2_with (first
    | (go_at_call 37; refine (strings_Cut_yes _ i _ HS.out H.out HI.out).mono ?_; rintro e w1 ⟨rfl, m, rfl⟩)
    | (go_at_call 10; with_reducible refine (impl_ParseInt (s.extract 0 i) _ (sz_ext _ _ _ HS.out) P true HP.out HQ.out).mono ?_; rintro e w1 ⟨rfl, rfl⟩)
    | (go_at_call 10; with_reducible refine (impl_ParseInt (s.extract (i + 1) s.size) _ (sz_ext _ _ _ HS.out) R false HR.out HT.out).mono ?_; rintro e w1 ⟨rfl, rfl⟩))
  refine bodyPost_ret (v := .tuple #[.agg #[.int .i64 0, .int .i64 0], .bool false]) (by simp [results, Tryd.results17, go_sem, *]) rfl ⟨rfl, ?_⟩
  exact (by repeat (first | (with_reducible exact Below.refl _ _) | (with_reducible refine Below.st ?_ _ _ _ (by simp <;> omega)) | (with_reducible refine Below.al ?_ _) | (with_reducible refine Below.dn ?_ _) | (with_reducible refine Below.drew ?_)))
set_option maxHeartbeats 400000 in
theorem impl_ParseSubscriberID_c (s : ByteArray) (i : Nat) (w : World) (hs : s.size ≤ 1048576) (h : Lib.indexByte s.data.toList 45 = (i : Int)) (hi : i < s.size) (P : Int) (hP : P = pNum (s.data.toList.take i)) (hQ : pOkI (s.data.toList.take i) = true) (R : Int) (hR : R = pNum (s.data.toList.drop (i + 1))) (hT : pOkI (s.data.toList.drop (i + 1)) = true) (hv : M.vSid P R = false) :
    Calls Tryd.prog 17 #[.string s] w fun e w' => e = .returned (.tuple #[.agg #[.int .i64 0, .int .i64 0], .bool false]) ∧ Below w.heap.size w w' := by
  have H := Lib.hid h
  have HS := Lib.hid hs
  have HI := Lib.hid hi
  rw [← take_data] at hP hQ
  rw [← drop_data] at hR hT
  have HP := Lib.hid hP
  have HQ := Lib.hid hQ.symm
  have HR := Lib.hid hR
  have HT := Lib.hid hT.symm
  clear h hs hi hP hQ hR hT
  go_enter Tryd.func17, Tryd.ntmps17
  go_wp2_with (first
    | (go_at_call 37; refine (strings_Cut_yes _ i _ HS.out H.out HI.out).mono ?_; rintro e w1 ⟨rfl, m, rfl⟩)
    | (go_at_call 10; with_reducible refine (impl_ParseInt (s.extract 0 i) _ (sz_ext _ _ _ HS.out) P true HP.out HQ.out).mono ?_; rintro e w1 ⟨rfl, rfl⟩)
    | (go_at_call 10; with_reducible refine (impl_ParseInt (s.extract (i + 1) s.size) _ (sz_ext _ _ _ HS.out) R true HR.out HT.out).mono ?_; rintro e w1 ⟨rfl, rfl⟩)
    | (go_at_call 22; refine (impl_IsValidSubscriberID _ _ _).mono ?_; rintro e w1 ⟨rfl, rfl⟩))
  refine bodyPost_ret (v := .tuple #[.agg #[.int .i64 0, .int .i64 0], .bool false]) (by simp [results, Tryd.results17, go_sem, *]) rfl ⟨rfl, ?_⟩
  exact (by repeat (first | (with_reducible exact Below.refl _ _) | (with_reducible refine Below.st ?_ _ _ _ (by simp <;> omega)) | (with_reducible refine Below.al ?_ _) | (with_reducible refine Below.dn ?_ _) | (with_reducible refine Below.drew ?_)))
set_option maxHeartbeats 400000 in
theorem impl_ParseSubscriberID_d (s : ByteArray) (i : Nat) (w : World) (hs : s.size ≤ 1048576) (h : Lib.indexByte s.data.toList 45 = (i : Int)) (hi : i < s.size) (P : Int) (hP : P = pNum (s.data.toList.take i)) (hQ : pOkI (s.data.toList.take i) = true) (R : Int) (hR : R = pNum (s.data.toList.drop (i + 1))) (hT : pOkI (s.data.toList.drop (i + 1)) = true) (hv : M.vSid P R = true) :
    Calls Tryd.prog 17 #[.string s] w fun e w' => e = .returned (.tuple #[.agg #[.int .i64 P, .int .i64 R], .bool true]) ∧ Below w.heap.size w w' := by
  have H := Lib.hid h
  have HS := Lib.hid hs
  have HI := Lib.hid hi
  rw [← take_data] at hP hQ
  rw [← drop_data] at hR hT
  have HP := Lib.hid hP
  have HQ := Lib.hid hQ.symm
  have HR := Lib.hid hR
  have HT := Lib.hid hT.symm
  clear h hs hi hP hQ hR hT
  go_enter Tryd.func17, Tryd.ntmps17
  go_wp2_with (first
    | (go_at_call 37; refine (strings_Cut_yes _ i _ HS.out H.out HI.out).mono ?_; rintro e w1 ⟨rfl, m, rfl⟩)
    | (go_at_call 10; with_reducible refine (impl_ParseInt (s.extract 0 i) _ (sz_ext _ _ _ HS.out) P true HP.out HQ.out).mono ?_; rintro e w1 ⟨rfl, rfl⟩)
    | (go_at_call 10; with_reducible refine (impl_ParseInt (s.extract (i + 1) s.size) _ (sz_ext _ _ _ HS.out) R true HR.out HT.out).mono ?_; rintro e w1 ⟨rfl, rfl⟩)
    | (go_at_call 22; refine (impl_IsValidSubscriberID _ _ _).mono ?_; rintro e w1 ⟨rfl, rfl⟩))
  refine bodyPost_ret (v := .tuple #[.agg #[.int .i64 P, .int .i64 R], .bool true]) (by simp [results, Tryd.results17, go_sem, *]) rfl ⟨rfl, ?_⟩
  exact (by repeat (first | (with_reducible exact Below.refl _ _) | (with_reducible refine Below.st ?_ _ _ _ (by simp <;> omega)) | (with_reducible refine Below.al ?_ _) | (with_reducible refine Below.dn ?_ _) | (with_reducible refine Below.drew ?_)))
/-- The program's side, all cases. -/
theorem impl_ParseSubscriberID (s : ByteArray) (w : World) (hs : s.size ≤ 1048576) (X Y : Int) (Q : Bool) (hX : X = sidX s.data.toList) (hY : Y = sidY s.data.toList) (hQ : Q = sidOk s.data.toList) :
    Calls Tryd.prog 17 #[.string s] w fun e w' => e = .returned (.tuple #[.agg #[.int .i64 X, .int .i64 Y], .bool Q]) ∧ Below w.heap.size w w' := by
  have hsz : s.data.toList.length = s.size := Array.length_toList
  rcases indexByte_cases s.data.toList 45 with ⟨h1, -⟩ | ⟨i, h1, h2, -, -⟩
  · have ho : sidOk s.data.toList = false := by unfold sidOk; rw [h1]; rfl
    have hxy := sid_no ho
    rw [hX, hY, hQ, hxy.1, hxy.2, ho]
    exact impl_ParseSubscriberID_no s w h1
  · have hi : i < s.size := by omega
    have hne : decide (Lib.indexByte s.data.toList 45 = -1) = false := decide_eq_false (by omega)
    have hn2 : ¬ Lib.indexByte s.data.toList 45 = -1 := by omega
    have hn : (Lib.indexByte s.data.toList 45).toNat = i := by omega
    have hA : sidA s.data.toList = pNum (s.data.toList.take i) := by unfold sidA; rw [if_neg hn2, hn]
    have hB : sidB s.data.toList = pNum (s.data.toList.drop (i + 1)) := by unfold sidB; rw [if_neg hn2, hn]
    cases h3 : pOkI (s.data.toList.take i)
    · have ho : sidOk s.data.toList = false := by unfold sidOk; rw [hne, hn, h3]; rfl
      have hxy := sid_no ho
      rw [hX, hY, hQ, hxy.1, hxy.2, ho]
      exact impl_ParseSubscriberID_a s i w hs h1 hi _ rfl h3
    · cases h4 : pOkI (s.data.toList.drop (i + 1))
      · have ho : sidOk s.data.toList = false := by unfold sidOk; rw [hne, hn, h3, h4]; rfl
        have hxy := sid_no ho
        rw [hX, hY, hQ, hxy.1, hxy.2, ho]
        exact impl_ParseSubscriberID_b s i w hs h1 hi _ rfl h3 _ rfl h4
      · cases h5 : M.vSid (sidA s.data.toList) (sidB s.data.toList)
        · have ho : sidOk s.data.toList = false := by unfold sidOk; rw [hne, hn, h3, h4, h5]; rfl
          have hxy := sid_no ho
          rw [hX, hY, hQ, hxy.1, hxy.2, ho]
          exact impl_ParseSubscriberID_c s i w hs h1 hi _ hA h3 _ hB h4 h5
        · have ho : sidOk s.data.toList = true := by unfold sidOk; rw [hne, hn, h3, h4, h5]; rfl
          have hx : sidX s.data.toList = sidA s.data.toList := by unfold sidX; rw [if_pos ho]
          have hy : sidY s.data.toList = sidB s.data.toList := by unfold sidY; rw [if_pos ho]
          rw [hX, hY, hQ, hx, hy, ho]
          exact impl_ParseSubscriberID_d s i w hs h1 hi _ hA h3 _ hB h4 h5

end Go.Proofs.YtflpdapalfgodaaDoor
