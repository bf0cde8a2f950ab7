/-
  Contracts: an identity parsed: the reference's side.
-/
import Derived.Test.YtflpdapalfgodaaDoorSpl
import Derived.Test.YtflpdapalfgodaaDoorMemA
namespace Go.Proofs.YtflpdapalfgodaaDoor
open Go.RowKit Go.Lib

set_option maxHeartbeats 400000 in
theorem spec_ParseSubscriberID_not2 (s : ByteArray) (w : World) (hs : s.size ≤ 1048576) (h : (spl s (s.size + 1)).1.length ≠ 2) (h0 : (spl s (s.size + 1)).1.length ≠ 0) :
    Calls Tryd.prog 20 #[.string s] w fun e w' => e = .returned (.tuple #[.agg #[.int .i64 0, .int .i64 0], .bool false]) ∧ Below w.heap.size w w' := by
  go_enter Tryd.func20, Tryd.ntmps20
  have B0 := Below.al (Below.refl w.heap.size w) (.cells #[.int .i64 0, .int .i64 0] 33)
  have HQ := Lib.hid (newBlk (w) #[.int .i64 0, .int .i64 0] 33 (w.heap.size) (by simp))
  go_wp2_with fail
  refine (spec_l4Split s _ hs).mono ?_
  rintro e u1 ⟨v, rfl, ho, b1⟩
  replace HQ := Lib.hid (cells_of_below b1 HQ.out)
  replace B0 := Below.next B0 b1
  obtain ⟨n, hn⟩ : ∃ n, n = (spl s (s.size + 1)).1.length := ⟨_, rfl⟩
  rw [← hn] at h h0 ho
  rcases ho.2 with ⟨_, e0⟩ | ⟨g, cap, cur, rfl, -, -, hc1, hc2, -, -⟩
  · exact absurd e0 h0
  clear ho b1 hn
  have hnb : ((n : Int) != 2) = true := by
    have : ¬ (n : Int) = 2 := by omega
    simpa using this
  have cQ0 := cell_of HQ.out 0
  have cQ1 := cell_of HQ.out 1
  simp only [List.getElem?_toArray, List.getElem?_cons_zero, List.getElem?_cons_succ] at cQ0 cQ1
  have fQ := free_of HQ.out
  have hz : w.heap.size < u1.heap.size := (Array.getElem?_eq_some_iff.1 HQ.out).1
  go_wp2
  refine bodyPost_ret (v := .tuple #[.agg #[.int .i64 0, .int .i64 0], .bool false]) (by simp [results, Tryd.results20, go_sem, *]) rfl ⟨rfl, ?_⟩
  exact (by repeat (first | (with_reducible exact B0) | (with_reducible refine Below.st ?_ _ _ _ (by omega)) | (with_reducible refine Below.al ?_ _) | (with_reducible refine Below.dn ?_ _) | (with_reducible refine Below.drew ?_)))
set_option maxHeartbeats 400000 in
theorem spec_ParseSubscriberID_two (s a b : ByteArray) (w : World) (hs : s.size ≤ 1048576) (h : (spl s (s.size + 1)).1 = [.string a, .string b]) (ha : a.size ≤ maxLen) (hb : b.size ≤ maxLen) (P R : Int) (Q T V : Bool) (hP : P = pNum a.data.toList) (hQ : Q = pOkI a.data.toList) (hR : R = pNum b.data.toList) (hT : T = pOkI b.data.toList) (hV : M.vSid P R = V) (X Y : Int) (Z : Bool) (hX : X = if Z = true then P else 0) (hY : Y = if Z = true then R else 0) (hZ : Z = (Q && (T && V))) :
    Calls Tryd.prog 20 #[.string s] w fun e w' => e = .returned (.tuple #[.agg #[.int .i64 X, .int .i64 Y], .bool Z]) ∧ Below w.heap.size w w' := by
  have HP := Lib.hid hP
  have HR := Lib.hid hR
  have HQ1 := Lib.hid hQ
  have HT := Lib.hid hT
  have HS := Lib.hid h
  clear hP hR hQ hT h
  cases Q <;> cases T <;> cases V
  all_goals
    simp only [Bool.and_true, Bool.and_false] at hZ
    subst hZ
    simp only [Bool.false_eq_true, if_false, if_true] at hX hY
    rw [hX, hY]
    clear hX hY
    go_enter Tryd.func20, Tryd.ntmps20
    have B0 := Below.al (Below.refl w.heap.size w) (.cells #[.int .i64 0, .int .i64 0] 33)
    have HQ := Lib.hid (newBlk (w) #[.int .i64 0, .int .i64 0] 33 (w.heap.size) (by simp))
    go_wp2_with fail
    refine (spec_l4Split s _ hs).mono ?_
    rw [HS.out]
    rintro e u1 ⟨v, rfl, ho, b1⟩
    replace HQ := Lib.hid (cells_of_below b1 HQ.out)
    replace B0 := Below.next B0 b1
    rcases ho.2 with ⟨_, e0⟩ | ⟨g, cap, cur, rfl, -, -, hc1, hc2, -, -⟩
    · exact absurd e0 (by simp)
    have c0 := ho.cellAt 0 (by simp)
    have c1 := ho.cellAt 1 (by simp)
    simp only [List.length_cons, List.length_nil, Nat.zero_add, Nat.reduceAdd, List.getElem?_cons_zero, List.getElem?_cons_succ] at hc1 c0 c1 ⊢
    clear ho b1
    go_wp2_with fail
    refine (spec_ParseInt a _ ha P _ HP.out HQ1.out).mono ?_
    rintro e u2 ⟨rfl, b2⟩
    replace HQ := Lib.hid (cells_of_below b2 HQ.out)
    replace B0 := Below.next B0 b2
    replace c1 := (b2.cell (World.block_lt_of_cell? u1 _ c1)).trans c1
    clear b2 c0
    go_wp2_with fail
    refine (spec_ParseInt b _ hb R _ HR.out HT.out).mono ?_
    rintro e u3 ⟨rfl, b3⟩
    replace HQ := Lib.hid (cells_of_below b3 HQ.out)
    replace B0 := Below.next B0 b3
    clear b3 c1
    have cQ0 := cell_of HQ.out 0
    have cQ1 := cell_of HQ.out 1
    simp only [List.getElem?_toArray, List.getElem?_cons_zero, List.getElem?_cons_succ] at cQ0 cQ1
    have fQ := free_of HQ.out
    have hz : w.heap.size < u3.heap.size := (Array.getElem?_eq_some_iff.1 HQ.out).1
    go_wp2_with (go_at_call 21; refine (spec_IsValidSubscriberID _ _ _).mono ?_; rintro e w1 ⟨rfl, rfl⟩)
    first
      | refine bodyPost_ret (v := .tuple #[.agg #[.int .i64 0, .int .i64 0], .bool false]) (by simp [results, Tryd.results20, go_sem, *]) rfl ⟨rfl, ?_⟩
      | refine bodyPost_ret (v := .tuple #[.agg #[.int .i64 P, .int .i64 R], .bool true]) (by simp [results, Tryd.results20, go_sem, *]) rfl ⟨rfl, ?_⟩
    exact (by repeat (first | (with_reducible exact B0) | (with_reducible refine Below.st ?_ _ _ _ (by omega)) | (with_reducible refine Below.al ?_ _) | (with_reducible refine Below.dn ?_ _) | (with_reducible refine Below.drew ?_)))
theorem pOkI_dash {l : List UInt8} (h : (45 : UInt8) ∈ l) : pOkI l = false := by
  unfold pOkI
  have : l.all isDig = false := by
    rw [List.all_eq_false]
    exact ⟨45, h, by decide⟩
  simp [this]
/-- The reference's side, all cases. -/
theorem spec_ParseSubscriberID (s : ByteArray) (w : World) (hs : s.size ≤ 1048576) (X Y : Int) (Q : Bool) (hX : X = sidX s.data.toList) (hY : Y = sidY s.data.toList) (hQ : Q = sidOk s.data.toList) :
    Calls Tryd.prog 20 #[.string s] w fun e w' => e = .returned (.tuple #[.agg #[.int .i64 X, .int .i64 Y], .bool Q]) ∧ Below w.heap.size w w' := by
  have hsz : s.data.toList.length = s.size := Array.length_toList
  rcases indexByte_cases s.data.toList 45 with ⟨h1, h2⟩ | ⟨i, h1, h2, h3, h4⟩
  · have ho : sidOk s.data.toList = false := by unfold sidOk; rw [h1]; rfl
    have hxy := sid_no ho
    rw [hX, hY, hQ, hxy.1, hxy.2, ho]
    have hl := spl_none s h2
    exact spec_ParseSubscriberID_not2 s w hs (by omega) (by omega)
  · have hi : i < s.size := by omega
    have hne : decide (Lib.indexByte s.data.toList 45 = -1) = false := decide_eq_false (by omega)
    have hn2 : ¬ Lib.indexByte s.data.toList 45 = -1 := by omega
    have hn : (Lib.indexByte s.data.toList 45).toNat = i := by omega
    have hA : sidA s.data.toList = pNum (s.data.toList.take i) := by unfold sidA; rw [if_neg hn2, hn]
    have hB : sidB s.data.toList = pNum (s.data.toList.drop (i + 1)) := by unfold sidB; rw [if_neg hn2, hn]
    have hO : sidOk s.data.toList = (pOkI (s.data.toList.take i) && (pOkI (s.data.toList.drop (i + 1)) && M.vSid (sidA s.data.toList) (sidB s.data.toList))) := by
      unfold sidOk; rw [hne, hn]; rfl
    rcases spl_dash s i hi h3 h4 with ⟨-, h5⟩ | ⟨h5, h6⟩
    · exact spec_ParseSubscriberID_two s _ _ w hs h5 (sz_ext _ _ _ hs) (sz_ext _ _ _ hs) (sidA s.data.toList) (sidB s.data.toList) _ _ _ (by rw [take_data, hA]) rfl (by rw [drop_data, hB]) rfl rfl X Y Q (by rw [hX, hQ]; rfl) (by rw [hY, hQ]; rfl) (by rw [hQ, hO, take_data, drop_data])
    · have ho : sidOk s.data.toList = false := by rw [hO, pOkI_dash h5]; simp
      have hxy := sid_no ho
      rw [hX, hY, hQ, hxy.1, hxy.2, ho]
      exact spec_ParseSubscriberID_not2 s w hs (by omega) (by omega)

end Go.Proofs.YtflpdapalfgodaaDoor
