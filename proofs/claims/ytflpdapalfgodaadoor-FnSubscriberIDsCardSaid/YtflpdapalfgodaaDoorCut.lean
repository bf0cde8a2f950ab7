/-
  Contracts: a string cut at its first dash.
-/
import Derived.Test.YtflpdapalfgodaaDoorPars
import Derived.Lib.Bytealg
import Derived.Lib.Strings
import Derived.Deep.QuietTactic
import Derived.BigQuiet
namespace Go.Proofs.YtflpdapalfgodaaDoor
open Go.RowKit Go.Lib

theorem sl_IndexByte (s : ByteArray) (w : World) :
    Calls Tryd.prog 55 #[.string s, .int .u8 45] w fun e w' => e = .returned (.int .i64 (Lib.indexByte s.data.toList 45)) ∧ w = w' := by
  have hc : ((45 : Int).toNat.toUInt8) = (45 : UInt8) := by decide
  have HC := Lib.hid hc
  clear hc
  go_enter Tryd.func55, Tryd.ntmps55
  go_wp2
  rw [run_callFunc_extern Tryd.func64 (by kernel_rfl) (by kernel_rfl) (by kernel_rfl) (e := Extern.BytealgIndexByte.indexByte) (by kernel_rfl), Lib.run_indexByteString, HC.out]
  simp only [Result.andThen]
  rw [Oper.upon_value]
  go_wp2
  go_ret
  exact ⟨rfl, rfl⟩
theorem sl_Index (s : ByteArray) (w : World) :
    Calls Tryd.prog 50 #[.string s, .string ⟨#[45]⟩] w fun e w' => e = .returned (.int .i64 (Lib.indexByte s.data.toList 45)) ∧ w = w' := by
  go_enter Tryd.func50, Tryd.ntmps50
  go_wp2_with (go_at_call 55; refine (sl_IndexByte _ _).mono ?_; rintro e w' ⟨rfl, rfl⟩)
  · have h : ([45] == s.toList) = true := by assumption
    go_ret
    refine ⟨?_, rfl⟩
    have e : s.data.toList = [45] := by rw [← Lib.toList_data]; exact (beq_iff_eq.1 h).symm
    rw [e]
    simp [Lib.indexByte]
  · go_ret
    exact ⟨rfl, rfl⟩

/-- Where the first dash stands, and what stands on both sides. -/
theorem indexByte_cases (l : List UInt8) (c : UInt8) : (Lib.indexByte l c = -1 ∧ c ∉ l) ∨ ∃ i : Nat, Lib.indexByte l c = (i : Int) ∧ i < l.length ∧ l.getD i 0 = c ∧ c ∉ l.take i := by
  induction l with
  | nil => exact .inl ⟨rfl, by simp⟩
  | cons b l ih =>
    unfold Lib.indexByte
    by_cases hb : (b == c) = true
    · rw [if_pos hb]
      exact .inr ⟨0, rfl, by simp, by simpa using hb, by simp⟩
    · rw [if_neg hb]
      have hne : ¬ c = b := fun e => hb (by rw [e]; simp)
      rcases ih with ⟨h1, h2⟩ | ⟨i, h1, h2, h3, h4⟩
      · rw [h1, if_pos (by rfl)]
        exact .inl ⟨rfl, by simp [hne, h2]⟩
      · have hm : ¬ ((Lib.indexByte l c == -1) = true) := by rw [h1]; simp
        rw [if_neg hm, h1]
        exact .inr ⟨i + 1, by omega, by simp; omega, by simpa using h3, by simp [hne, h4]⟩

set_option maxRecDepth 100000 in
set_option maxHeartbeats 2000000 in
theorem sl_Cut_no (s : ByteArray) (w : World) (h : Lib.indexByte s.data.toList 45 = -1) :
    Calls Tryd.prog 46 #[.string s, .string ⟨#[45]⟩] w fun e w' => e = .returned (.tuple #[.string s, .string ⟨#[]⟩, .bool false]) ∧ ∃ m, w' = w.drewN m := by
  have H := Lib.hid h
  clear h
  go_enter Tryd.func46, Tryd.ntmps46
  go_wp2_with (go_at_call 50; refine (sl_Index _ _).mono ?_; rw [H.out]; rintro e w' ⟨rfl, rfl⟩)
  go_ret3
  exact ⟨rfl, 0, rfl⟩
set_option maxRecDepth 100000 in
set_option maxHeartbeats 2000000 in
theorem sl_Cut_yes (s : ByteArray) (i : Nat) (w : World) (hs : s.size ≤ 1048576) (h : Lib.indexByte s.data.toList 45 = (i : Int)) (hi : i < s.size) :
    Calls Tryd.prog 46 #[.string s, .string ⟨#[45]⟩] w fun e w' => e = .returned (.tuple #[.string (s.extract 0 i), .string (s.extract (i + 1) s.size), .bool true]) ∧ ∃ m, w' = w.drewN m := by
  have H := Lib.hid h
  clear h
  have i1 : (0 : Int) ≤ (i : Int) := by omega
  have i2 : (i : Int) ≤ (s.size : Int) := by omega
  have i3 : (0 : Int) ≤ (i : Int) + 1 := by omega
  have i4 : (i : Int) + 1 ≤ (s.size : Int) := by omega
  go_enter Tryd.func46, Tryd.ntmps46
  go_wp2_with (go_at_call 50; refine (sl_Index _ _).mono ?_; rw [H.out]; rintro e w' ⟨rfl, rfl⟩)
  go_quiet (fail)
  go_wp2
  go_ret3
  exact ⟨rfl, _, rfl⟩
theorem strings_Cut_no (s : ByteArray) (w : World) (h : Lib.indexByte s.data.toList 45 = -1) :
    Calls Tryd.prog 37 #[.string s, .string ⟨#[45]⟩] w fun e w' => e = .returned (.tuple #[.string s, .string ⟨#[]⟩, .bool false]) ∧ ∃ m, w' = w.drewN m := by
  go_enter Tryd.func37, Tryd.ntmps37
  go_wp2_with fail
  refine (sl_Cut_no _ _ h).mono ?_
  rintro e w' ⟨rfl, m, rfl⟩
  clear h
  go_wp2_with fail
  go_ret3
  exact ⟨rfl, m, rfl⟩
theorem strings_Cut_yes (s : ByteArray) (i : Nat) (w : World) (hs : s.size ≤ 1048576) (h : Lib.indexByte s.data.toList 45 = (i : Int)) (hi : i < s.size) :
    Calls Tryd.prog 37 #[.string s, .string ⟨#[45]⟩] w fun e w' => e = .returned (.tuple #[.string (s.extract 0 i), .string (s.extract (i + 1) s.size), .bool true]) ∧ ∃ m, w' = w.drewN m := by
  go_enter Tryd.func37, Tryd.ntmps37
  go_wp2_with fail
  refine (sl_Cut_yes _ i _ hs h hi).mono ?_
  rintro e w' ⟨rfl, m, rfl⟩
  clear h
  go_wp2_with fail
  go_ret3
  exact ⟨rfl, m, rfl⟩

/-- What a string denotes as an identity: the two numbers about its first dash. -/
def sidA (l : List UInt8) : Int := if Lib.indexByte l 45 = -1 then 0 else pNum (l.take (Lib.indexByte l 45).toNat)
def sidB (l : List UInt8) : Int := if Lib.indexByte l 45 = -1 then 0 else pNum (l.drop ((Lib.indexByte l 45).toNat + 1))
def sidOk (l : List UInt8) : Bool := !decide (Lib.indexByte l 45 = -1) && (pOkI (l.take (Lib.indexByte l 45).toNat) && (pOkI (l.drop ((Lib.indexByte l 45).toNat + 1)) && M.vSid (sidA l) (sidB l)))
def sidX (l : List UInt8) : Int := if sidOk l = true then sidA l else 0
def sidY (l : List UInt8) : Int := if sidOk l = true then sidB l else 0
theorem sid_no {l : List UInt8} (h : sidOk l = false) : sidX l = 0 ∧ sidY l = 0 := by unfold sidX sidY; rw [h]; exact ⟨rfl, rfl⟩

end Go.Proofs.YtflpdapalfgodaaDoor
