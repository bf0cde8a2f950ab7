/-
  Contract: the reference's cutting of a string at every dash.
-/
import Derived.Test.YtflpdapalfgodaaDoorPsi
namespace Go.Proofs.YtflpdapalfgodaaDoor
open Go.RowKit Go.Lib

/-- What stands in the row, and where the next piece begins, behind k rounds. -/
def spl (s : ByteArray) : Nat → List Value × Nat
  | 0 => ([], 0)
  | k + 1 => if k = s.size ∨ s.data.toList.getD k 0 = 45 then ((spl s k).1 ++ [.string (s.extract (spl s k).2 k)], k + 1) else spl s k
theorem spl_le (s : ByteArray) (k : Nat) : (spl s k).2 ≤ k ∧ (spl s k).1.length ≤ k := by
  induction k with
  | zero => exact ⟨Nat.le_refl _, Nat.le_refl _⟩
  | succ k ih =>
    unfold spl
    split
    · exact ⟨Nat.le_refl _, by simp; omega⟩
    · omega
theorem spl_yes {s : ByteArray} {k : Nat} (h : k = s.size ∨ s.data.toList.getD k 0 = 45) : spl s (k + 1) = ((spl s k).1 ++ [.string (s.extract (spl s k).2 k)], k + 1) := by
  rw [spl, if_pos h]
theorem spl_no {s : ByteArray} {k : Nat} (h : ¬ (k = s.size ∨ s.data.toList.getD k 0 = 45)) : spl s (k + 1) = spl s k := by
  rw [spl, if_neg h]
theorem spl_keep {s : ByteArray} {a : Nat} (k : Nat) (h : ∀ j, a ≤ j → j < k → ¬ (j = s.size ∨ s.data.toList.getD j 0 = 45)) (hk : a ≤ k) : spl s k = spl s a := by
  induction k with
  | zero => obtain rfl : a = 0 := by omega
            rfl
  | succ k ih =>
    by_cases e : a = k + 1
    · rw [e]
    · rw [spl_no (h k (by omega) (by omega))]
      exact ih (fun j h1 h2 => h j h1 (by omega)) (by omega)
theorem spl_mono {s : ByteArray} {a : Nat} (k : Nat) (hk : a ≤ k) : (spl s a).1.length ≤ (spl s k).1.length := by
  induction k with
  | zero => obtain rfl : a = 0 := by omega
            exact Nat.le_refl _
  | succ k ih =>
    by_cases e : a = k + 1
    · rw [e]; exact Nat.le_refl _
    · refine Nat.le_trans (ih (by omega)) ?_
      by_cases h : k = s.size ∨ s.data.toList.getD k 0 = 45
      · rw [spl_yes h]; simp
      · rw [spl_no h]; exact Nat.le_refl _
theorem getD_elemB (l : List UInt8) (j : Nat) (h : j < l.length) : l.getD j 0 = l[j] := by simp [List.getD, h]
theorem not_dash {l : List UInt8} {i : Nat} (h : (45 : UInt8) ∉ l.take i) (j : Nat) (hj : j < i) (hl : j < l.length) : ¬ l.getD j 0 = 45 := by
  intro e
  apply h
  rw [← e]
  have : l.getD j 0 = l[j] := by simp [List.getD, hl]
  rw [this]
  exact List.mem_take_iff_getElem.2 ⟨j, by omega, rfl⟩
/-- No dash: one piece. -/
theorem spl_none (s : ByteArray) (h : (45 : UInt8) ∉ s.data.toList) : (spl s (s.size + 1)).1.length = 1 := by
  have hsz : s.data.toList.length = s.size := Array.length_toList
  have h0 : spl s s.size = spl s 0 := spl_keep _ (fun j _ h2 => by
    rintro (e | e)
    · omega
    · exact not_dash (i := s.size) (by rw [← hsz, List.take_length]; exact h) j h2 (by omega) e) (Nat.zero_le _)
  rw [spl_yes (.inl rfl), h0]; rfl
/-- A first dash: its two sides, or more than two pieces. -/
theorem spl_dash (s : ByteArray) (i : Nat) (hi : i < s.size) (hd : s.data.toList.getD i 0 = 45) (h : (45 : UInt8) ∉ s.data.toList.take i) :
    (45 ∉ s.data.toList.drop (i + 1) ∧ (spl s (s.size + 1)).1 = [.string (s.extract 0 i), .string (s.extract (i + 1) s.size)]) ∨ (45 ∈ s.data.toList.drop (i + 1) ∧ 3 ≤ (spl s (s.size + 1)).1.length) := by
  have hsz : s.data.toList.length = s.size := Array.length_toList
  have h0 : spl s i = spl s 0 := spl_keep _ (fun j _ h2 => by
    rintro (e | e)
    · omega
    · exact not_dash h j h2 (by omega) e) (Nat.zero_le _)
  have h1 : spl s (i + 1) = ([.string (s.extract 0 i)], i + 1) := by rw [spl_yes (.inr hd), h0]; rfl
  by_cases hm : (45 : UInt8) ∈ s.data.toList.drop (i + 1)
  · refine .inr ⟨hm, ?_⟩
    obtain ⟨j, hj, e⟩ := List.mem_iff_getElem.1 hm
    rw [List.length_drop] at hj
    have hjd : s.data.toList.getD (i + 1 + j) 0 = 45 := by
      rw [List.getElem_drop] at e
      rw [← e]
      exact getD_elemB _ _ _
    have h2 := spl_mono (s := s) (a := i + 1) (i + 1 + j) (by omega)
    rw [h1] at h2
    have h3 := spl_yes (s := s) (k := i + 1 + j) (.inr hjd)
    have h4 := spl_mono (s := s) (a := i + 1 + j + 1) s.size (by omega)
    rw [h3] at h4
    rw [spl_yes (.inl rfl)]
    simp at h2 h4 ⊢
    omega
  · refine .inl ⟨hm, ?_⟩
    have h2 : spl s s.size = spl s (i + 1) := spl_keep _ (fun j h1 h2 => by
      rintro (e | e)
      · omega
      · apply hm
        rw [← e]
        have : s.data.toList.getD j 0 = s.data.toList[j]'(by omega) := getD_elemB _ _ _
        rw [this]
        exact List.mem_drop_iff_getElem.2 ⟨j - (i + 1), by omega, by congr 1; omega⟩) (by omega)
    rw [spl_yes (.inl rfl), h2, h1]
    rfl

theorem infoStrB : (Tryd.prog.info? 9).map (fun i => (i.zero, i.size, i.bytes)) = some (some (.string ⟨#[]⟩), 1, 16) := by kernel_rfl
theorem info_partsS {P : Program} {e : TypeId} {a : Nat} (h : (P.info? e).map (fun i => (i.zero, i.size, i.bytes)) = some (some (.string ⟨#[]⟩), 1, a)) : ∃ i, P.info? e = some i ∧ i.zero = some (.string ⟨#[]⟩) ∧ i.size = 1 ∧ i.bytes = a := by
  cases h2 : P.info? e with
  | none => rw [h2] at h; simp at h
  | some i =>
    rw [h2] at h
    simp at h
    exact ⟨i, rfl, h.1, h.2.1, h.2.2⟩

set_option maxHeartbeats 400000 in
theorem spec_l4Split (s : ByteArray) (w : World) (hs : s.size ≤ 1048576) :
    Calls Tryd.prog 38 #[.string s, .int .u8 45] w fun e w' => ∃ v, e = .returned v ∧ w'.ownsRow w.heap.size 9 1 v (spl s (s.size + 1)).1.length (spl s (s.size + 1)).1 ∧ Below w.heap.size w w' := by
  have ho0 : (w.alloc (.cells #[] 9)).ownsRow w.heap.size 9 1 (.slice (some ⟨w.heap.size, 0, none⟩) 0 0) 0 [] := World.ownsRow_lit w #[] 0 (Nat.le_refl _) (by simp [maxLen]) rfl
  obtain ⟨i0, hi, hz0, hz1, hz2⟩ := info_partsS infoStrB
  go_enter Tryd.func38, Tryd.ntmps38
  go_wp2
  go_loopw [5, 6, 7] (fun v f i wr => ∃ k : Nat, k ≤ s.size + 1 ∧ i = .int .i64 k ∧ f = .int .i64 ((spl s k).2 : Nat) ∧ wr.ownsRow w.heap.size 9 1 v (spl s k).1.length (spl s k).1 ∧ Below w.heap.size w wr) (fun _ _ i _ => s.size + 1 - (intOf i).toNat)
  case atStart => exact ⟨0, Nat.zero_le _, rfl, rfl, ho0, Below.al (Below.refl _ _) _⟩
  case round =>
    clear ho0
    obtain ⟨k, hk, rfl, rfl, hown, hbel⟩ := hrel
    by_cases hlt : k < s.size + 1
    · by_cases hd : k = s.size ∨ s.data.toList.getD k 0 = 45
      · have HY := Lib.hid (spl_yes hd)
        obtain ⟨f1, f2⟩ := spl_le s k
        generalize spl s k = p at *
        obtain ⟨xs, f⟩ := p
        change f ≤ k at f1
        change xs.length ≤ k at f2
        dsimp only at hown HY
        by_cases hz : k = s.size
        · subst hz
          have ho1 := hown.alloc (.cells #[.string (s.extract f s.size)] 9)
          have hnew : ∀ j u, [Value.string (s.extract f s.size)][j]? = some u → (wr.alloc (.cells #[.string (s.extract f s.size)] 9)).cell? ((⟨wr.heap.size, 0, none⟩ : Addr).add j) = some u := by
            intro j u hu
            cases j with
            | zero => simp at hu; subst hu; exact cell_of_row (wr.alloc (.cells #[.string (s.extract f s.size)] 9)) wr.heap.size 0 #[.string (s.extract f s.size)] 9 (0, 0) (heap_alloc_new wr _)
            | succ j => simp at hu
          go_wp2_with (at_builtin; refine wpList_append_own _ rfl (.tmp 26) (.tmp 31) 53 rfl w.heap.size 9 i0 (.string ⟨#[]⟩) 1 16 Tryd.underlying53 hi hz0 hz1 hz2 rfl (by decide) _ _ xs rfl ho1 ⟨wr.heap.size, 0, none⟩ 1 1 [.string (s.extract f s.size)] rfl rfl hnew (by simp [Value.oneCell']) (by simp [maxLen]; omega) (by omega) (by have := hbel.size; simp; omega) ?_; intro v2 w2 hown2 hg2 _)
          have hb2 : Below w.heap.size w w2 := (Below.al hbel _).grown hg2 (Below.al hbel _).size (fun k hk => (ho1.lt k hk).1)
          clear hown ho1 hnew hbel hg2
          go_wp2
          go_roundw
          case rel => exact ⟨s.size + 1, by omega, by go_num, by rw [HY.out]; simp, by rw [HY.out]; simpa using hown2, hb2⟩
          case measure => simp [intOf] <;> omega
        · have hk2 : k < s.size := by omega
          have g1 := str_getD s k hk2
          have hc : s[k].toNat = 45 := by rw [← g1, hd.resolve_left hz]; rfl
          have hcb : ((s[k].toNat : Int) == 45) = true := by rw [hc]; rfl
          have hkb : ((k : Int) == (s.size : Int)) = false := beq_eq_false_iff_ne.2 (by omega)
          clear hd g1 hc
          have ho1 := hown.alloc (.cells #[.string (s.extract f k)] 9)
          have hnew : ∀ j u, [Value.string (s.extract f k)][j]? = some u → (wr.alloc (.cells #[.string (s.extract f k)] 9)).cell? ((⟨wr.heap.size, 0, none⟩ : Addr).add j) = some u := by
            intro j u hu
            cases j with
            | zero => simp at hu; subst hu; exact cell_of_row (wr.alloc (.cells #[.string (s.extract f k)] 9)) wr.heap.size 0 #[.string (s.extract f k)] 9 (0, 0) (heap_alloc_new wr _)
            | succ j => simp at hu
          go_wp2_with (at_builtin; refine wpList_append_own _ rfl (.tmp 26) (.tmp 31) 53 rfl w.heap.size 9 i0 (.string ⟨#[]⟩) 1 16 Tryd.underlying53 hi hz0 hz1 hz2 rfl (by decide) _ _ xs rfl ho1 ⟨wr.heap.size, 0, none⟩ 1 1 [.string (s.extract f k)] rfl rfl hnew (by simp [Value.oneCell']) (by simp [maxLen]; omega) (by omega) (by have := hbel.size; simp; omega) ?_; intro v2 w2 hown2 hg2 _)
          have hb2 : Below w.heap.size w w2 := (Below.al hbel _).grown hg2 (Below.al hbel _).size (fun k hk => (ho1.lt k hk).1)
          clear hown ho1 hnew hbel hg2
          go_wp2
          go_roundw
          case rel => exact ⟨k + 1, by omega, by go_num, by rw [HY.out]; simp, by rw [HY.out]; simpa using hown2, hb2⟩
          case measure => simp [intOf] <;> omega
      · have HY := Lib.hid (spl_no hd)
        have hz : ¬ k = s.size := fun e => hd (.inl e)
        have hk2 : k < s.size := by omega
        have g1 := str_getD s k hk2
        have hc : ¬ s[k].toNat = 45 := fun e => hd (.inr (by rw [g1]; exact UInt8.toNat_inj.1 (by rw [e]; rfl)))
        have hcb : ((s[k].toNat : Int) == 45) = false := beq_eq_false_iff_ne.2 (by omega)
        have hkb : ((k : Int) == (s.size : Int)) = false := beq_eq_false_iff_ne.2 (by omega)
        clear hd g1 hc
        obtain ⟨q, hq⟩ : ∃ q, q = (spl s k).2 := ⟨_, rfl⟩
        rw [← hq]
        have HQ := Lib.hid hq
        clear hq
        have HO := Lib.hid hown
        clear hown
        go_wp2
        go_roundw
        case rel => exact ⟨k + 1, by omega, by go_num, by rw [HY.out, HQ.out], by rw [HY.out]; exact HO.out, hbel⟩
        case measure => simp [intOf] <;> omega
    · obtain rfl : k = s.size + 1 := by omega
      obtain ⟨q, hq⟩ : ∃ q, q = (spl s (s.size + 1)).2 := ⟨_, rfl⟩
      rw [← hq]
      clear hq
      go_wp2
      go_ret
      exact ⟨_, rfl, hown, hbel⟩

end Go.Proofs.YtflpdapalfgodaaDoor
