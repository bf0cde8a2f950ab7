/-
  Words and contracts: slices of pairs of numbers; slices of temporary identities copied, counted, compared, searched.
-/
import Derived.Test.YtgoelmhaobloaaaEqT
import Derived.Test.YtgoelmhaobloaaaIds
import Derived.Deep.QuietTactic
import Derived.BigQuiet
import Derived.Deep.RegionHeld3
import Derived.Laws.StructEq
namespace Go.Proofs.Ytgoelmhaobloaaa
open Go.RowKit Go.ChangeShapes Go.WideShapes Go.ChangeAt Go.Deep

/-- The slice value v reads as n pairs, whose numbers stand one behind the other in zs. -/
def RdP (w : World) (v : Value) (n : Nat) (zs : List Int) : Prop :=
  zs.length = n * 2 ∧ ∃ A c, v = .slice A n c ∧ n ≤ c ∧ c ≤ maxLen ∧
    (0 < n → ∃ b off, A = some ⟨b, off, none⟩ ∧ b < w.heap.size ∧ ∀ j, j < n * 2 → w.cell? ⟨b, off + j, none⟩ = some (.int .i64 (zs.getD j 0)))
theorem RdP.keep {w w' : World} {v : Value} {n : Nat} {zs : List Int} (h : RdP w v n zs) (hs : w.heap.size ≤ w'.heap.size) (hc : ∀ p : Addr, p.block < w.heap.size → w'.cell? p = w.cell? p) : RdP w' v n zs := by
  obtain ⟨h0, A, c, hv, h1, h2, h3⟩ := h
  refine ⟨h0, A, c, hv, h1, h2, fun hn => ?_⟩
  obtain ⟨b, off, hA, hb, hcell⟩ := h3 hn
  exact ⟨b, off, hA, by omega, fun j hj => (hc _ hb).trans (hcell j hj)⟩
theorem RdP.below {w w' : World} {v : Value} {n : Nat} {zs : List Int} (h : RdP w v n zs) (hb : Below w.heap.size w w') : RdP w' v n zs := h.keep hb.size fun _ hp => hb.cell hp
/-- A row of the call's own, of pairs. -/
def OwnP (T : TypeId) (w : World) (base : Nat) (v : Value) (n : Nat) (zs : List Int) : Prop := w.ownsRow base T 2 v n (zs.map (Value.int .i64))
theorem OwnP.len {T : TypeId} {w : World} {base n : Nat} {v : Value} {zs : List Int} (h : OwnP T w base v n zs) : zs.length = n * 2 := by simpa using h.1
theorem OwnP.rd {T : TypeId} {w : World} {base n : Nat} {v : Value} {zs : List Int} (h : OwnP T w base v n zs) : RdP w v n zs := by
  have hl := h.len
  obtain ⟨_, h2⟩ := h
  rcases h2 with ⟨rfl, h0⟩ | ⟨g, cap, cur, rfl, hb, hg, hn, hm, hs, ht⟩
  · exact ⟨hl, none, 0, by rw [h0], by omega, by simp [maxLen], fun h => absurd h (by omega)⟩
  · refine ⟨hl, _, cap, rfl, hn, hm, fun _ => ⟨g, 0, rfl, (Array.getElem?_eq_some_iff.1 hg).1, fun j hj => ?_⟩⟩
    rw [Nat.zero_add, cell_of_row w g j cur T (0, 0) hg]
    have := getD_map_int .i64 zs j (by omega)
    rw [← ht, List.getElem?_take, if_pos hj] at this
    simpa using this
theorem OwnP.below {T : TypeId} {w w' : World} {base n : Nat} {v : Value} {zs : List Int} (h : OwnP T w base v n zs) (hb : Below w.heap.size w w') : OwnP T w' base v n zs :=
  World.ownsRow.kept h (row := none) ⟨hb.os, hb.tape, hb.output, hb.size, fun k hk _ => hb.block k hk⟩ (by cases v.ownBlock <;> simp)
theorem OwnP.le {T : TypeId} {w : World} {base base' n : Nat} {v : Value} {zs : List Int} (h : OwnP T w base v n zs) (hb : base' ≤ base) : OwnP T w base' v n zs := by
  obtain ⟨h1, h2⟩ := h
  refine ⟨h1, ?_⟩
  rcases h2 with h2 | ⟨g, cap, cur, hv, hg, r⟩
  · exact .inl h2
  · exact .inr ⟨g, cap, cur, hv, by omega, r⟩
theorem OwnP.stored {T : TypeId} {w : World} {base g cap n : Nat} {zs : List Int} (h : OwnP T w base (.slice (some ⟨g, 0, none⟩) n cap) n zs) (j : Nat) (x : Int) :
    OwnP T (w.setCell ⟨g, j, none⟩ (.int .i64 x)) base (.slice (some ⟨g, 0, none⟩) n cap) n (zs.set j x) := by
  have h1 := (World.ownsRow.stored h j (.int .i64 x)).1
  unfold OwnP
  rwa [map_set_int] at h1
theorem OwnP.cellAt {T : TypeId} {w : World} {base g cap n : Nat} {zs : List Int} (h : OwnP T w base (.slice (some ⟨g, 0, none⟩) n cap) n zs) (j : Nat) (hj : j < n * 2) : w.cell? ⟨g, j, none⟩ = some (.int .i64 (zs.getD j 0)) := by
  rw [World.ownsRow.cellAt h j hj]
  exact getD_map_int .i64 zs j (by have := h.len; omega)
theorem OwnP.frozenAt {T : TypeId} {w : World} {base g cap n : Nat} {zs : List Int} (h : OwnP T w base (.slice (some ⟨g, 0, none⟩) n cap) n zs) (j : Nat) : w.frozen? ⟨g, j, none⟩ = false := World.ownsRow.frozenAt h j

/-- A slice of pairs that came in. -/
theorem rdp_of_trod {H : Type} {enc : TypeId × Value → H} {P : Program} {w : World} {base : Nat} {spare : Nat → Bool} {held : Bool} {t e : TypeId} {f0 f1 : Field} {a : Option Addr} {len cap : Nat} {d : DataW H} {ps : List MemPlace}
    (ht : P.underlying t = some (.slice e)) (he : P.underlying e = some (.struct #[f0, f1])) (hone : oneCellFields P #[f0, f1] = true) (hC : P.cellsOf e = 2) (h0 : P.underlying f0.type = some (.int .i64)) (h1 : P.underlying f1.type = some (.int .i64)) (hsp : ∀ b, spare b = true)
    (h : DataW.Trod enc P w base spare held t (.slice a len cap) d ps) : ∃ zs : List Int, RdP w (.slice a len cap) len zs ∧ ∀ n ∈ zs, (Lit.int .i64 n).wf = true := by
  obtain ⟨fuel, hf⟩ := h
  rcases open_slice ht hf with ⟨hcs, _⟩ | ⟨x, l, c, m, n, D, Pl, hcs, _, hl, hm, hmm, _, hi⟩
  · simp [Value.cells] at hcs
    obtain ⟨rfl, rfl, rfl⟩ := hcs
    exact ⟨[], ⟨rfl, none, 0, rfl, Nat.le_refl _, by simp [maxLen], fun h => absurd h (by omega)⟩, by simp⟩
  · simp [Value.cells] at hcs
    obtain ⟨rfl, rfl, rfl⟩ := hcs
    simp only [hsp, if_true] at hmm
    have each : ∀ j, j < len * 2 → ∃ z, w.cell? (x.add j) = some (.int .i64 z) ∧ (Lit.int .i64 z).wf = true := by
      intro j hj
      obtain ⟨cs', hc', ht'⟩ := hi (j / 2) (by omega)
      rw [hC] at hc'
      obtain ⟨_, hcl, hat⟩ := World.cells?_some hc'
      obtain ⟨zs, hz, hzl, hw⟩ := open_nums he hone (by simpa using hC) (by intro f hfm; simp at hfm; rcases hfm with rfl | rfl <;> assumption) ht'
      have h2 := hat (j % 2) (by omega)
      rw [Go.Deep.add_add, show j / 2 * 2 + j % 2 = j by omega, hz] at h2
      obtain ⟨p, q, rfl⟩ := list2 (by simpa using hzl)
      rcases Nat.mod_two_eq_zero_or_one j with h3 | h3
      · rw [h3] at h2; exact ⟨p, by simpa using h2, hw p (by simp)⟩
      · rw [h3] at h2; exact ⟨q, by simpa using h2, hw q (by simp)⟩
    have hg : ∀ j, j < len * 2 → ((List.range (len * 2)).map fun j => intOf ((w.cell? (x.add j)).getD .nilIface)).getD j 0 = intOf ((w.cell? (x.add j)).getD .nilIface) := by
      intro j hj
      simp [List.getD, hj]
    refine ⟨(List.range (len * 2)).map fun j => intOf ((w.cell? (x.add j)).getD .nilIface), ⟨by simp, some x, cap, rfl, hl, hm, fun hn => ?_⟩, ?_⟩
    · obtain ⟨z0, hz0, _⟩ := each 0 (by omega)
      have hbl := World.block_lt_of_cell? w _ hz0
      obtain ⟨b, off, spot⟩ := x
      have hspot : spot = none := by simpa [Addr.add] using World.cell?_spot hz0
      subst hspot
      refine ⟨b, off, rfl, by simpa [Addr.add] using hbl, fun j hj => ?_⟩
      obtain ⟨z, hz, _⟩ := each j hj
      rw [hg j hj, hz]
      rw [Addr.add_lit] at hz
      rw [hz]
      rfl
    · intro z hz
      simp at hz
      obtain ⟨j, hj, rfl⟩ := hz
      obtain ⟨z, hz, hw⟩ := each j hj
      rw [hz]
      exact hw

/-- The pair (p, q) stands among the first n. -/
def hasP (zs : List Int) (p q : Int) (n : Nat) : Bool := (List.range n).any fun j => zs.getD (j * 2) 0 == p && zs.getD (j * 2 + 1) 0 == q
theorem hasP_zero (zs : List Int) (p q : Int) : hasP zs p q 0 = false := by simp [hasP]
theorem hasP_succ (zs : List Int) (p q : Int) (n : Nat) : hasP zs p q (n + 1) = (hasP zs p q n || (zs.getD (n * 2) 0 == p && zs.getD (n * 2 + 1) 0 == q)) := by
  simp [hasP, List.range_succ, List.any_append]
theorem hasP_at {zs : List Int} {p q : Int} {n k : Nat} (hk : k < n) (h1 : zs.getD (k * 2) 0 = p) (h2 : zs.getD (k * 2 + 1) 0 = q) : hasP zs p q n = true := by
  unfold hasP
  rw [List.any_eq_true]
  exact ⟨k, List.mem_range.2 hk, by rw [h1, h2]; simp⟩
theorem hasP_not {zs : List Int} {p q : Int} {n k : Nat} (h : hasP zs p q n = false) (hk : k < n) : ¬ (zs.getD (k * 2) 0 = p ∧ zs.getD (k * 2 + 1) 0 = q) := by
  intro ⟨h1, h2⟩
  rw [hasP_at hk h1 h2] at h
  cases h

theorem laws_szTempIDS (A : Option Addr) (n c : Nat) (w : World) (hn : n ≤ 9223372036854775807) :
    Calls Try.prog 44 #[.slice A n c, .int .i64 1048576] w fun e w' => e = .returned (.int .i64 (if n ≤ 1048576 then 1048576 - (n : Int) else -1)) ∧ w = w' := by
  by_cases h : n ≤ 1048576
  · rw [if_pos h]
    have h1 : (n : Int) ≤ 1048576 := by omega
    go_enter Try.func44, Try.ntmps44
    go_wp2
    go_ret
    exact ⟨rfl, rfl⟩
  · rw [if_neg h]
    have h1 : (1048576 : Int) < n := by omega
    go_enter Try.func44, Try.ntmps44
    go_wp2
    go_ret
    exact ⟨rfl, rfl⟩

theorem eqlTemp (a b c d : Int) (w : World) : (binOp .eql 32 (.agg #[.int .i64 a, .int .i64 b]) (.agg #[.int .i64 c, .int .i64 d])).run Try.prog w = .ok (.bool (a == c && b == d)) w := by
  have u3 := Try.underlying3
  have a3 := Try.isAgg3
  have z3 := Try.sizeOf3
  have hS : Try.prog.underlying 32 = some (.struct (Try.prog.fieldsOf 32)) := by kernel_rfl
  have hp : Try.prog.stoodInHeld 32 = false := by kernel_rfl
  rw [run_eql_struct, show (10000 : Nat) = 9999 + 1 from rfl, run_equalIn_agg w 9999 32 _ _ hS hp]
  simp only [Program.fieldsOf, Try.underlying32]
  go_simp
  by_cases h1 : a = c <;> by_cases h2 : b = d <;> simp [h1, h2]

def HasP (zs : List Int) (p q : Int) (n : Nat) (w : World) (e : Ending) (w' : World) : Prop := e = .returned (.bool (hasP zs p q n)) ∧ Below w.heap.size w w'
def IdxP (zs : List Int) (p q : Int) (n : Nat) (w : World) (e : Ending) (w' : World) : Prop := ∃ r : Int, e = .returned (.int .i64 r) ∧ decide (0 ≤ r) = hasP zs p q n ∧ Below w.heap.size w w'

set_option maxRecDepth 100000 in
set_option maxHeartbeats 2000000 in
theorem spec_l4Has (va : Value) (n : Nat) (zs : List Int) (p q : Int) (w : World) (ha : RdP w va n zs) :
    Calls Try.prog 65 #[va, .agg #[.int .i64 p, .int .i64 q]] w (HasP zs p q n w) := by
  obtain ⟨h0, A, c, rfl, h1, h2, h3⟩ := ha
  unfold maxLen at h2
  have H3 := Lib.hid h3
  have hbx : (w.alloc (.cells #[.int .i64 p, .int .i64 q] 32)).heap[w.heap.size]? = some (.cells #[.int .i64 p, .int .i64 q] 32 (0, 0)) := newBlk w _ _ _ rfl
  have HX := Lib.hid hbx
  clear h3 hbx h0
  go_enter Try.func65, Try.ntmps65
  go_wp2
  go_loopw [5] (fun i wr => ∃ k m : Nat, k ≤ n ∧ i = .int .i64 k ∧ wr = (w.alloc (.cells #[.int .i64 p, .int .i64 q] 32)).drewN m ∧ hasP zs p q k = false) (fun i _ => n - (intOf i).toNat)
  case atStart => exact ⟨0, 0, Nat.zero_le _, rfl, rfl, hasP_zero _ _ _⟩
  case round =>
    obtain ⟨k, m, hk, rfl, rfl, hno⟩ := hrel
    have HN := Lib.hid hno
    clear hno
    have cp := cell_of HX.out 0
    have cq := cell_of HX.out 1
    simp only [List.getElem?_toArray, List.getElem?_cons_zero, List.getElem?_cons_succ] at cp cq
    by_cases hlt : k < n
    · obtain ⟨b, off, rfl, hbw, hcell⟩ := H3.out (by omega)
      have c1 := (World.cell?_alloc_lt w (.cells #[.int .i64 p, .int .i64 q] 32) ⟨b, off + k * 2, none⟩ hbw).trans (hcell (k * 2) (by omega))
      have c2 := (World.cell?_alloc_lt w (.cells #[.int .i64 p, .int .i64 q] 32) ⟨b, off + (k * 2 + 1), none⟩ hbw).trans (hcell (k * 2 + 1) (by omega))
      rw [← Nat.add_assoc] at c2
      clear hcell H3 HX
      have i1 : (0 : Int) ≤ (k : Int) := by omega
      have i2 : (k : Int) < (n : Int) := by omega
      have hs := hasP_succ zs p q k
      rw [HN.out, Bool.false_or] at hs
      obtain ⟨x, hx⟩ : ∃ x, x = zs.getD (k * 2) 0 := ⟨_, rfl⟩
      obtain ⟨y, hy⟩ : ∃ y, y = zs.getD (k * 2 + 1) 0 := ⟨_, rfl⟩
      rw [← hx] at c1 hs
      rw [← hy] at c2 hs
      have hat : x = p → y = q → hasP zs p q n = true := fun e1 e2 => hasP_at hlt (hx.symm.trans e1) (hy.symm.trans e2)
      have HS := Lib.hid hs
      have HAT := Lib.hid hat
      have eqT := eqlTemp
      clear hx hy hs hat
      by_cases hxy : x = p ∧ y = q
      · obtain ⟨rfl, rfl⟩ := hxy
        have HR := Lib.hid (HAT.out rfl rfl)
        clear HAT HS
        go_wp2
        go_quiet (fail)
        go_wp2
        go_ret
        exact ⟨by rw [HR.out]; rfl, (by repeat (first | (with_reducible exact Below.refl _ _) | (with_reducible refine Below.al ?_ _) | (with_reducible refine Below.dn ?_ _)))⟩
      · have hb : (x == p && y == q) = false := by
          rw [Bool.and_eq_false_iff, beq_eq_false_iff_ne, beq_eq_false_iff_ne]
          by_cases e : x = p
          · exact .inr (fun e2 => hxy ⟨e, e2⟩)
          · exact .inl e
        rw [hb] at HS
        have hb2 : (p == x && q == y) = false := by rw [Bool.beq_comm (a := p), Bool.beq_comm (a := q)]; exact hb
        clear hxy HAT
        go_wp2
        go_quiet (fail)
        go_wp2
        go_roundw
        case rel => exact ⟨k + 1, _, by omega, by go_num, rfl, HS.out⟩
        case measure => simp [intOf]; omega
    · obtain rfl : k = n := by omega
      clear H3 HX
      go_wp2
      go_ret
      exact ⟨by rw [HN.out]; rfl, (by repeat (first | (with_reducible exact Below.refl _ _) | (with_reducible refine Below.al ?_ _) | (with_reducible refine Below.dn ?_ _)))⟩

set_option maxRecDepth 100000 in
set_option maxHeartbeats 2000000 in
theorem slices_Index_tid (va : Value) (n : Nat) (zs : List Int) (p q : Int) (w : World) (ha : RdP w va n zs) :
    Calls Try.prog 73 #[va, .agg #[.int .i64 p, .int .i64 q]] w (IdxP zs p q n w) := by
  obtain ⟨h0, A, c, rfl, h1, h2, h3⟩ := ha
  unfold maxLen at h2
  have H3 := Lib.hid h3
  have hbx : (w.alloc (.cells #[.int .i64 p, .int .i64 q] 32)).heap[w.heap.size]? = some (.cells #[.int .i64 p, .int .i64 q] 32 (0, 0)) := newBlk w _ _ _ rfl
  have HX := Lib.hid hbx
  clear h3 hbx h0
  go_enter Try.func73, Try.ntmps73
  go_wp2
  go_loopw [8] (fun i wr => ∃ k m : Nat, k ≤ n ∧ i = .int .i64 k ∧ wr = (w.alloc (.cells #[.int .i64 p, .int .i64 q] 32)).drewN m ∧ hasP zs p q k = false) (fun i _ => n - (intOf i).toNat)
  case atStart => exact ⟨0, 0, Nat.zero_le _, rfl, rfl, hasP_zero _ _ _⟩
  case round =>
    obtain ⟨k, m, hk, rfl, rfl, hno⟩ := hrel
    have HN := Lib.hid hno
    clear hno
    have cp := cell_of HX.out 0
    have cq := cell_of HX.out 1
    simp only [List.getElem?_toArray, List.getElem?_cons_zero, List.getElem?_cons_succ] at cp cq
    by_cases hlt : k < n
    · obtain ⟨b, off, rfl, hbw, hcell⟩ := H3.out (by omega)
      have c1 := (World.cell?_alloc_lt w (.cells #[.int .i64 p, .int .i64 q] 32) ⟨b, off + k * 2, none⟩ hbw).trans (hcell (k * 2) (by omega))
      have c2 := (World.cell?_alloc_lt w (.cells #[.int .i64 p, .int .i64 q] 32) ⟨b, off + (k * 2 + 1), none⟩ hbw).trans (hcell (k * 2 + 1) (by omega))
      rw [← Nat.add_assoc] at c2
      clear hcell H3 HX
      have i1 : (0 : Int) ≤ (k : Int) := by omega
      have i2 : (k : Int) < (n : Int) := by omega
      have hs := hasP_succ zs p q k
      rw [HN.out, Bool.false_or] at hs
      obtain ⟨x, hx⟩ : ∃ x, x = zs.getD (k * 2) 0 := ⟨_, rfl⟩
      obtain ⟨y, hy⟩ : ∃ y, y = zs.getD (k * 2 + 1) 0 := ⟨_, rfl⟩
      rw [← hx] at c1 hs
      rw [← hy] at c2 hs
      have hat : x = p → y = q → hasP zs p q n = true := fun e1 e2 => hasP_at hlt (hx.symm.trans e1) (hy.symm.trans e2)
      have HS := Lib.hid hs
      have HAT := Lib.hid hat
      have eqT := eqlTemp
      clear hx hy hs hat
      by_cases hxy : x = p ∧ y = q
      · obtain ⟨rfl, rfl⟩ := hxy
        have HR := Lib.hid (HAT.out rfl rfl)
        clear HAT HS
        go_wp2
        go_quiet (fail)
        go_wp2
        go_ret
        exact ⟨k, by first | rfl | simp, by rw [HR.out]; simp, (by repeat (first | (with_reducible exact Below.refl _ _) | (with_reducible refine Below.al ?_ _) | (with_reducible refine Below.dn ?_ _)))⟩
      · have hb : (x == p && y == q) = false := by
          rw [Bool.and_eq_false_iff, beq_eq_false_iff_ne, beq_eq_false_iff_ne]
          by_cases e : x = p
          · exact .inr (fun e2 => hxy ⟨e, e2⟩)
          · exact .inl e
        rw [hb] at HS
        have hb2 : (p == x && q == y) = false := by rw [Bool.beq_comm (a := p), Bool.beq_comm (a := q)]; exact hb
        clear hxy HAT
        go_wp2
        go_quiet (fail)
        go_wp2
        go_roundw
        case rel => exact ⟨k + 1, _, by omega, by go_num, rfl, HS.out⟩
        case measure => simp [intOf]; omega
    · obtain rfl : k = n := by omega
      clear H3 HX
      go_wp2
      go_ret
      exact ⟨-1, rfl, by rw [HN.out]; rfl, (by repeat (first | (with_reducible exact Below.refl _ _) | (with_reducible refine Below.al ?_ _) | (with_reducible refine Below.dn ?_ _)))⟩

theorem slices_Contains_tid (va : Value) (n : Nat) (zs : List Int) (p q : Int) (w : World) (ha : RdP w va n zs) :
    Calls Try.prog 67 #[va, .agg #[.int .i64 p, .int .i64 q]] w (HasP zs p q n w) := by
  obtain ⟨A, c, rfl, -⟩ := id ha.2
  have HA := Lib.hid (ha.below (Below.al (Below.refl _ w) (.cells #[.int .i64 p, .int .i64 q] 32)))
  have hbx : (w.alloc (.cells #[.int .i64 p, .int .i64 q] 32)).heap[w.heap.size]? = some (.cells #[.int .i64 p, .int .i64 q] 32 (0, 0)) := newBlk w _ _ _ rfl
  have cp := cell_of hbx 0
  have cq := cell_of hbx 1
  simp only [List.getElem?_toArray, List.getElem?_cons_zero, List.getElem?_cons_succ] at cp cq
  clear hbx ha
  go_enter Try.func67, Try.ntmps67
  go_wp2_with fail
  refine (slices_Index_tid _ n zs p q _ HA.out).mono ?_
  rintro e w1 ⟨r, rfl, hr, b1⟩
  have HR := Lib.hid hr
  have B := Below.next (Below.al (Below.refl _ w) _) b1
  clear hr b1 cp cq HA
  go_wp2_with fail
  go_ret
  exact ⟨by rw [← HR.out]; first | rfl | simp, B⟩

theorem info_partsP {P : Program} {e : TypeId} {z : Value} {a b : Nat} (h : (P.info? e).map (fun i => (i.zero, i.size, i.bytes)) = some (some z, a, b)) : ∃ i, P.info? e = some i ∧ i.zero = some z ∧ i.size = a ∧ i.bytes = b := by
  cases hi : P.info? e with
  | none => rw [hi] at h; cases h
  | some i =>
    rw [hi] at h
    simp only [Option.map_some, Option.some.injEq, Prod.mk.injEq] at h
    exact ⟨i, rfl, h.1, h.2.1, h.2.2⟩
theorem infoTid : (Try.prog.info? 32).map (fun i => (i.zero, i.size, i.bytes)) = some (some (.agg #[.int .i64 0, .int .i64 0]), 2, 16) := by kernel_rfl
theorem made2 (n : Nat) : (madeCells #[Value.int .i64 0, Value.int .i64 0] (n * 2)).toList = (List.replicate (n * 2) (0 : Int)).map (Value.int .i64) := by
  apply List.ext_getElem?
  intro j
  by_cases hj : j < n * 2
  · rcases Nat.mod_two_eq_zero_or_one j with h | h <;> simp [madeCells, hj, h]
  · simp [madeCells, hj]
set_option maxRecDepth 100000 in
set_option maxHeartbeats 4000000 in
theorem laws_toTempIDS (va : Value) (n : Nat) (zs : List Int) (w : World) (ha : RdP w va n zs) (hlen : n ≤ 1048576) :
    Calls Try.prog 46 #[va] w fun e w' => ∃ v, e = .returned v ∧ OwnP 32 w' w.heap.size v n zs ∧ Below w.heap.size w w' := by
  obtain ⟨h0, A, c, rfl, h1, h2, h3⟩ := ha
  obtain ⟨i0, hi, hz0, hz1, hz2⟩ := info_partsP infoTid
  have H3 := Lib.hid h3
  have HN := Lib.hid h0
  clear h3 h0 h1 h2
  go_enter Try.func46, Try.ntmps46
  go_wp2_with (at_make; refine wpList_make_full _ rfl _ _ 59 rfl w.heap.size 32 i0 (.agg #[.int .i64 0, .int .i64 0]) 2 Try.underlying59 hi hz0 hz1 .i64 .i64 n n n rfl rfl rfl rfl (by rw [hz2]; omega) (by unfold maxLen; omega) (Nat.le_refl _) ?_; intro w1 hown1 hg1)
  have hb1 : Below w.heap.size w w1 := (Below.refl _ _).grown hg1 (Nat.le_refl _) (by simp)
  have ho1 : OwnP 32 w1 w.heap.size (.slice (some ⟨w.heap.size, 0, none⟩) n n) n (fill (fun j => zs.getD j 0) (n * 2) 0) := by
    unfold OwnP
    rw [fill_zero, ← made2]
    exact hown1
  clear hown1 hg1
  go_wp2
  go_loopw [4] (fun i wr => ∃ k : Nat, k ≤ n ∧ i = .int .i64 k ∧ OwnP 32 wr w.heap.size (.slice (some ⟨w.heap.size, 0, none⟩) n n) n (fill (fun j => zs.getD j 0) (n * 2) (k * 2)) ∧ Below w.heap.size w wr) (fun i _ => n - (intOf i).toNat)
  case atStart => exact ⟨0, Nat.zero_le _, rfl, by simpa using ho1, hb1⟩
  case round =>
    clear ho1 hb1
    obtain ⟨k, hk, rfl, hown, hbel⟩ := hrel
    have HO := Lib.hid hown
    clear hown
    by_cases hlt : k < n
    · obtain ⟨b, off, rfl, hbw, hcell⟩ := H3.out (by omega)
      have c1 := (hbel.cell (p := ⟨b, off + k * 2, none⟩) hbw).trans (hcell (k * 2) (by omega))
      have c2 := (hbel.cell (p := ⟨b, off + (k * 2 + 1), none⟩) hbw).trans (hcell (k * 2 + 1) (by omega))
      rw [← Nat.add_assoc] at c2
      clear hcell
      have i1 : (0 : Int) ≤ (k : Int) := by omega
      have i2 : (k : Int) < (n : Int) := by omega
      obtain ⟨x, hx⟩ : ∃ x, x = zs.getD (k * 2) 0 := ⟨_, rfl⟩
      obtain ⟨y, hy⟩ : ∃ y, y = zs.getD (k * 2 + 1) 0 := ⟨_, rfl⟩
      rw [← hx] at c1
      rw [← hy] at c2
      have HX := Lib.hid hx
      have HY := Lib.hid hy
      clear hx hy
      go_wp2_with fail
      refine (laws_toTempID_below x y _).mono ?_
      rintro e w2 ⟨rfl, b2⟩
      have hown2 := HO.out.below b2
      have hbel2 := Below.next hbel b2
      have d1 := hown2.cellAt (k * 2) (by omega)
      have d2 := hown2.cellAt (k * 2 + 1) (by omega)
      have d3 := hown2.frozenAt (k * 2)
      have d4 := hown2.frozenAt (k * 2 + 1)
      have hs := (hown2.stored (k * 2) x).stored (k * 2 + 1) y
      have e1 : (fill (fun j => zs.getD j 0) (n * 2) (k * 2)).set (k * 2) x = fill (fun j => zs.getD j 0) (n * 2) (k * 2 + 1) := by rw [HX.out]; exact fill_set _ _ _
      have e2 : (fill (fun j => zs.getD j 0) (n * 2) (k * 2 + 1)).set (k * 2 + 1) y = fill (fun j => zs.getD j 0) (n * 2) ((k + 1) * 2) := by rw [HY.out, fill_set]; congr 1; omega
      rw [e1, e2] at hs
      have HS := Lib.hid hs
      have HB := Lib.hid (Below.st (Below.st hbel2 w.heap.size (k * 2) (.int .i64 x) (Nat.le_refl _)) w.heap.size (k * 2 + 1) (.int .i64 y) (Nat.le_refl _))
      clear hs e1 e2 hown2 hbel2 hbel b2 c1 c2 HX HY HO
      generalize (fill (fun j => zs.getD j 0) (n * 2) (k * 2)).getD (k * 2) 0 = z1 at d1
      generalize (fill (fun j => zs.getD j 0) (n * 2) (k * 2)).getD (k * 2 + 1) 0 = z2 at d2
      go_wp2_with fail
      go_roundw
      case rel => exact ⟨k + 1, by omega, by go_num, HS.out, HB.out⟩
      case measure => simp [intOf]; omega
    · obtain rfl : k = n := by omega
      have he : fill (fun j => zs.getD j 0) (k * 2) (k * 2) = zs := by rw [← HN.out]; exact fill_list zs
      have ho := HO.out
      rw [he] at ho
      have HZ := Lib.hid ho
      clear he ho HO H3
      go_wp2
      go_ret
      exact ⟨_, rfl, HZ.out, hbel⟩

set_option maxRecDepth 100000 in
set_option maxHeartbeats 4000000 in
theorem laws_eqTempIDS_same (va vb : Value) (n : Nat) (zs : List Int) (w : World) (ha : RdP w va n zs) (hb : RdP w vb n zs) :
    Calls Try.prog 48 #[va, vb] w fun e w' => e = .returned (.bool true) ∧ Below w.heap.size w w' := by
  obtain ⟨h0, A, c, rfl, h1, h2, h3⟩ := ha
  obtain ⟨_, B, d, rfl, g1, g2, g3⟩ := hb
  unfold maxLen at h2 g2
  have H3 := Lib.hid h3
  have G3 := Lib.hid g3
  have e1 : ((n : Int) != (n : Int)) = false := by simp
  clear h3 h0 g3
  go_enter Try.func48, Try.ntmps48
  go_wp2
  go_loopw [5] (fun i wr => ∃ k : Nat, k ≤ n ∧ i = .int .i64 k ∧ Below w.heap.size w wr) (fun i _ => n - (intOf i).toNat)
  case atStart => exact ⟨0, Nat.zero_le _, rfl, Below.refl _ _⟩
  case round =>
    obtain ⟨k, hk, rfl, hbel⟩ := hrel
    by_cases hlt : k < n
    · obtain ⟨b, off, rfl, hbw, hcell⟩ := H3.out (by omega)
      obtain ⟨b', off', rfl, hbw', hcell'⟩ := G3.out (by omega)
      have c1 := (hbel.cell (p := ⟨b, off + k * 2, none⟩) hbw).trans (hcell (k * 2) (by omega))
      have c2 := (hbel.cell (p := ⟨b, off + (k * 2 + 1), none⟩) hbw).trans (hcell (k * 2 + 1) (by omega))
      have c3 := (hbel.cell (p := ⟨b', off' + k * 2, none⟩) hbw').trans (hcell' (k * 2) (by omega))
      have c4 := (hbel.cell (p := ⟨b', off' + (k * 2 + 1), none⟩) hbw').trans (hcell' (k * 2 + 1) (by omega))
      rw [← Nat.add_assoc] at c2 c4
      clear hcell hcell' H3 G3
      have i1 : (0 : Int) ≤ (k : Int) := by omega
      have i2 : (k : Int) < (n : Int) := by omega
      obtain ⟨x, hx⟩ : ∃ x, x = zs.getD (k * 2) 0 := ⟨_, rfl⟩
      obtain ⟨y, hy⟩ : ∃ y, y = zs.getD (k * 2 + 1) 0 := ⟨_, rfl⟩
      rw [← hx] at c1 c3
      rw [← hy] at c2 c4
      clear hx hy
      go_wp2_with fail
      go_region_held3 (fun w' => w'.cell? ⟨b, off + k * 2, none⟩ = some (.int .i64 x) ∧ w'.cell? ⟨b, off + k * 2 + 1, none⟩ = some (.int .i64 y) ∧ w'.cell? ⟨b', off' + k * 2, none⟩ = some (.int .i64 x) ∧ w'.cell? ⟨b', off' + k * 2 + 1, none⟩ = some (.int .i64 y)) (first | exact ⟨c1, c2, c3, c4⟩ | exact ⟨k1, k2, k3, k4⟩) (first
        | (go_at_call 25; (with_reducible refine (laws_eqTempID_below x y _).mono ?_); rintro e w2 ⟨rfl, b2⟩; have hbel2 := Below.next (Below.drew hbel) b2; have k1 := (hbel2.cell (p := ⟨b, off + k * 2, none⟩) hbw).trans ((hbel.cell (p := ⟨b, off + k * 2, none⟩) hbw).symm.trans c1); have k2 := (hbel2.cell (p := ⟨b, off + k * 2 + 1, none⟩) hbw).trans ((hbel.cell (p := ⟨b, off + k * 2 + 1, none⟩) hbw).symm.trans c2); have k3 := (hbel2.cell (p := ⟨b', off' + k * 2, none⟩) hbw').trans ((hbel.cell (p := ⟨b', off' + k * 2, none⟩) hbw').symm.trans c3); have k4 := (hbel2.cell (p := ⟨b', off' + k * 2 + 1, none⟩) hbw').trans ((hbel.cell (p := ⟨b', off' + k * 2 + 1, none⟩) hbw').symm.trans c4)))
      all_goals
        have B2 := hbel2
        clear hbel hbel2 k1 k2 k3 k4 c1 c2 c3 c4
        go_wp2_with fail
        go_roundw
        case rel => exact ⟨k + 1, by omega, by go_num, B2⟩
        case measure => simp [intOf]; omega
    · obtain rfl : k = n := by omega
      clear H3 G3
      go_wp2
      go_ret
      exact ⟨rfl, hbel⟩

end Go.Proofs.Ytgoelmhaobloaaa
