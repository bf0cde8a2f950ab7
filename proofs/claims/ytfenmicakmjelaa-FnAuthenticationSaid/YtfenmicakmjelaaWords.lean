/-
  More words for memory: what stays of an owned row when another row is written; append of a slice that reads as numbers (nil let in); lists that a filling loop has come to.
-/
import Derived.Test.YtfenmicakmjelaaBase
import Derived.Maps.AppendAt
import Derived.Laws.CopyOwn
import Derived.Lib.Hide
namespace Go.Proofs.Ytfenmicakmjelaa
open Go.RowKit

theorem Own.grown {T : TypeId} {kd : IntKind} {w w' : World} {base : Nat} {v : Value} {zs : List Int} {row : Option Nat} (h : Own T kd w base v zs) (hg : w.grownBy w' row)
    (hne : v.ownBlock = none ∨ v.ownBlock ≠ row) : Own T kd w' base v zs := World.ownsRow.kept h hg hne
theorem Own.drewN {T : TypeId} {kd : IntKind} {w : World} {base : Nat} {v : Value} {zs : List Int} (h : Own T kd w base v zs) (n : Nat) : Own T kd (w.drewN n) base v zs := h
theorem Own.nil (T : TypeId) (kd : IntKind) (w : World) (base : Nat) : Own T kd w base (.slice none 0 0) [] := ⟨by simp, .inl ⟨rfl, rfl⟩⟩

/-- Two rows of the call's own, the second made when the heap had grown past the first. -/
theorem own_apart {T T' : TypeId} {kd kd' : IntKind} {w1 w2 : World} {b1 b2 : Nat} {v1 v2 : Value} {z1 z2 : List Int} (h1 : Own T kd w1 b1 v1 z1) (h2 : Own T' kd' w2 b2 v2 z2) (hb : w1.heap.size ≤ b2) :
    v2.ownBlock = none ∨ v2.ownBlock ≠ v1.ownBlock := by
  cases e2 : v2.ownBlock with
  | none => exact .inl rfl
  | some k =>
    right
    intro e1
    have a := h2.lt k e2
    have b := h1.lt k e1.symm
    omega
theorem own_apart' {T T' : TypeId} {kd kd' : IntKind} {w1 w2 : World} {b1 b2 : Nat} {v1 v2 : Value} {z1 z2 : List Int} (h1 : Own T kd w1 b1 v1 z1) (h2 : Own T' kd' w2 b2 v2 z2) (hb : w1.heap.size ≤ b2) :
    v1.ownBlock = none ∨ v1.ownBlock ≠ v2.ownBlock := by
  rcases own_apart h1 h2 hb with h | h
  · cases e1 : v1.ownBlock with
    | none => exact .inl rfl
    | some k => right; rw [h]; simp
  · exact .inr (fun e => h e.symm)

theorem Below.own {T : TypeId} {kd : IntKind} {a w w' : World} {base : Nat} {v : Value} {zs : List Int} (h : Below a.heap.size a w) (hg : w.grownBy w' v.ownBlock) (ho : Own T kd w base v zs) (hb : a.heap.size ≤ base) :
    Below a.heap.size a w' := h.grown hg h.size fun k hk => Nat.le_trans hb (ho.lt k hk).1

section
variable {P : Program} (w : World)

theorem run_append_nilsrc (base : Nat) (t ty e : TypeId) (i : TypeInfo) (size : Nat) (ht : P.underlying t = some (.slice e)) (hi : P.info? e = some i)
    (v : Value) (n : Nat) (xs : List Value) (hown : w.ownsRow base e size v n xs) (c : Nat) : (Builtin.append_ #[t, t] ty #[v, .slice none 0 c]).run P w = .ok v w := by
  rcases hown.2 with ⟨rfl, rfl⟩ | ⟨g, cap, cur, rfl, _, _, hnc, _⟩
  · simp [Builtin.append_, run_underlying ht, sizeOf, typeInfo, hi, Builtin.lenOf, Builtin.firstCells]
  · simp [Builtin.append_, run_underlying ht, sizeOf, typeInfo, hi, Builtin.lenOf, Builtin.firstCells, hnc, storeCells]

theorem run_append_rd {kd : IntKind} (base : Nat) (t ty e : TypeId) (i : TypeInfo) (z : Value) (bytes : Nat) (ht : P.underlying t = some (.slice e)) (hi : P.info? e = some i) (hz : i.zero = some z)
    (hsize : i.size = 1) (hby : i.bytes = bytes) (hzs : z.cells.size = 1)
    (v u : Value) (xs ys : List Int) (hown : Own e kd w base v xs) (hr : Rd kd w u ys)
    (h63 : xs.length + ys.length ≤ maxLen) (hbytes : (xs.length + ys.length) * bytes ≤ 140737488355328) (hbase : base ≤ w.heap.size) :
    ∃ v' w', (Builtin.append_ #[t, t] ty #[v, u]).run P w = .ok v' w' ∧ Own e kd w' base v' (xs ++ ys) ∧ w.grownBy w' v.ownBlock := by
  obtain ⟨A, c, rfl, hc1, hc2, hcell⟩ := hr
  rcases Nat.eq_zero_or_pos ys.length with h0 | h0
  · obtain rfl : ys = [] := List.eq_nil_of_length_eq_zero h0
    cases A with
    | none => exact ⟨v, w, run_append_nilsrc w base t ty e i 1 ht hi v _ _ hown c, by simpa using hown, World.grownBy.refl w _⟩
    | some ad =>
      obtain ⟨v', w', hrun, h2, h3, _⟩ := run_append_own (P := P) w base t ty e i z 1 bytes ht hi hz hsize hby hzs (by omega) v _ _ hown ad 0 c [] (by simp) (by simp) (by simp) (by simpa using h63) (by simpa using hbytes) hbase
      exact ⟨v', w', hrun, by simpa [Own] using h2, h3⟩
  · obtain ⟨b, off, rfl, _, hcc⟩ := hcell h0
    obtain ⟨v', w', hrun, h2, h3, _⟩ := run_append_own (P := P) w base t ty e i z 1 bytes ht hi hz hsize hby hzs (by omega) v _ _ hown ⟨b, off, none⟩ ys.length c (ys.map (Value.int kd)) (by simp)
      (by
        intro j x hx
        have hj : j < ys.length := by
          have := (List.getElem?_eq_some_iff.1 hx).1
          simpa using this
        rw [getD_map_int kd ys j hj] at hx
        rw [Addr.add_lit, hcc j hj]
        exact hx)
      (ints_oneCell kd ys) h63 hbytes hbase
    exact ⟨v', w', hrun, by simpa [Own] using h2, h3⟩

theorem wp_append_rd {kd : IntKind} {o : Oper} {a : Act} {K : Act → World → Prop} {Q : Exit → Act → World → Prop} (s x : Operand) (t : TypeId)
    (ho : o.op = .call { callee := .builtin .append, args := #[s, x], argTypes := #[t, t] })
    (base : Nat) (e : TypeId) (i : TypeInfo) (z : Value) (bytes : Nat) (ht : P.underlying t = some (.slice e)) (hi : P.info? e = some i) (hz : i.zero = some z)
    (hsize : i.size = 1) (hby : i.bytes = bytes) (hzs : z.cells.size = 1)
    (v u : Value) (xs ys : List Int) (hs : a.eval s = v) (hown : Own e kd w base v xs) (hx : a.eval x = u) (hr : Rd kd w u ys)
    (h63 : xs.length + ys.length ≤ maxLen) (hbytes : (xs.length + ys.length) * bytes ≤ 140737488355328) (hbase : base ≤ w.heap.size)
    (h : ∀ v' w', Own e kd w' base v' (xs ++ ys) → w.grownBy w' v.ownBlock → K (a.put o.dst v') w') : o.wp P a w K Q := by
  obtain ⟨v', w', hrun, h2, h3⟩ := run_append_rd (P := P) w base t o.type e i z bytes ht hi hz hsize hby hzs v u xs ys hown hr h63 hbytes hbase
  unfold Oper.wp execOp
  simp only [ho, resolve, invoke, builtin, Sem.run_bind, Sem.run_pure, Result.andThen_ok, List.map_toArray, List.map_cons, List.map_nil, hs, hx, hrun]
  exact h v' w' h2 h3

theorem wpList_append_rd {kd : IntKind} {ops : Array Oper} {rest : List Oper} {o : Oper} {a : Act} {Q : Exit → Act → World → Prop} (hgd : o.guard = none) (s x : Operand) (t : TypeId)
    (ho : o.op = .call { callee := .builtin .append, args := #[s, x], argTypes := #[t, t] })
    (base : Nat) (e : TypeId) (i : TypeInfo) (z : Value) (bytes : Nat) (ht : P.underlying t = some (.slice e)) (hi : P.info? e = some i) (hz : i.zero = some z)
    (hsize : i.size = 1) (hby : i.bytes = bytes) (hzs : z.cells.size = 1)
    (v u : Value) (xs ys : List Int) (hs : a.eval s = v) (hown : Own e kd w base v xs) (hx : a.eval x = u) (hr : Rd kd w u ys)
    (h63 : xs.length + ys.length ≤ maxLen) (hbytes : (xs.length + ys.length) * bytes ≤ 140737488355328) (hbase : base ≤ w.heap.size)
    (h : ∀ v' w', Own e kd w' base v' (xs ++ ys) → w.grownBy w' v.ownBlock → wpList P ops Q rest (a.put o.dst v') w') : wpList P ops Q (o :: rest) a w :=
  wpList_plain hgd fun _ hK => wp_append_rd w s x t ho base e i z bytes ht hi hz hsize hby hzs v u xs ys hs hown hx hr h63 hbytes hbase fun v' w' h2 h3 => hK _ _ (h v' w' h2 h3)
end

/-! ### Lists that loops have come to -/

/-- The first k places agree. -/
def EqTo (xs ys : List Int) (k : Nat) : Prop := ∀ j, j < k → xs.getD j 0 = ys.getD j 0
theorem EqTo.zero (xs ys : List Int) : EqTo xs ys 0 := fun j hj => absurd hj (by omega)
theorem EqTo.succ {xs ys : List Int} {k : Nat} (h : EqTo xs ys k) (e : xs.getD k 0 = ys.getD k 0) : EqTo xs ys (k + 1) := fun j hj => by
  rcases Nat.lt_or_ge j k with hlt | hge
  · exact h j hlt
  · obtain rfl : j = k := by omega
    exact e

def eqL (xs ys : List Int) : Bool := decide (xs = ys)
theorem eqL_same (xs : List Int) : eqL xs xs = true := by simp [eqL]
theorem eqL_of_eqTo {xs ys : List Int} (hl : xs.length = ys.length) (h : EqTo xs ys xs.length) : eqL xs ys = true := by
  have : xs = ys := by
    apply List.ext_getElem hl
    intro j h1 h2
    have := h j h1
    simpa [List.getD, h1, h2] using this
  simp [eqL, this]
theorem eqL_ne {xs ys : List Int} (k : Nat) (h : xs.getD k 0 ≠ ys.getD k 0) : eqL xs ys = false := by
  have : xs ≠ ys := fun e => h (by rw [e])
  simp [eqL, this]
theorem eqL_len {xs ys : List Int} (h : xs.length ≠ ys.length) : eqL xs ys = false := by
  have : xs ≠ ys := fun e => h (by rw [e])
  simp [eqL, this]

/-- What a row of n zeros holds when its first k places have been filled from f. -/
def fill (f : Nat → Int) (n k : Nat) : List Int := (List.range n).map fun j => if j < k then f j else 0
theorem fill_length (f : Nat → Int) (n k : Nat) : (fill f n k).length = n := by simp [fill]
theorem fill_zero (f : Nat → Int) (n : Nat) : fill f n 0 = List.replicate n 0 := by
  apply List.ext_getElem <;> simp [fill]
theorem fill_set (f : Nat → Int) (n k : Nat) : (fill f n k).set k (f k) = fill f n (k + 1) := by
  apply List.ext_getElem
  · simp [fill]
  · intro j h1 h2
    simp only [List.length_set, fill_length] at h1
    by_cases hj : j = k
    · subst hj; simp [fill]
    · rw [List.getElem_set_ne (by omega)]
      simp only [fill, List.getElem_map, List.getElem_range]
      by_cases h : j < k
      · rw [if_pos h, if_pos (by omega)]
      · rw [if_neg h, if_neg (by omega)]
theorem fill_full (f : Nat → Int) (n : Nat) : fill f n n = (List.range n).map f := by
  apply List.ext_getElem
  · simp [fill]
  · intro j h1 h2
    simp only [fill_length] at h1
    simp [fill, h1]
theorem fill_list (xs : List Int) : fill (fun j => xs.getD j 0) xs.length xs.length = xs := by
  rw [fill_full]
  apply List.ext_getElem
  · simp
  · intro j h1 h2
    simp [List.getD, h2]

/-- The row over which a filling loop goes: its first k places filled from f, the rest as it was. -/
def fillOver (f : Nat → Int) (old : List Int) (k : Nat) : List Int := (List.range old.length).map fun j => if j < k then f j else old.getD j 0
theorem fillOver_length (f : Nat → Int) (old : List Int) (k : Nat) : (fillOver f old k).length = old.length := by simp [fillOver]
theorem fillOver_zero (f : Nat → Int) (old : List Int) : fillOver f old 0 = old := by
  apply List.ext_getElem
  · simp [fillOver]
  · intro j h1 h2
    simp [fillOver, List.getD, h2]
theorem fillOver_set (f : Nat → Int) (old : List Int) (k : Nat) : (fillOver f old k).set k (f k) = fillOver f old (k + 1) := by
  apply List.ext_getElem
  · simp [fillOver]
  · intro j h1 h2
    simp only [List.length_set, fillOver_length] at h1
    by_cases hj : j = k
    · subst hj; simp [fillOver]
    · rw [List.getElem_set_ne (by omega)]
      simp only [fillOver, List.getElem_map, List.getElem_range]
      by_cases h : j < k
      · rw [if_pos h, if_pos (by omega)]
      · rw [if_neg h, if_neg (by omega)]
theorem fillOver_full (f : Nat → Int) (old : List Int) : fillOver f old old.length = (List.range old.length).map f := by
  apply List.ext_getElem
  · simp [fillOver]
  · intro j h1 h2
    simp only [fillOver_length] at h1
    simp [fillOver, h1]
theorem fillOver_ge (f : Nat → Int) (old : List Int) (k j : Nat) (h : k ≤ j) : (fillOver f old k).getD j 0 = old.getD j 0 := by
  by_cases hj : j < old.length
  · simp [fillOver, List.getD, hj, show ¬ j < k by omega]
  · simp [fillOver, List.getD, hj]

theorem map_set_int (kd : IntKind) (xs : List Int) (j : Nat) (x : Int) : (xs.map (Value.int kd)).set j (.int kd x) = (xs.set j x).map (Value.int kd) := by simp [List.map_set]

/-- A stored place of an owned row. -/
theorem Own.stored {T : TypeId} {kd : IntKind} {w : World} {base g cap : Nat} {zs : List Int} (h : Own T kd w base (.slice (some ⟨g, 0, none⟩) zs.length cap) zs) (j : Nat) (x : Int) :
    Own T kd (w.setCell ⟨g, j, none⟩ (.int kd x)) base (.slice (some ⟨g, 0, none⟩) zs.length cap) (zs.set j x) ∧ w.grownBy (w.setCell ⟨g, j, none⟩ (.int kd x)) (some g) := by
  obtain ⟨h1, h2⟩ := World.ownsRow.stored h j (.int kd x)
  refine ⟨?_, h2⟩
  unfold Own
  rw [map_set_int] at h1
  simpa using h1
theorem Own.cellAt {T : TypeId} {kd : IntKind} {w : World} {base g cap n : Nat} {zs : List Int} (h : Own T kd w base (.slice (some ⟨g, 0, none⟩) n cap) zs) (hn : n = zs.length) (j : Nat) (hj : j < zs.length) :
    w.cell? ⟨g, j, none⟩ = some (.int kd (zs.getD j 0)) := by
  subst hn
  rw [World.ownsRow.cellAt h j (by omega)]
  exact getD_map_int kd zs j hj
theorem Own.frozenAt {T : TypeId} {kd : IntKind} {w : World} {base g cap n : Nat} {zs : List Int} (h : Own T kd w base (.slice (some ⟨g, 0, none⟩) n cap) zs) (hn : n = zs.length) (j : Nat) :
    w.frozen? ⟨g, j, none⟩ = false := by
  subst hn
  exact World.ownsRow.frozenAt h j
/-- nil, or written out. -/
theorem Own.forms {T : TypeId} {kd : IntKind} {w : World} {base : Nat} {v : Value} {zs : List Int} (h : Own T kd w base v zs) :
    (v = .slice none 0 0 ∧ zs = []) ∨ ∃ g cap, v = .slice (some ⟨g, 0, none⟩) zs.length cap ∧ base ≤ g ∧ g < w.heap.size ∧ zs.length ≤ cap ∧ cap ≤ maxLen := by
  rcases h.2 with ⟨h1, h2⟩ | ⟨g, cap, cur, hv, hg, hh, hn, hm, _⟩
  · exact .inl ⟨h1, List.eq_nil_of_length_eq_zero h2⟩
  · exact .inr ⟨g, cap, hv, hg, (Array.getElem?_eq_some_iff.1 hh).1, hn, hm⟩

theorem take_succ_getD (xs : List Int) (k : Nat) (h : k < xs.length) : xs.take (k + 1) = xs.take k ++ [xs.getD k 0] := by
  rw [List.take_succ_eq_append_getElem h]
  simp [List.getD, h]
theorem getD_mem (xs : List Int) (k : Nat) (h : k < xs.length) : xs.getD k 0 ∈ xs := by
  simp [List.getD, h]

end Go.Proofs.Ytfenmicakmjelaa
