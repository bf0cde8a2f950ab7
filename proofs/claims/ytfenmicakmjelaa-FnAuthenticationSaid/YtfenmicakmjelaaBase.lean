/-
  Words of this seat for memory: a slice that reads as a list of numbers (nil let in), a row of the call's own, a struct of numbers that came in by value. No function of the program in sight.
-/
import Derived.WalkKit
import Derived.ProofKit
import Derived.OpenShut
import Derived.ShutString
import Derived.ChangeOld
import Derived.Below
import Derived.Carry
import Derived.Deep.Draws
import Derived.Deep.Fields
import Derived.Deep.Slices
import Derived.Lib.Hide
namespace Go.Proofs.Ytfenmicakmjelaa
open Go.RowKit Go.ChangeShapes Go.WideShapes Go.ChangeAt Go.Deep

theorem wf_i64_bd {n : Int} (h : (Lit.int .i64 n).wf = true) : -9223372036854775808 ≤ n ∧ n ≤ 9223372036854775807 := by
  exact bounds_i64 h
theorem wf_u8_bd {n : Int} (h : (Lit.int .u8 n).wf = true) : 0 ≤ n ∧ n ≤ 255 := by
  exact bounds_u8 h

/-- The slice value v reads as the numbers zs (nil, empty or not). -/
def Rd (kd : IntKind) (w : World) (v : Value) (zs : List Int) : Prop :=
  ∃ A c, v = .slice A zs.length c ∧ zs.length ≤ c ∧ c ≤ maxLen ∧
    (0 < zs.length → ∃ b off, A = some ⟨b, off, none⟩ ∧ b < w.heap.size ∧ ∀ j, j < zs.length → w.cell? ⟨b, off + j, none⟩ = some (.int kd (zs.getD j 0)))

theorem Rd.keep {kd : IntKind} {w w' : World} {v : Value} {zs : List Int} (h : Rd kd w v zs) (hs : w.heap.size ≤ w'.heap.size)
    (hc : ∀ p : Addr, p.block < w.heap.size → w'.cell? p = w.cell? p) : Rd kd w' v zs := by
  obtain ⟨A, c, hv, h1, h2, h3⟩ := h
  refine ⟨A, c, hv, h1, h2, fun hn => ?_⟩
  obtain ⟨b, off, hA, hb, hcell⟩ := h3 hn
  exact ⟨b, off, hA, by omega, fun j hj => (hc _ hb).trans (hcell j hj)⟩
theorem Rd.below {kd : IntKind} {w w' : World} {v : Value} {zs : List Int} (h : Rd kd w v zs) (hb : Below w.heap.size w w') : Rd kd w' v zs :=
  h.keep hb.size fun _ hp => hb.cell hp
theorem Rd.alloc {kd : IntKind} {w : World} {v : Value} {zs : List Int} (h : Rd kd w v zs) (o : Obj) : Rd kd (w.alloc o) v zs :=
  h.below ((Below.refl _ _).alloc (Nat.le_refl _) o)
theorem Rd.drewN {kd : IntKind} {w : World} {v : Value} {zs : List Int} (h : Rd kd w v zs) (n : Nat) : Rd kd (w.drewN n) v zs := h
theorem Rd.nil (kd : IntKind) (w : World) : Rd kd w (.slice none 0 0) [] := ⟨none, 0, rfl, by simp, by simp [maxLen], fun h => absurd h (by simp)⟩

theorem below_drewN {B : Nat} {a w : World} (h : Below B a w) (n : Nat) : Below B a (w.drewN n) := ⟨h.os, h.tape, h.output, h.size, h.block⟩
theorem below_draws (B : Nat) (w : World) (n : Nat) : Below B w (w.drewN n) := below_drewN (Below.refl _ _) n
theorem Below.al {w w' : World} (h : Below w.heap.size w w') (o : Obj) : Below w.heap.size w (w'.alloc o) := h.alloc h.size o
theorem Below.dn {B : Nat} {w w' : World} (h : Below B w w') (n : Nat) : Below B w (w'.drewN n) := below_drewN h n
theorem Below.st {w w' : World} (h : Below w.heap.size w w') (g i : Nat) (u : Value) (hg : w.heap.size ≤ g) : Below w.heap.size w (w'.setCell ⟨g, i, none⟩ u) := h.setCell (p := ⟨g, i, none⟩) hg u
theorem below_of_alloc {w w' : World} {o : Obj} (h : w' = w.alloc o) : Below w.heap.size w w' := h ▸ Below.al (Below.refl _ _) o
/-- Two steps, the second below a later heap's size. -/
theorem Below.next {a b c : World} (h : Below a.heap.size a b) (k : Below b.heap.size b c) : Below a.heap.size a c := h.trans (k.mono h.size)

/-- What a step below the heap's size leaves: every old cell and every old mark, as rewrite rules for the walk. -/
theorem bcell {a b : World} (h : Below a.heap.size a b) :
    (∀ k i, k < a.heap.size → b.cell? ⟨k, i, none⟩ = a.cell? ⟨k, i, none⟩) ∧ (∀ k i, k < a.heap.size → b.frozen? ⟨k, i, none⟩ = a.frozen? ⟨k, i, none⟩) :=
  ⟨fun k i hk => h.cell (p := ⟨k, i, none⟩) hk, fun k i hk => h.frozen (p := ⟨k, i, none⟩) hk⟩
theorem bsize {a b : World} (h : Below a.heap.size a b) : a.heap.size ≤ b.heap.size := h.size

/-- A row of the call's own, of numbers. -/
def Own (T : TypeId) (kd : IntKind) (w : World) (base : Nat) (v : Value) (zs : List Int) : Prop :=
  w.ownsRow base T 1 v zs.length (zs.map (Value.int kd))

theorem getD_map_int (kd : IntKind) (zs : List Int) (j : Nat) (h : j < zs.length) : (zs.map (Value.int kd))[j]? = some (.int kd (zs.getD j 0)) := by
  simp [List.getElem?_eq_getElem h, List.getD]

theorem Own.rd {T : TypeId} {kd : IntKind} {w : World} {base : Nat} {v : Value} {zs : List Int} (h : Own T kd w base v zs) : Rd kd w v zs := by
  obtain ⟨_, h2⟩ := h
  rcases h2 with ⟨rfl, h0⟩ | ⟨g, cap, cur, rfl, hb, hg, hn, hm, hs, ht⟩
  · exact ⟨none, 0, by rw [h0], by omega, by simp [maxLen], fun h => absurd h (by omega)⟩
  · refine ⟨_, cap, rfl, hn, hm, fun _ => ⟨g, 0, rfl, (Array.getElem?_eq_some_iff.1 hg).1, fun j hj => ?_⟩⟩
    rw [Nat.zero_add, cell_of_row w g j cur T (0, 0) hg]
    have := getD_map_int kd zs j hj
    rw [← ht, List.getElem?_take, if_pos (by omega)] at this
    simpa using this

/-- A slice literal of the call's own, in its new block. -/
theorem Own.lit {T : TypeId} {kd : IntKind} (w : World) (base : Nat) (zs : List Int) (hb : base ≤ w.heap.size) (hm : zs.length ≤ maxLen) :
    Own T kd (w.alloc (.cells (zs.map (Value.int kd)).toArray T)) base (.slice (some ⟨w.heap.size, 0, none⟩) zs.length zs.length) zs :=
  ⟨by simp, .inr ⟨w.heap.size, zs.length, _, rfl, hb, heap_alloc_new w _, Nat.le_refl _, hm, by simp, by simp [List.take_of_length_le]⟩⟩
theorem Rd.lit {kd : IntKind} (T : TypeId) (w : World) (zs : List Int) (hm : zs.length ≤ maxLen) :
    Rd kd (w.alloc (.cells (zs.map (Value.int kd)).toArray T)) (.slice (some ⟨w.heap.size, 0, none⟩) zs.length zs.length) zs :=
  (Own.lit (T := T) w 0 zs (Nat.zero_le _) hm).rd

theorem Own.below {T : TypeId} {kd : IntKind} {w w' : World} {base : Nat} {v : Value} {zs : List Int} (h : Own T kd w base v zs) (hb : Below w.heap.size w w') : Own T kd w' base v zs :=
  World.ownsRow.kept h (row := none) ⟨hb.os, hb.tape, hb.output, hb.size, fun k hk _ => hb.block k hk⟩ (by cases v.ownBlock <;> simp)
theorem Own.le {T : TypeId} {kd : IntKind} {w : World} {base base' : Nat} {v : Value} {zs : List Int} (h : Own T kd w base v zs) (hb : base' ≤ base) : Own T kd w base' v zs := by
  obtain ⟨h1, h2⟩ := h
  refine ⟨h1, ?_⟩
  rcases h2 with h2 | ⟨g, cap, cur, hv, hg, r⟩
  · exact .inl h2
  · exact .inr ⟨g, cap, cur, hv, by omega, r⟩
/-- Where the block lies. -/
theorem Own.lt {T : TypeId} {kd : IntKind} {w : World} {base : Nat} {v : Value} {zs : List Int} (h : Own T kd w base v zs) : ∀ k, v.ownBlock = some k → base ≤ k ∧ k < w.heap.size := World.ownsRow.lt h

/-- A number slice that came in: reading of the row's data to 'Rd'. -/
theorem rd_of_trod {H : Type} {enc : TypeId × Value → H} {P : Program} {w : World} {base : Nat} {spare : Nat → Bool} {held : Bool} {t e : TypeId} {k : IntKind} {a : Option Addr} {len cap : Nat} {d : DataW H} {ps : List MemPlace}
    (ht : P.underlying t = some (.slice e)) (he : P.underlying e = some (.int k)) (hc : P.cellsOf e = 1) (hsp : ∀ b, spare b = true)
    (h : DataW.Trod enc P w base spare held t (.slice a len cap) d ps) :
    ∃ zs : List Int, zs.length = len ∧ Rd k w (.slice a len cap) zs ∧ ∀ n ∈ zs, (Lit.int k n).wf = true := by
  obtain ⟨fuel, hf⟩ := h
  rcases open_ints ht he hc hf with ⟨hcs, _⟩ | ⟨x, l, c, zs, hcs, _, hl, hm, hz, _, hcell, hwz⟩
  · simp [Value.cells] at hcs
    obtain ⟨rfl, rfl, rfl⟩ := hcs
    exact ⟨[], rfl, Rd.nil _ _, by simp⟩
  · simp [Value.cells] at hcs
    obtain ⟨rfl, rfl, rfl⟩ := hcs
    simp only [hsp, if_true] at hz
    have hlen : (zs.take len).length = len := by simp; omega
    refine ⟨zs.take len, hlen, ⟨some x, cap, by rw [hlen], by omega, hm, fun hn => ?_⟩, fun n hn => hwz n (List.mem_of_mem_take hn)⟩
    rw [hlen] at hn
    have h0 := hcell 0 (by omega)
    have hbl := World.block_lt_of_cell? w _ h0
    obtain ⟨b, off, spot⟩ := x
    have hspot : spot = none := by simpa [Addr.add] using World.cell?_spot h0
    subst hspot
    refine ⟨b, off, rfl, by simpa [Addr.add] using hbl, fun j hj => ?_⟩
    rw [hlen] at hj
    have h1 := hcell j (by omega)
    rw [Addr.add_lit] at h1
    rw [h1]
    congr 2
    rw [List.getD_eq_getElem?_getD, List.getD_eq_getElem?_getD, List.getElem?_take, if_pos hj]

/-- A struct of numbers (each field one int), as the row's data have it. -/
theorem open_nums {H : Type} {enc : TypeId × Value → H} {P : Program} {w : World} {base : Nat} {spare : Nat → Bool} {held : Bool} {t : TypeId} {fs : Array Field} {fuel : Nat} {cs : List Value} {x : DataW H × List MemPlace}
    (hs : P.underlying t = some (.struct fs)) (hone : oneCellFields P fs = true) (hC : P.cellsOf t = fs.size) (hint : ∀ f ∈ fs.toList, P.underlying f.type = some (.int .i64))
    (h : DataW.trod enc P w base spare held fuel t cs = some x) : ∃ zs : List Int, cs = zs.map (Value.int .i64) ∧ zs.length = fs.size ∧ ∀ n ∈ zs, (Lit.int .i64 n).wf = true := by
  obtain ⟨xs, n, _, _, hlen, hxl, hf⟩ := DataW.trod_struct hs h
  have each : ∀ j, j < fs.size → ∃ z, cs[j]? = some (.int .i64 z) ∧ (Lit.int .i64 z).wf = true := by
    intro j hj
    have hfj : fs[j]? = some fs[j] := Array.getElem?_eq_getElem hj
    obtain ⟨ho, hk⟩ := hone_of hone j _ hfj
    have h1 := hf j _ hfj
    rw [ho, hk] at h1
    have hcj : cs[j]? = some (cs[j]'(by omega)) := List.getElem?_eq_getElem (by omega)
    have e1 : (cs.drop j).take 1 = [cs[j]'(by omega)] := by
      rw [List.drop_eq_getElem_cons (by omega)]; rfl
    rw [e1, List.getElem?_eq_getElem (by omega : j < xs.length)] at h1
    obtain ⟨z, hz, _, hw⟩ := DataW.trod_int (hint _ (by simp)) h1
    simp at hz
    exact ⟨z, by rw [hcj, hz], hw⟩
  refine ⟨(List.range fs.size).map fun j => intOf (cs.getD j .nilIface), ?_, by simp, ?_⟩
  · apply List.ext_getElem?
    intro j
    by_cases hj : j < fs.size
    · obtain ⟨z, hz, _⟩ := each j hj
      simp [hj, hz, intOf]
    · rw [List.getElem?_eq_none (by omega), List.getElem?_eq_none (by simp; omega)]
  · intro z hz
    simp at hz
    obtain ⟨j, hj, rfl⟩ := hz
    obtain ⟨z, hz, hw⟩ := each j hj
    simpa [hz, intOf] using hw

theorem list2 {α : Type} {l : List α} (h : l.length = 2) : ∃ a b, l = [a, b] := by
  match l, h with
  | [a, b], _ => exact ⟨a, b, rfl⟩
theorem list3 {α : Type} {l : List α} (h : l.length = 3) : ∃ a b c, l = [a, b, c] := by
  match l, h with
  | [a, b, c], _ => exact ⟨a, b, c, rfl⟩
theorem list5 {α : Type} {l : List α} (h : l.length = 5) : ∃ a b c d e, l = [a, b, c, d, e] := by
  match l, h with
  | [a, b, c, d, e], _ => exact ⟨a, b, c, d, e, rfl⟩

section
variable {H : Type} {enc : TypeId × Value → H} {P : Program} {w : World} {base : Nat} {spare : Nat → Bool} {held : Bool} {r : Reach} {b0 : Nat} {t : TypeId} {v : Value} {d : DataW H} {ps : List MemPlace}

/-- A struct of two ints by value. -/
theorem open_nums2 {f0 f1 : Field} (hs : P.underlying t = some (.struct #[f0, f1])) (hone : oneCellFields P #[f0, f1] = true) (hC : P.cellsOf t = 2)
    (h0 : P.underlying f0.type = some (.int .i64)) (h1 : P.underlying f1.type = some (.int .i64)) (hv : Value.okWide P w r b0 t v) (hd : DataW.Trod enc P w base spare held t v d ps) :
    ∃ a b : Int, v = .agg #[.int .i64 a, .int .i64 b] ∧ (Lit.int .i64 a).wf = true ∧ (Lit.int .i64 b).wf = true := by
  obtain ⟨cs, rfl, _⟩ := okWide_struct hs hv
  obtain ⟨fuel, hf⟩ := hd
  obtain ⟨zs, hz, hl, hw⟩ := open_nums hs hone (by simpa using hC) (by intro f hfm; simp at hfm; rcases hfm with rfl | rfl <;> assumption) hf
  obtain ⟨a, b, rfl⟩ := list2 (by simpa using hl)
  refine ⟨a, b, ?_, hw a (by simp), hw b (by simp)⟩
  obtain ⟨l⟩ := cs
  simp [Value.cells] at hz
  rw [hz]

/-- A struct of five ints by value. -/
theorem open_nums5 {f0 f1 f2 f3 f4 : Field} (hs : P.underlying t = some (.struct #[f0, f1, f2, f3, f4])) (hone : oneCellFields P #[f0, f1, f2, f3, f4] = true) (hC : P.cellsOf t = 5)
    (h0 : P.underlying f0.type = some (.int .i64)) (h1 : P.underlying f1.type = some (.int .i64)) (h2 : P.underlying f2.type = some (.int .i64)) (h3 : P.underlying f3.type = some (.int .i64)) (h4 : P.underlying f4.type = some (.int .i64))
    (hv : Value.okWide P w r b0 t v) (hd : DataW.Trod enc P w base spare held t v d ps) :
    ∃ a b c x y : Int, v = .agg #[.int .i64 a, .int .i64 b, .int .i64 c, .int .i64 x, .int .i64 y] ∧ (Lit.int .i64 a).wf = true ∧ (Lit.int .i64 b).wf = true ∧ (Lit.int .i64 c).wf = true ∧ (Lit.int .i64 x).wf = true ∧ (Lit.int .i64 y).wf = true := by
  obtain ⟨cs, rfl, _⟩ := okWide_struct hs hv
  obtain ⟨fuel, hf⟩ := hd
  obtain ⟨zs, hz, hl, hw⟩ := open_nums hs hone (by simpa using hC) (by intro f hfm; simp at hfm; rcases hfm with rfl | rfl | rfl | rfl | rfl <;> assumption) hf
  obtain ⟨a, b, c, x, y, rfl⟩ := list5 (by simpa using hl)
  refine ⟨a, b, c, x, y, ?_, hw a (by simp), hw b (by simp), hw c (by simp), hw x (by simp), hw y (by simp)⟩
  obtain ⟨l⟩ := cs
  simp [Value.cells] at hz
  rw [hz]

/-- A struct by value whose first field is a struct of two ints, two ints behind it. -/
theorem open_nums22 {f0 f1 f2 g0 g1 : Field} (hs : P.underlying t = some (.struct #[f0, f1, f2])) (hg : P.underlying f0.type = some (.struct #[g0, g1])) (hone : oneCellFields P #[g0, g1] = true)
    (hC : P.cellsOf t = 4) (hCg : P.cellsOf f0.type = 2) (hC1 : P.cellsOf f1.type = 1) (hC2 : P.cellsOf f2.type = 1) (o0 : f0.offset = 0) (o1 : f1.offset = 2) (o2 : f2.offset = 3)
    (h0 : P.underlying g0.type = some (.int .i64)) (h1 : P.underlying g1.type = some (.int .i64)) (h2 : P.underlying f1.type = some (.int .i64)) (h3 : P.underlying f2.type = some (.int .i64))
    (hv : Value.okWide P w r b0 t v) (hd : DataW.Trod enc P w base spare held t v d ps) :
    ∃ a b c x : Int, v = .agg #[.int .i64 a, .int .i64 b, .int .i64 c, .int .i64 x] ∧ (Lit.int .i64 a).wf = true ∧ (Lit.int .i64 b).wf = true ∧ (Lit.int .i64 c).wf = true ∧ (Lit.int .i64 x).wf = true := by
  obtain ⟨cs, rfl, hsz⟩ := okWide_struct hs hv
  obtain ⟨fuel, hf⟩ := hd
  obtain ⟨l⟩ := cs
  have hl4 : l.length = 4 := by simpa [hC] using hsz
  obtain ⟨xs, n, _, _, _, hxl, hff⟩ := DataW.trod_struct hs hf
  obtain ⟨y0, y1, y2, rfl⟩ := list3 (by simpa using hxl)
  have t0 := hff 0 f0 rfl
  have t1 := hff 1 f1 rfl
  have t2 := hff 2 f2 rfl
  simp only [Value.cells, o0, o1, o2, hCg, hC1, hC2] at t0 t1 t2
  obtain ⟨zs, hz, hzl, hw⟩ := open_nums hg hone (by simpa using hCg) (by intro f hfm; simp at hfm; rcases hfm with rfl | rfl <;> assumption) t0
  obtain ⟨c, hc, _, wc⟩ := DataW.trod_int h2 t1
  obtain ⟨x, hx, _, wx⟩ := DataW.trod_int h3 t2
  obtain ⟨a, b, rfl⟩ := list2 (by simpa using hzl)
  refine ⟨a, b, c, x, ?_, hw a (by simp), hw b (by simp), wc, wx⟩
  match l, hl4 with
  | [l0, l1, l2, l3], _ =>
    simp at hz hc hx
    rw [hz.1, hz.2, hc, hx]
end

end Go.Proofs.Ytfenmicakmjelaa
