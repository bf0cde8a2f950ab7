/-
  Contracts: the cursor from which the laws draw their inputs: it never fails, and what it gives lies in known ranges.
-/
import Derived.Test.YtfenmicakmjelaaWords
import Derived.Test.YtfenmicakmjelaaArith
import Derived.Deep.QuietTactic
import Derived.BigQuiet
namespace Go.Proofs.Ytfenmicakmjelaa
open Go.RowKit

theorem and_bd (a : Int) (m : Nat) (hm : m < 9223372036854775808) : 0 ≤ bits .and .i64 a (m : Int) ∧ bits .and .i64 a (m : Int) ≤ (m : Int) := by
  have h : bits .and .i64 a (m : Int) = IntKind.i64.wrap ((BitVec.ofInt 64 a &&& BitVec.ofInt 64 (m : Int)).toNat : Int) := rfl
  rw [h, BitVec.toNat_and]
  have e : (BitVec.ofInt 64 (m : Int)).toNat = m := by
    rw [BitVec.ofInt_natCast, BitVec.toNat_ofNat]; exact Nat.mod_eq_of_lt (by omega)
  rw [e]
  have hl := Nat.and_le_right (n := (BitVec.ofInt 64 a).toNat) (m := m)
  rw [IntWalk.i64_in _ (by omega)]
  omega
theorem and255 (a : Int) : 0 ≤ bits .and .i64 a 255 ∧ bits .and .i64 a 255 ≤ 255 := and_bd a 255 (by omega)
theorem and3fff (a : Int) : 0 ≤ bits .and .i64 a 1073741823 ∧ bits .and .i64 a 1073741823 ≤ 1073741823 := and_bd a 1073741823 (by omega)

/-- Block g is a cursor over the bytes zs. -/
def Cur (w : World) (g : Nat) (zs : List Int) : Prop :=
  ∃ (A : Option Addr) (c i : Nat) (h : Int), w.heap[g]? = some (.cells #[.slice A zs.length c, .int .i64 i, .int .i64 h] 87 (0, 0)) ∧ i ≤ zs.length ∧ zs.length ≤ 1048576 ∧ (Lit.int .i64 h).wf = true ∧
    (∀ z ∈ zs, (Lit.int .u8 z).wf = true) ∧ (0 < zs.length → ∃ b off, A = some ⟨b, off, none⟩ ∧ b < g ∧ ∀ j, j < zs.length → w.cell? ⟨b, off + j, none⟩ = some (.int .u8 (zs.getD j 0)))
theorem Cur.lt {w : World} {g : Nat} {zs : List Int} (h : Cur w g zs) : g < w.heap.size := by
  obtain ⟨_, _, _, _, hg, _⟩ := h
  exact (Array.getElem?_eq_some_iff.1 hg).1
theorem Cur.keep {w w' : World} {g : Nat} {zs : List Int} (h : Cur w g zs) (hk : ∀ k, k ≤ g → w'.heap[k]? = w.heap[k]?) : Cur w' g zs := by
  obtain ⟨A, c, i, x, hg, h1, h2, h3, h4, h5⟩ := h
  refine ⟨A, c, i, x, (hk g (Nat.le_refl _)).trans hg, h1, h2, h3, h4, fun hn => ?_⟩
  obtain ⟨b, off, hA, hb, hcell⟩ := h5 hn
  exact ⟨b, off, hA, hb, fun j hj => (World.cell?_of_block (a := ⟨b, off + j, none⟩) (hk b (by omega))).trans (hcell j hj)⟩
theorem Cur.below {w w' : World} {g : Nat} {zs : List Int} (h : Cur w g zs) (hb : Below w.heap.size w w') : Cur w' g zs :=
  h.keep fun k hk => hb.block k (Nat.lt_of_le_of_lt hk h.lt)
theorem Cur.drewN {w : World} {g : Nat} {zs : List Int} (h : Cur w g zs) (n : Nat) : Cur (w.drewN n) g zs := h

/-- Only block g may have turned; what is new lies behind. -/
def Only (g : Nat) (w w' : World) : Prop := w.grownBy w' (some g)
theorem Only.refl (g : Nat) (w : World) : Only g w w := World.grownBy.refl w _
theorem Only.trans {g : Nat} {a b c : World} (h : Only g a b) (k : Only g b c) : Only g a c :=
  ⟨k.os.trans h.os, k.tape.trans h.tape, k.output.trans h.output, Nat.le_trans h.size k.size, fun i hi hne => (k.block i (Nat.lt_of_lt_of_le hi h.size) hne).trans (h.block i hi hne)⟩
theorem Only.of_below {g : Nat} {a b : World} (h : Below a.heap.size a b) : Only g a b := ⟨h.os, h.tape, h.output, h.size, fun i hi _ => h.block i hi⟩
theorem Only.drewN {g : Nat} {a b : World} (h : Only g a b) (n : Nat) : Only g a (b.drewN n) := ⟨h.os, h.tape, h.output, h.size, h.block⟩
theorem Only.below {g : Nat} {w a b : World} (h : Below w.heap.size w a) (k : Only g a b) (hg : w.heap.size ≤ g) : Below w.heap.size w b :=
  h.grown k h.size fun j hj => by injection hj with hj; omega
theorem Only.own {g : Nat} {T : TypeId} {kd : IntKind} {w w' : World} {base : Nat} {v : Value} {zs : List Int} (k : Only g w w') (h : Own T kd w base v zs) (hg : g < base) : Own T kd w' base v zs :=
  h.grown k (by
    cases e : v.ownBlock with
    | none => exact .inl rfl
    | some j => right; intro hh; injection hh with hh; have := (h.lt j e).1; omega)

/-- What a drawing function leaves: a number with a property; the cursor; nothing else turned. -/
def DrewI (Q : Int → Prop) (g : Nat) (zs : List Int) (w : World) (e : Ending) (w' : World) : Prop :=
  ∃ n : Int, Q n ∧ e = .returned (.int .i64 n) ∧ Cur w' g zs ∧ Only g w w'
def DrewB (g : Nat) (zs : List Int) (w : World) (e : Ending) (w' : World) : Prop :=
  ∃ b : Bool, e = .returned (.bool b) ∧ Cur w' g zs ∧ Only g w w'

/-- A cursor with its fields. -/
def CurAt (w : World) (g : Nat) (zs : List Int) (A : Option Addr) (n c i : Nat) (h : Int) : Prop :=
  n = zs.length ∧ w.heap[g]? = some (.cells #[.slice A n c, .int .i64 i, .int .i64 h] 87 (0, 0)) ∧ i ≤ n ∧ n ≤ 1048576 ∧ (Lit.int .i64 h).wf = true ∧
    (∀ z ∈ zs, (Lit.int .u8 z).wf = true) ∧ (0 < n → ∃ b off, A = some ⟨b, off, none⟩ ∧ b < g ∧ ∀ j, j < n → w.cell? ⟨b, off + j, none⟩ = some (.int .u8 (zs.getD j 0)))
theorem Cur.at_ {w : World} {g : Nat} {zs : List Int} (h : Cur w g zs) : ∃ A n c i x, CurAt w g zs A n c i x := by
  obtain ⟨A, c, i, x, hg, h1, h2, h3, h4, h5⟩ := h
  exact ⟨A, zs.length, c, i, x, rfl, hg, h1, h2, h3, h4, h5⟩
theorem CurAt.cur {w : World} {g : Nat} {zs : List Int} {A : Option Addr} {n c i : Nat} {x : Int} (h : CurAt w g zs A n c i x) : Cur w g zs := by
  obtain ⟨rfl, hg, h1, h2, h3, h4, h5⟩ := h
  exact ⟨A, c, i, x, hg, h1, h2, h3, h4, h5⟩
theorem CurAt.set2 {w : World} {g : Nat} {zs : List Int} {A : Option Addr} {n c i : Nat} {x : Int} (h : CurAt w g zs A n c i x) (y : Int) (hy : (Lit.int .i64 y).wf = true) :
    CurAt (w.setCell ⟨g, 2, none⟩ (.int .i64 y)) g zs A n c i y ∧ Only g w (w.setCell ⟨g, 2, none⟩ (.int .i64 y)) := by
  obtain ⟨hn, hg, h1, h2, h3, h4, h5⟩ := h
  refine ⟨⟨hn, by simp [World.setCell, Array.getElem?_modify, hg], h1, h2, hy, h4, fun hp => ?_⟩, ⟨rfl, rfl, rfl, by simp, fun k _ hk => heap_setCell_other w ⟨g, 2, none⟩ k _ (fun e => hk (by simp [e]))⟩⟩
  obtain ⟨b, off, hA, hb, hc⟩ := h5 hp
  exact ⟨b, off, hA, hb, fun j hj => (World.cell?_setCell_other _ _ _ _ (fun e => by injection e; omega)).trans (hc j hj)⟩
theorem CurAt.set1 {w : World} {g : Nat} {zs : List Int} {A : Option Addr} {n c i : Nat} {x : Int} (h : CurAt w g zs A n c i x) (k : Nat) (hk : k ≤ n) :
    CurAt (w.setCell ⟨g, 1, none⟩ (.int .i64 k)) g zs A n c k x ∧ Only g w (w.setCell ⟨g, 1, none⟩ (.int .i64 k)) := by
  obtain ⟨hn, hg, h1, h2, h3, h4, h5⟩ := h
  refine ⟨⟨hn, by simp [World.setCell, Array.getElem?_modify, hg], hk, h2, h3, h4, fun hp => ?_⟩, ⟨rfl, rfl, rfl, by simp, fun k _ hk => heap_setCell_other w ⟨g, 1, none⟩ k _ (fun e => hk (by simp [e]))⟩⟩
  obtain ⟨b, off, hA, hb, hc⟩ := h5 hp
  exact ⟨b, off, hA, hb, fun j hj => (World.cell?_setCell_other _ _ _ _ (fun e => by injection e; omega)).trans (hc j hj)⟩
theorem CurAt.cells {w : World} {g : Nat} {zs : List Int} {A : Option Addr} {n c i : Nat} {x : Int} (h : CurAt w g zs A n c i x) :
    w.cell? ⟨g, 0, none⟩ = some (.slice A n c) ∧ w.cell? ⟨g, 1, none⟩ = some (.int .i64 i) ∧ w.cell? ⟨g, 2, none⟩ = some (.int .i64 x) ∧ (∀ j, w.frozen? ⟨g, j, none⟩ = false) := by
  obtain ⟨_, hg, _⟩ := h
  exact ⟨cell_of_row w g 0 _ _ (0, 0) hg, cell_of_row w g 1 _ _ (0, 0) hg, cell_of_row w g 2 _ _ (0, 0) hg, fun j => frozen_of_row w g j _ _ hg⟩

set_option maxHeartbeats 4000000 in
theorem spec_l1Byte (g : Nat) (zs : List Int) (w : World) (hc : Cur w g zs) :
    Calls Try.prog 67 #[.pointer (some ⟨g, 0, none⟩)] w (DrewI (fun n => 0 ≤ n ∧ n ≤ 255) g zs w) := by
  obtain ⟨A, n, c, i, h, hat⟩ := hc.at_
  obtain ⟨c0, c1, c2, fr⟩ := hat.cells
  have hin : i ≤ n := hat.2.2.1
  have hn20 : n ≤ 1048576 := hat.2.2.2.1
  have h5 := hat.2.2.2.2.2.2
  have hw' : (Lit.int .i64 (wrap64 (wrap64 (h * 6364136223846793005) + 1442695040888963407))).wf = true := wrap64_wf _
  have h2 := hat.set2 _ hw'
  have H2 := Lib.hid h2
  have H5 := Lib.hid h5
  clear hat h5 h2 hc hw'
  go_enter Try.func67, Try.ntmps67
  go_wp2
  obtain ⟨h', hh⟩ : ∃ h', h' = wrap64 (wrap64 (h * 6364136223846793005) + 1442695040888963407) := ⟨_, rfl⟩
  rw [← hh] at H2 ⊢
  clear hh
  obtain ⟨w1, hw1⟩ : ∃ w1, w1 = w.setCell ⟨g, 2, none⟩ (.int .i64 h') := ⟨_, rfl⟩
  have cb : i < n → ∃ b off x, A = some ⟨b, off, none⟩ ∧ w1.cell? ⟨b, off + i, none⟩ = some (.int .u8 x) := by
    intro hlt
    obtain ⟨b, off, hA, hb, hcell⟩ := H5.out (by omega)
    exact ⟨b, off, _, hA, by rw [hw1]; exact (World.cell?_setCell_other _ _ _ _ (fun e => by injection e; omega)).trans (hcell i hlt)⟩
  rw [← hw1] at H2 ⊢
  clear H5 c0 c1 c2 fr hw1
  obtain ⟨hat1, honly⟩ := H2.out
  obtain ⟨c0, c1, c2, fr⟩ := hat1.cells
  clear H2
  by_cases hlt : i < n
  · obtain ⟨b, off, x, rfl, cbx⟩ := cb hlt
    have i1 : (0 : Int) ≤ (i : Int) := by omega
    have i2 : (i : Int) < (n : Int) := by omega
    have HF : Hid (∀ m, CurAt ((w1.drewN m).setCell ⟨g, 1, none⟩ (.int .i64 ((i + 1 : Nat) : Int))) g zs (some ⟨b, off, none⟩) n c (i + 1) h' ∧ Only g (w1.drewN m) ((w1.drewN m).setCell ⟨g, 1, none⟩ (.int .i64 ((i + 1 : Nat) : Int)))) :=
      fun m => CurAt.set1 (w := w1.drewN m) hat1 (i + 1) hlt
    have HO := Lib.hid honly
    clear hat1 honly cb
    go_quiet (fail)
    go_wp2
    go_quiet (fail)
    go_wp2
    go_quiet (fail)
    go_wp2
    go_ret
    exact ⟨_, and255 _, rfl, (HF.out _).1.cur, (HO.out.drewN _).trans (HF.out _).2⟩
  · have HO := Lib.hid honly
    have HC := Lib.hid hat1.cur
    clear hat1 honly cb
    go_quiet (fail)
    go_wp2
    go_quiet (fail)
    go_wp2
    go_ret
    exact ⟨_, and255 _, rfl, (HC.out.drewN _).drewN _, (HO.out.drewN _).drewN _⟩

/-- 0 .. n-1; 0 where n is not above 0. -/
def BelowQ (n : Int) (x : Int) : Prop := 0 ≤ x ∧ (x < n ∨ (n ≤ 0 ∧ x = 0))
set_option maxHeartbeats 1000000 in
theorem spec_l1Below (g : Nat) (zs : List Int) (n : Int) (w : World) (hn : n ≤ 1099511627776) (hc : Cur w g zs) :
    Calls Try.prog 52 #[.pointer (some ⟨g, 0, none⟩), .int .i64 n] w (DrewI (BelowQ n) g zs w) := by
  by_cases h0 : n ≤ 0
  · go_enter Try.func52, Try.ntmps52
    go_wp2
    go_ret
    exact ⟨0, ⟨by omega, .inr ⟨h0, rfl⟩⟩, rfl, hc, Only.refl _ _⟩
  · by_cases h1 : n ≤ 256
    · go_enter Try.func52, Try.ntmps52
      go_wp2_with fail
      refine (spec_l1Byte _ _ _ hc).mono ?_
      rintro e w1 ⟨x, hx, rfl, hc1, ho1⟩
      obtain ⟨x0, x1⟩ := hx
      go_wp2_with fail
      go_ret
      have hm := Int.emod_nonneg x (show n ≠ 0 by omega)
      have hl := Int.emod_lt_of_pos x (show 0 < n by omega)
      exact ⟨x % n, ⟨hm, .inl hl⟩, rfl, hc1, ho1⟩
    · go_enter Try.func52, Try.ntmps52
      go_wp2_with fail
      refine (spec_l1Byte _ _ _ hc).mono ?_
      rintro e w1 ⟨x, hx, rfl, hc1, ho1⟩
      obtain ⟨x0, x1⟩ := hx
      go_wp2_with fail
      refine (spec_l1Byte _ _ _ hc1).mono ?_
      rintro e w2 ⟨y, hy, rfl, hc2, ho2⟩
      obtain ⟨y0, y1⟩ := hy
      go_wp2_with fail
      refine (spec_l1Byte _ _ _ hc2).mono ?_
      rintro e w3 ⟨z, hz, rfl, hc3, ho3⟩
      obtain ⟨z0, z1⟩ := hz
      go_wp2_with fail
      go_ret
      have hm := Int.emod_nonneg (x * 65536 + y * 256 + z) (show n ≠ 0 by omega)
      have hl := Int.emod_lt_of_pos (x * 65536 + y * 256 + z) (show 0 < n by omega)
      exact ⟨(x * 65536 + y * 256 + z) % n, ⟨hm, .inl hl⟩, rfl, hc3, (ho1.trans ho2).trans ho3⟩

theorem spec_l1Once (g : Nat) (zs : List Int) (n : Int) (w : World) (hn : n ≤ 1099511627776) (hc : Cur w g zs) :
    Calls Try.prog 59 #[.pointer (some ⟨g, 0, none⟩), .int .i64 n] w (DrewB g zs w) := by
  go_enter Try.func59, Try.ntmps59
  go_wp2_with fail
  refine (spec_l1Below _ _ _ _ hn hc).mono ?_
  rintro e w1 ⟨x, hx, rfl, hc1, ho1⟩
  go_wp2_with fail
  go_ret
  exact ⟨_, rfl, hc1, ho1⟩

set_option maxHeartbeats 1000000 in
theorem spec_l1Int (g : Nat) (zs : List Int) (va : Value) (xs : List Int) (w : World) (hc : Cur w g zs) (ha : Rd .i64 w va xs) (hp : 0 < xs.length) (hl : xs.length ≤ 1000000)
    (hfar : ∀ A c, va = .slice A xs.length c → ∀ b off, A = some ⟨b, off, none⟩ → b ≠ g) :
    Calls Try.prog 64 #[.pointer (some ⟨g, 0, none⟩), va] w (DrewI (· ∈ xs) g zs w) := by
  obtain ⟨A, c, rfl, h1, h2, h3⟩ := ha
  obtain ⟨b, off, rfl, hbw, hcell⟩ := h3 hp
  have hbg := hfar _ _ rfl b off rfl
  obtain ⟨n, hn⟩ : ∃ n, n = xs.length := ⟨_, rfl⟩
  have HN := Lib.hid hn
  rw [← hn] at hp hl hcell ⊢
  have HC := Lib.hid hcell
  clear hn hcell h3 hfar h1 h2
  go_enter Try.func64, Try.ntmps64
  go_wp2_with fail
  refine (spec_l1Below _ _ _ _ (by omega) hc).mono ?_
  rintro e w1 ⟨x, hx, rfl, hc1, ho1⟩
  have hx0 : 0 ≤ x := hx.1
  have hx1 : x < n := by rcases hx.2 with h | ⟨h, _⟩ <;> omega
  obtain ⟨j, rfl⟩ : ∃ j : Nat, x = (j : Int) := ⟨x.toNat, by omega⟩
  have hj : j < n := by omega
  have cb := (ho1.cell (HC.out j hj) (by simp; exact hbg))
  have hmem := getD_mem xs j (by rw [← HN.out]; exact hj)
  obtain ⟨y, hy⟩ : ∃ y, y = xs.getD j 0 := ⟨_, rfl⟩
  rw [← hy] at cb hmem
  clear hy hx
  go_wp2_with fail
  go_ret
  exact ⟨y, hmem, rfl, hc1, ho1⟩
/-- The same over a literal that lies behind the cursor's block. -/
theorem spec_l1Int_lit (g : Nat) (zs : List Int) (xs : List Int) (w : World) (hc : Cur w g zs) (hp : 0 < xs.length) (hl : xs.length ≤ 1000000) :
    Calls Try.prog 64 #[.pointer (some ⟨g, 0, none⟩), .slice (some ⟨w.heap.size, 0, none⟩) xs.length xs.length] (w.alloc (.cells (xs.map (Value.int .i64)).toArray 3)) (DrewI (· ∈ xs) g zs w) :=
  (spec_l1Int g zs _ xs _ (hc.below (Below.al (Below.refl _ _) _)) (Rd.lit 3 w xs (by unfold maxLen; omega)) hp hl
    (by intro A c h b off hA; simp only [Value.slice.injEq] at h; rw [← h.1] at hA; injection hA with hA; injection hA with hA; have := hc.lt; omega)).mono
    fun _ _ ⟨n, h1, h2, h3, h4⟩ => ⟨n, h1, h2, h3, (Only.of_below (Below.al (Below.refl _ _) _)).trans h4⟩

end Go.Proofs.Ytfenmicakmjelaa
