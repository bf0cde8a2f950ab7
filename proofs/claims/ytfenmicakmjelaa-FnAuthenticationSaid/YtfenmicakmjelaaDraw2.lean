/-
  Contracts: the drawing functions over the cursor, second part: a new cursor; numbers, bytes and lists drawn.
-/
import Derived.Test.YtfenmicakmjelaaDraw
import Derived.Test.YtfenmicakmjelaaMemA
namespace Go.Proofs.Ytfenmicakmjelaa
open Go.RowKit

theorem infoByteDr : (Try.prog.info? 5).map (fun i => (i.zero, i.size, i.bytes)) = some (some (.int .u8 0), 1, 1) := by kernel_rfl
theorem infoIntDr : (Try.prog.info? 3).map (fun i => (i.zero, i.size, i.bytes)) = some (some (.int .i64 0), 1, 8) := by kernel_rfl
theorem mem_wf {xs : List Int} (h : xs.all (fun z => (Lit.int .i64 z).wf) = true) {n : Int} (hn : n ∈ xs) : (Lit.int .i64 n).wf = true := List.all_eq_true.1 h n hn
theorem mem_in {xs : List Int} {lo hi : Int} (h : xs.all (fun z => decide (lo ≤ z) && decide (z ≤ hi)) = true) {n : Int} (hn : n ∈ xs) : lo ≤ n ∧ n ≤ hi := by simpa using List.all_eq_true.1 h n hn
def WfI (n : Int) : Prop := (Lit.int .i64 n).wf = true
def InI (lo hi : Int) (n : Int) : Prop := lo ≤ n ∧ n ≤ hi
theorem Cur.al {w : World} {g : Nat} {zs : List Int} (h : Cur w g zs) (o : Obj) : Cur (w.alloc o) g zs := h.below (Below.al (Below.refl _ _) o)
theorem Only.al {g : Nat} {w w' : World} (h : Only g w w') (o : Obj) : Only g w (w'.alloc o) := h.trans (Only.of_below (Below.al (Below.refl _ _) o))
theorem Cur.grown {T : TypeId} {kd : IntKind} {w w' : World} {g base : Nat} {zs : List Int} {v : Value} {xs : List Int} (h : Cur w g zs) (hg : w.grownBy w' v.ownBlock) (ho : Own T kd w base v xs) (hb : g < base) : Cur w' g zs :=
  h.keep fun k hk => hg.block k (Nat.lt_of_le_of_lt hk h.lt) (fun e => by have := (ho.lt k e.symm).1; omega)
theorem Only.grown {T : TypeId} {kd : IntKind} {a w w' : World} {g base : Nat} {v : Value} {xs : List Int} (h : Only g a w) (hg : w.grownBy w' v.ownBlock) (ho : Own T kd w base v xs) (hb : a.heap.size ≤ base) : Only g a w' :=
  ⟨hg.os.trans h.os, hg.tape.trans h.tape, hg.output.trans h.output, Nat.le_trans h.size hg.size, fun k hk hne => (hg.block k (Nat.lt_of_lt_of_le hk h.size) (fun e => by have := (ho.lt k e.symm).1; omega)).trans (h.block k hk hne)⟩
theorem mul_bd {a b A B : Int} (ha : 0 ≤ a) (hA : a ≤ A) (hb : 0 ≤ b) (hB : b ≤ B) : 0 ≤ a * b ∧ a * b ≤ A * B :=
  ⟨Int.mul_nonneg ha hb, Int.le_trans (Int.mul_le_mul_of_nonneg_right hA hb) (Int.mul_le_mul_of_nonneg_left hB (by omega))⟩
theorem BelowQ.bd {n x : Int} (h : BelowQ n x) (hn : 0 < n) : 0 ≤ x ∧ x ≤ n - 1 := by
  obtain ⟨h0, h1⟩ := h
  omega

/-- Bytes drawn: n of them, in a row of the call's own. -/
def DrewBs (n : Nat) (g : Nat) (zs : List Int) (w : World) (e : Ending) (w' : World) : Prop :=
  ∃ v xs, e = .returned v ∧ Own 5 .u8 w' w.heap.size v xs ∧ xs.length = n ∧ (∀ z ∈ xs, (Lit.int .u8 z).wf = true) ∧ Cur w' g zs ∧ Only g w w'
/-- A list of at most n numbers drawn, each with a property. -/
def DrewL (Q : Int → Prop) (n : Nat) (g : Nat) (zs : List Int) (w : World) (e : Ending) (w' : World) : Prop :=
  ∃ v xs, e = .returned v ∧ Own 3 .i64 w' w.heap.size v xs ∧ xs.length ≤ n ∧ (∀ z ∈ xs, Q z) ∧ Cur w' g zs ∧ Only g w w'

/-- A new cursor over the bytes zs. -/
def MadeCur (zs : List Int) (w : World) (e : Ending) (w' : World) : Prop :=
  ∃ g, e = .returned (.pointer (some ⟨g, 0, none⟩)) ∧ Cur w' g zs ∧ w.heap.size ≤ g ∧ Below w.heap.size w w'
set_option maxRecDepth 100000 in
set_option maxHeartbeats 2000000 in
theorem spec_l1New (va : Value) (zs : List Int) (w : World) (ha : Rd .u8 w va zs) (hw : ∀ z ∈ zs, (Lit.int .u8 z).wf = true) (hlen : zs.length ≤ 1048576) :
    Calls Try.prog 42 #[va] w (MadeCur zs w) := by
  obtain ⟨A, c, rfl, h1, h2, h3⟩ := ha
  have HM : ∀ (h : Int), (Lit.int .i64 h).wf = true → MadeCur zs w (.returned (.pointer (some ⟨w.heap.size, 0, none⟩))) (w.alloc (.cells #[.slice A zs.length c, .int .i64 0, .int .i64 h] 87)) := by
    intro h hh
    refine ⟨_, rfl, ⟨A, c, 0, h, heap_alloc_new w _, by omega, hlen, hh, hw, fun hp => ?_⟩, Nat.le_refl _, Below.al (Below.refl _ _) _⟩
    obtain ⟨b, off, hA, hb, hcell⟩ := h3 hp
    exact ⟨b, off, hA, hb, fun j hj => (World.cell?_alloc_lt w _ _ hb).trans (hcell j hj)⟩
  obtain ⟨n, hn⟩ : ∃ n, n = zs.length := ⟨_, rfl⟩
  have HN := Lib.hid hn
  have H3 := Lib.hid h3
  have HW := Lib.hid hw
  rw [← hn] at hlen HM H3 ⊢
  have HH := Lib.hid HM
  clear hn h3 hw HM h1 h2
  go_enter Try.func42, Try.ntmps42
  go_wp2
  go_loop [3, 4] (fun u i => ∃ (k : Nat) (h : Int), k ≤ n ∧ i = .int .i64 k ∧ u = .int .i64 h ∧ 0 ≤ h ∧ h ≤ 1073741823) (fun _ i => n - (intOf i).toNat)
  case atStart => exact ⟨0, _, Nat.zero_le _, rfl, rfl, by omega, by omega⟩
  case round =>
    obtain ⟨k, h, hk, rfl, rfl, h0, h1⟩ := hrel
    have HE := HH.out h (WalkArith.wf_i64 (by omega))
    have HE' := Lib.hid HE
    clear HE HH
    by_cases hlt : k < n
    · by_cases h4 : k < 4000
      · obtain ⟨b, off, rfl, hbw, hcell⟩ := H3.out (by omega)
        have c1 := hcell k hlt
        obtain ⟨x0, x1⟩ := bounds_u8 (HW.out _ (getD_mem zs k (by rw [← HN.out]; exact hlt)))
        clear hcell H3 HW HN HE'
        obtain ⟨x, hx⟩ : ∃ x, x = zs.getD k 0 := ⟨_, rfl⟩
        rw [← hx] at c1 x0 x1
        clear hx
        go_wp2
        go_round
        case rel => exact ⟨k + 1, _, by omega, by go_num, rfl, (and3fff _).1, (and3fff _).2⟩
        case measure => simp [intOf]; omega
      · clear H3 HW HN
        go_wp2
        go_ret
        exact HE'.out
    · clear H3 HW HN
      go_wp2
      go_ret
      exact HE'.out






set_option maxRecDepth 100000 in
set_option maxHeartbeats 4000000 in
theorem spec_l3Word (g : Nat) (zs : List Int) (w : World) (hc : Cur w g zs) :
    Calls Try.prog 43 #[.pointer (some ⟨g, 0, none⟩)] w (DrewI (InI (-1) 2147483648) g zs w) := by
  go_enter Try.func43, Try.ntmps43
  go_wp2_with fail
  refine (spec_l1Once _ _ 10 _ (by omega) hc).mono ?_
  rintro e w1 ⟨b, rfl, hc1, ho1⟩
  cases b
  · go_wp2_with fail
    refine (spec_l1Once _ _ 4 _ (by omega) hc1).mono ?_
    rintro e w2 ⟨d, rfl, hc2, ho2⟩
    cases d
    · go_wp2_with fail
      refine (spec_l1Below _ _ 1000000 _ (by omega) hc2).mono ?_
      rintro e w3 ⟨y, qy, rfl, hc3, ho3⟩
      obtain ⟨y0, y1⟩ := qy.bd (by omega)
      clear qy
      go_wp2_with fail
      refine (spec_l1Below _ _ 2000 _ (by omega) hc3).mono ?_
      rintro e w4 ⟨z, qz, rfl, hc4, ho4⟩
      obtain ⟨z0, z1⟩ := qz.bd (by omega)
      clear qz
      obtain ⟨m0, m1⟩ := mul_bd y0 y1 z0 z1
      go_wp2_with fail
      go_ret
      exact ⟨y * z, ⟨by omega, by omega⟩, rfl, hc4, (((ho1.trans ho2).trans ho3).trans ho4)⟩
    · go_wp2_with fail
      refine (spec_l1Int_lit _ _ [0, 1, 2147483646] _ hc2 (by decide) (by decide)).mono ?_
      rintro e w3 ⟨y, qy, rfl, hc3, ho3⟩
      go_wp2_with fail
      go_ret
      exact ⟨y, mem_in (by decide) qy, rfl, hc3, ((ho1.trans ho2).trans ho3)⟩
  · go_wp2_with fail
    refine (spec_l1Int_lit _ _ [-1, 2147483647, 2147483648] _ hc1 (by decide) (by decide)).mono ?_
    rintro e w2 ⟨y, qy, rfl, hc2, ho2⟩
    go_wp2_with fail
    go_ret
    exact ⟨y, mem_in (by decide) qy, rfl, hc2, (ho1.trans ho2)⟩

set_option maxRecDepth 100000 in
set_option maxHeartbeats 1000000 in
theorem spec_l5Key (g : Nat) (zs : List Int) (w : World) (hc : Cur w g zs) :
    Calls Try.prog 72 #[.pointer (some ⟨g, 0, none⟩)] w (DrewI (InI 100 105) g zs w) := by
  go_enter Try.func72, Try.ntmps72
  go_wp2_with fail
  refine (spec_l1Below _ _ 6 _ (by omega) hc).mono ?_
  rintro e w1 ⟨x, qx, rfl, hc1, ho1⟩
  obtain ⟨x0, x1⟩ := qx.bd (by omega)
  clear qx
  go_wp2_with fail
  go_ret
  exact ⟨100 + x, ⟨by omega, by omega⟩, rfl, hc1, ho1⟩

set_option maxRecDepth 100000 in
set_option maxHeartbeats 1000000 in
theorem spec_l5Seq (g : Nat) (zs : List Int) (w : World) (hc : Cur w g zs) :
    Calls Try.prog 44 #[.pointer (some ⟨g, 0, none⟩)] w (DrewI (InI (-1) 1000000) g zs w) := by
  go_enter Try.func44, Try.ntmps44
  go_wp2_with fail
  refine (spec_l1Once _ _ 6 _ (by omega) hc).mono ?_
  rintro e w1 ⟨b, rfl, hc1, ho1⟩
  cases b
  · go_wp2_with fail
    refine (spec_l1Below _ _ 40 _ (by omega) hc1).mono ?_
    rintro e w2 ⟨y, qy, rfl, hc2, ho2⟩
    obtain ⟨y0, y1⟩ := qy.bd (by omega)
    clear qy
    go_wp2_with fail
    go_ret
    exact ⟨y, ⟨by omega, by omega⟩, rfl, hc2, (ho1.trans ho2)⟩
  · go_wp2_with fail
    refine (spec_l1Int_lit _ _ [0, 999999, 1000000, -1, 998999] _ hc1 (by decide) (by decide)).mono ?_
    rintro e w2 ⟨y, qy, rfl, hc2, ho2⟩
    go_wp2_with fail
    go_ret
    exact ⟨y, mem_in (by decide) qy, rfl, hc2, (ho1.trans ho2)⟩

end Go.Proofs.Ytfenmicakmjelaa
