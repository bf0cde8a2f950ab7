/-
  Contracts: the input drawn for the law on temporary identities.
-/
import Derived.Test.YtgoelmhaobloaaaAlloc
import Derived.Deep.AppendLies
import Derived.RegionTactic
namespace Go.Proofs.Ytgoelmhaobloaaa
open Go.RowKit

theorem Only.ownP {g : Nat} {T : TypeId} {w w' : World} {base n : Nat} {v : Value} {zs : List Int} (k : Only g w w') (h : OwnP T w base v n zs) (hg : g < base) : OwnP T w' base v n zs :=
  World.ownsRow.kept h k (by
    cases e : v.ownBlock with
    | none => exact .inl rfl
    | some j => right; intro hh; injection hh with hh; have := (World.ownsRow.lt h j e).1; omega)
/-- What stands while identities in use are drawn: the row of the call's own, the cursor, the result's box, the identity's box. -/
structure AlInv (g N0 N1 : Nat) (z : List Int) (a b : Int) (w wr : World) (v : Value) (n : Nat) (xs : List Int) : Prop where
  own : OwnP 32 wr N1 v n xs
  cur : Cur wr g z
  res : wr.heap[w.heap.size]? = some (.cells #[.int .i64 0, .int .i64 0] 34 (0, 0))
  who : wr.heap[N0]? = some (.cells #[.int .i64 a, .int .i64 b] 34 (0, 0))
  bel : Below w.heap.size w wr
  o1 : w.heap.size < g
  o2 : g < N0
  o3 : N0 < N1
  o4 : N1 ≤ wr.heap.size
section
variable {g N0 N1 n : Nat} {z xs : List Int} {a b : Int} {w wr w' : World} {v : Value}
theorem AlInv.drew (h : AlInv g N0 N1 z a b w wr v n xs) : AlInv g N0 N1 z a b w wr.drew v n xs := ⟨h.own, h.cur, h.res, h.who, Below.drew h.bel, h.o1, h.o2, h.o3, h.o4⟩
theorem AlInv.only (h : AlInv g N0 N1 z a b w wr v n xs) (k : Only g wr w') (hc : Cur w' g z) : AlInv g N0 N1 z a b w w' v n xs :=
  ⟨k.ownP h.own (by have := h.o2; have := h.o3; omega), hc, k.blk h.res (by have := h.o1; omega), k.blk h.who (by have := h.o2; omega), Only.below h.bel k (by have := h.o1; omega), h.o1, h.o2, h.o3, Nat.le_trans h.o4 k.size⟩
theorem AlInv.below (h : AlInv g N0 N1 z a b w wr v n xs) (k : Below wr.heap.size wr w') : AlInv g N0 N1 z a b w w' v n xs :=
  ⟨h.own.below k, h.cur.below k, cells_of_below k h.res, cells_of_below k h.who, Below.next h.bel k, h.o1, h.o2, h.o3, Nat.le_trans h.o4 k.size⟩
theorem AlInv.al (h : AlInv g N0 N1 z a b w wr v n xs) (o : Obj) : AlInv g N0 N1 z a b w (wr.alloc o) v n xs := h.below (Below.al (Below.refl _ _) o)
theorem AlInv.grown {v' : Value} {n' : Nat} {xs' : List Int} (h : AlInv g N0 N1 z a b w wr v n xs) (hg : wr.grownBy w' v.ownBlock) (ho : OwnP 32 w' N1 v' n' xs') : AlInv g N0 N1 z a b w w' v' n' xs' := by
  have far : ∀ k, k < N1 → w'.heap[k]? = wr.heap[k]? := fun k hk => hg.block k (Nat.lt_of_lt_of_le hk h.o4) (fun e => by have := (World.ownsRow.lt h.own k e.symm).1; omega)
  have o1 := h.o1
  have o2 := h.o2
  have o3 := h.o3
  refine ⟨ho, h.cur.keep fun k hk => far k (by omega), (far _ (by omega)).trans h.res, (far _ (by omega)).trans h.who, ?_, h.o1, h.o2, h.o3, Nat.le_trans h.o4 hg.size⟩
  exact h.bel.grown hg h.bel.size fun k hk => by have := (World.ownsRow.lt h.own k hk).1; omega
end
theorem OwnP.st {T : TypeId} {w : World} {base n k i : Nat} {v : Value} {zs : List Int} (h : OwnP T w base v n zs) (hk : k < base) (u : Value) : OwnP T (w.setCell ⟨k, i, none⟩ u) base v n zs := ownsRow_setCell_below h (a := ⟨k, i, none⟩) hk u
theorem OwnP.drew1 {T : TypeId} {w : World} {base n : Nat} {v : Value} {zs : List Int} (h : OwnP T w base v n zs) : OwnP T w.drew base v n zs := h
theorem snoc2 (xs : List Int) (p q : Int) : xs.map (Value.int .i64) ++ [.int .i64 p, .int .i64 q] = (xs ++ [p, q]).map (Value.int .i64) := by simp
namespace M
theorem al_true {key p a b : Int} {zs : List Int} {n : Nat} (h : alOk key p a b zs n = true) : alX key p a b zs n = p ∧ 0 ≤ alY key p a b zs n ∧ alY key p a b zs n < 10000 ∧ hasP zs p (alY key p a b zs n) n = false := by
  cases hf : alF key p a b zs n with
  | none => rw [(al_none hf).1] at h; cases h
  | some k =>
    obtain ⟨_, h2, h3⟩ := al_some hf
    rw [h2, h3]
    have h4 := List.find?_some hf
    obtain ⟨q0, q1⟩ := cand_bd key a b k
    exact ⟨rfl, q0, q1, by simpa using h4⟩
theorem al_false {key p a b : Int} {zs : List Int} {n : Nat} (h : alOk key p a b zs n = false) : alX key p a b zs n = 0 ∧ alY key p a b zs n = 0 := by
  cases hf : alF key p a b zs n with
  | none => exact (al_none hf).2
  | some k => rw [(al_some hf).1] at h; cases h
end M
/-- A key, the pool 1, an identity, identities in use. -/
def DrewAl (w : World) (e : Ending) (w' : World) : Prop :=
  ∃ (k a b : Int) (v : Value) (n : Nat) (zs : List Int), e = .returned (.tuple #[.int .i64 k, .int .i64 1, .agg #[.int .i64 a, .int .i64 b], v]) ∧ InI 100 104 k ∧ (Lit.int .i64 a).wf = true ∧ (Lit.int .i64 b).wf = true ∧ RdP w' v n zs ∧ n ≤ 60 ∧ Below w.heap.size w w'

set_option maxRecDepth 100000 in
set_option maxHeartbeats 8000000 in
theorem spec_DrawAllocateTempID (va : Value) (zs : List Int) (w : World) (ha : Rd .u8 w va zs) (hw : ∀ z ∈ zs, (Lit.int .u8 z).wf = true) (hlen : zs.length ≤ 1048576) :
    Calls Try.prog 49 #[va] w (DrewAl w) := by
  obtain ⟨i0, hi, hz0, hz1, hz2⟩ := info_partsP infoTid
  have H0 := Lib.hid (newBlk w #[.int .i64 0, .int .i64 0] 34 w.heap.size rfl)
  have B0 := Below.al (Below.refl w.heap.size w) (.cells #[.int .i64 0, .int .i64 0] 34)
  have ha1 := ha.below B0
  go_enter Try.func49, Try.ntmps49
  go_wp2_with fail
  refine (spec_l1New _ zs _ ha1 hw hlen).mono ?_
  rintro e w0 ⟨g, rfl, hc0, hg, b0⟩
  replace H0 := Lib.hid (cells_of_below b0 H0.out)
  replace B0 := Below.next B0 b0
  have hg2 : w.heap.size < g := by have h9 := hg; simp at h9; omega
  clear b0 hg ha ha1 hw
  go_wp2_with fail
  refine (spec_l1Below g zs 5 _ (by omega) hc0).mono ?_
  rintro e w1 ⟨x, qx, rfl, hc1, ho1⟩
  obtain ⟨x0, x1⟩ := qx.bd (by omega)
  clear qx
  replace H0 := Lib.hid (Only.blk ho1 H0.out (by omega))
  replace B0 := Only.below B0 ho1 (by omega)
  clear ho1 hc0
  go_wp2_with fail
  refine (spec_l4Any g zs _ hc1).mono ?_
  rintro e w2 ⟨a, b, ⟨⟨a0, a1⟩, ⟨b0, b1⟩⟩, rfl, hc2, ho2⟩
  replace H0 := Lib.hid (Only.blk ho2 H0.out (by omega))
  replace B0 := Only.below B0 ho2 (by omega)
  clear ho2 hc1
  have hwa := WalkArith.wf_i64 (n := a) (by omega)
  have hwb := WalkArith.wf_i64 (n := b) (by omega)
  obtain ⟨key, hkey⟩ : ∃ key, key = 100 + x := ⟨_, rfl⟩
  have hk0 : 100 ≤ key := by omega
  have hk1 : key ≤ 104 := by omega
  have hwk := WalkArith.wf_i64 (n := key) (by omega)
  have HK := Lib.hid hkey
  clear hkey
  have hinv : AlInv g w2.heap.size (w2.heap.size + 1) zs a b w ((w2.alloc (.cells #[.int .i64 a, .int .i64 b] 34)).alloc (.cells #[] 32)) (.slice (some ⟨w2.heap.size + 1, 0, none⟩) 0 0) 0 [] := by
    have hl := hc2.lt
    refine ⟨?_, (hc2.al _).al _, oldBlk _ (oldBlk _ H0.out), oldBlk _ (newBlk _ _ _ _ rfl), Below.al (Below.al B0 _) _, hg2, hl, by omega, by simp⟩
    exact ⟨by simp, .inr ⟨w2.heap.size + 1, 0, #[], rfl, Nat.le_refl _, newBlk _ _ _ _ (by simp), Nat.le_refl _, by simp [maxLen], by simp, by simp⟩⟩
  have HI := Lib.hid hinv
  clear hinv H0 B0 hc2
  go_wp2_with fail
  rw [← HK.out]
  clear HK
  refine (spec_l1Below g zs 4 _ (by omega) HI.out.cur).mono ?_
  rintro e w3 ⟨y, qy, rfl, hc3, ho3⟩
  obtain ⟨y0, y1⟩ := qy.bd (by omega)
  clear qy
  replace HI := Lib.hid (HI.out.only ho3 hc3)
  clear hc3 ho3
  obtain ⟨m, rfl⟩ : ∃ m : Nat, y = (m : Int) := ⟨y.toNat, by omega⟩
  
  go_wp2_with fail
  go_loopw [9, 10] (fun v i wr => ∃ (k n : Nat) (xs : List Int), i = .int .i64 k ∧ n + k ≤ 3 ∧ AlInv g w2.heap.size (w2.heap.size + 1) zs a b w wr v n xs) (fun _ i _ => (intOf i).toNat)
  case atStart => exact ⟨m, 0, [], rfl, by omega, HI.out⟩
  case round =>
    clear HI
    obtain ⟨k, n, xs, rfl, hnk, hinv⟩ := hrel
    have HI := Lib.hid hinv
    clear hinv
    by_cases hk : k = 0
    · subst hk
      have hn3 : n ≤ 3 := by omega
      go_wp2_with fail
      refine (spec_l1Once g zs 16 _ (by omega) HI.out.cur).mono ?_
      rintro e w4 ⟨b4, rfl, hc4, ho4⟩
      replace HI := Lib.hid (HI.out.only ho4 hc4)
      clear hc4 ho4 hnk
      cases b4
      · have cR0 := cell_of HI.out.res 0
        have cR1 := cell_of HI.out.res 1
        have cW0 := cell_of HI.out.who 0
        have cW1 := cell_of HI.out.who 1
        simp only [List.getElem?_toArray, List.getElem?_cons_zero, List.getElem?_cons_succ] at cR0 cR1 cW0 cW1
        have fR := free_of HI.out.res
        have fW := free_of HI.out.who
        have sne := bxNe
        have q1 := HI.out.o1
        have q2 := HI.out.o2
        have q3 := HI.out.o3
        have dRW : ¬ w.heap.size = w2.heap.size := by omega
        have dWR : ¬ w2.heap.size = w.heap.size := by omega
        go_wp2_with fail
        go_region
        all_goals
          go_wp2_with fail
          refine bodyPost_ret (v := .tuple #[.int .i64 key, .int .i64 1, .agg #[.int .i64 a, .int .i64 b], u9]) (by simp [results, Try.results49, go_sem, *]) rfl ?_
          exact ⟨key, a, b, u9, n, xs, rfl, ⟨hk0, hk1⟩, hwa, hwb, OwnP.rd (T := 32) (base := w2.heap.size + 1) (by repeat (first | (with_reducible exact HI.out.own) | ((with_reducible refine OwnP.st ?_ ?_ _); (rotate_left); omega) | (with_reducible refine OwnP.drew1 ?_))), by omega, by repeat (first | (with_reducible exact HI.out.bel) | ((with_reducible refine Below.st ?_ _ _ _ ?_); (rotate_left); omega) | (with_reducible refine Below.drew ?_))⟩
      · go_wp2_with fail
        go_loopw [9, 11] (fun v i wr => ∃ (k n : Nat) (xs : List Int), i = .int .i64 k ∧ k ≤ 50 ∧ n ≤ 3 + k ∧ AlInv g w2.heap.size (w2.heap.size + 1) zs a b w wr v n xs) (fun _ i _ => 50 - (intOf i).toNat)
        case atStart => exact ⟨0, n, xs, rfl, by omega, by omega, HI.out⟩
        case round =>
          clear HI
          obtain ⟨k, n, xs, rfl, hk50, hnk, hinv⟩ := hrel
          have HI := Lib.hid hinv
          clear hinv hn3
          by_cases hlt : k < 50
          · have hwy := WalkArith.wf_i64 (n := (k : Int)) (by omega)
            have c0 := cell_of HI.out.who 0
            have c1 := cell_of HI.out.who 1
            simp only [List.getElem?_toArray, List.getElem?_cons_zero, List.getElem?_cons_succ] at c0 c1
            go_wp2_with fail
            refine (spec_TempIDCandidate key 1 a b (k : Int) _ hwk hwa hwb hwy).mono ?_
            rintro e w6 ⟨rfl, b6⟩
            have HI6 := Lib.hid (HI.out.below b6)
            obtain ⟨q, hq⟩ : ∃ q, q = M.cand key a b (k : Int) := ⟨_, rfl⟩
            rw [← hq]
            clear hq c0 c1
            go_wp2_with (at_builtin; refine wpList_append_lies _ rfl (.tmp 40) (.tmp 45) _ rfl (w2.heap.size + 1) 32 i0 _ 2 16 Try.underlying59 hi hz0 hz1 hz2 rfl (by omega) u9 n (xs.map (Value.int .i64)) rfl (HI6.out.al _).own ⟨w6.heap.size, 0, none⟩ 1 1 [.int .i64 1, .int .i64 q] rfl rfl (World.news_of_block (cs := #[.int .i64 1, .int .i64 q]) (t := 32) (fr := (0, 0)) (newBlk _ _ _ _ rfl)) (by simp [Value.oneCell']) (by omega) (by unfold maxLen; omega) (by omega) (by have := HI6.out.o4; simp; omega) (w6.heap.size + 1) (by simp) ?_; intro gg cap w7 hown7 hgrow hat hlt; rw [snoc2] at hown7; have HI7 := Lib.hid ((HI6.out.al _).grown hgrow hown7); clear hown7 hgrow hat hlt)
            clear HI6 HI b6
            go_wp2_with fail
            go_roundw
            case rel => exact ⟨k + 1, n + 1, xs ++ [1, q], by go_num, by omega, by omega, HI7.out⟩
            case measure => simp [intOf]; omega
          · obtain rfl : k = 50 := by omega
            have cR0 := cell_of HI.out.res 0
            have cR1 := cell_of HI.out.res 1
            have cW0 := cell_of HI.out.who 0
            have cW1 := cell_of HI.out.who 1
            simp only [List.getElem?_toArray, List.getElem?_cons_zero, List.getElem?_cons_succ] at cR0 cR1 cW0 cW1
            have fR := free_of HI.out.res
            have fW := free_of HI.out.who
            have sne := bxNe
            have q1 := HI.out.o1
            have q2 := HI.out.o2
            have q3 := HI.out.o3
            have dRW : ¬ w.heap.size = w2.heap.size := by omega
            have dWR : ¬ w2.heap.size = w.heap.size := by omega
            go_wp2_with fail
            go_region
            all_goals
              go_wp2_with fail
              refine bodyPost_ret (v := .tuple #[.int .i64 key, .int .i64 1, .agg #[.int .i64 a, .int .i64 b], u9]) (by simp [results, Try.results49, go_sem, *]) rfl ?_
              exact ⟨key, a, b, u9, n, xs, rfl, ⟨hk0, hk1⟩, hwa, hwb, OwnP.rd (T := 32) (base := w2.heap.size + 1) (by repeat (first | (with_reducible exact HI.out.own) | ((with_reducible refine OwnP.st ?_ ?_ _); (rotate_left); omega) | (with_reducible refine OwnP.drew1 ?_))), by omega, by repeat (first | (with_reducible exact HI.out.bel) | ((with_reducible refine Below.st ?_ _ _ _ ?_); (rotate_left); omega) | (with_reducible refine Below.drew ?_))⟩
    · have hkp : (0 : Int) < (k : Int) := by omega
      have c0 := cell_of HI.out.who 0
      have c1 := cell_of HI.out.who 1
      simp only [List.getElem?_toArray, List.getElem?_cons_zero, List.getElem?_cons_succ] at c0 c1
      have hcr := HI.out.drew.cur
      go_wp2_with fail
      go_region_held3 (fun w' => w'.cell? ⟨w2.heap.size, 0, none⟩ = some (.int .i64 a) ∧ w'.cell? ⟨w2.heap.size, 1, none⟩ = some (.int .i64 b)) (first | exact ⟨c0, c1⟩ | exact ⟨cell_of HI5.out.who 0, cell_of HI5.out.who 1⟩ | exact ⟨cell_of HI6.out.who 0, cell_of HI6.out.who 1⟩ | exact ⟨cell_of (HI6.out.al _).who 0, cell_of (HI6.out.al _).who 1⟩ | exact ⟨cell_of HI7.out.who 0, cell_of HI7.out.who 1⟩) (first
        | (go_at_call 60; (with_reducible refine (spec_l1Below g zs 4 _ (by omega) hcr).mono ?_); rintro e w5 ⟨y, qy, rfl, hc5, ho5⟩; obtain ⟨y0, y1⟩ := qy.bd (by omega); clear qy; have HI5 := Lib.hid (HI.out.drew.only ho5 hc5); have hwy := WalkArith.wf_i64 (n := y) (by omega))
        | (go_at_call 22; (with_reducible refine (spec_TempIDCandidate key 1 a b y _ hwk hwa hwb hwy).mono ?_); rintro e w6 ⟨rfl, b6⟩; have HI6 := Lib.hid (HI5.out.below b6); obtain ⟨q, hq⟩ : ∃ q, q = M.cand key a b y := ⟨_, rfl⟩; rw [← hq]; clear hq)
        | (refine step_append_lies _ (by rfl) _ _ _ (by rfl) (w2.heap.size + 1) 32 i0 _ 2 16 Try.underlying59 hi hz0 hz1 hz2 rfl (by omega) u9 n (xs.map (Value.int .i64)) (by rfl) (HI6.out.al _).own ⟨w6.heap.size, 0, none⟩ 1 1 [.int .i64 1, .int .i64 q] (by rfl) (by rfl) (World.news_of_block (cs := #[.int .i64 1, .int .i64 q]) (t := 32) (fr := (0, 0)) (newBlk _ _ _ _ rfl)) (by simp [Value.oneCell']) (by omega) (by unfold maxLen; omega) (by omega) (by have := HI6.out.o4; simp; omega) (w6.heap.size + 1) (by simp) ?_; intro gg cap w7 hown7 hgrow hat hlt; rw [snoc2] at hown7; have HI7 := Lib.hid ((HI6.out.al _).grown hgrow hown7); clear hown7 hgrow hat hlt))
      all_goals
        clear c0 c1 hcr HI5 HI6 hc5 ho5 b6
        go_wp2_with fail
        go_roundw
        case rel => exact ⟨k - 1, n + 1, xs ++ [1, q], by go_num, by omega, HI7.out⟩
        case measure => simp [intOf]; omega

end Go.Proofs.Ytgoelmhaobloaaa
