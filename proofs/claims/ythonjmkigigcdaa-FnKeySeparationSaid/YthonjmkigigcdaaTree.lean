/-
  Contracts: the key tree. A path is a struct with one slice of numbers.
-/
import Derived.Test.YthonjmkigigcdaaAuth
import Derived.Test.YthonjmkigigcdaaInts
namespace Go.Proofs.Ythonjmkigigcdaa
open Go.RowKit Go.ChangeShapes Go.WideShapes Go.ChangeAt Go.Deep

theorem list1 {α : Type} {l : List α} (h : l.length = 1) : ∃ a, l = [a] := by
  match l, h with
  | [a], _ => exact ⟨a, rfl⟩

/-- A path that came in by value. -/
theorem open_path {H : Type} {enc : TypeId × Value → H} {P : Program} {w : World} {base : Nat} {spare : Nat → Bool} {held : Bool} {t e : TypeId} {r : Reach} {b0 : Nat} {v : Value} {d : DataW H} {ps : List MemPlace} {f0 : Field}
    (hs : P.underlying t = some (.struct #[f0])) (hone : oneCellFields P #[f0] = true) (hC : P.cellsOf t = 1) (hsl : P.underlying f0.type = some (.slice e)) (he : P.underlying e = some (.int .i64)) (hce : P.cellsOf e = 1)
    (hsp : ∀ b, spare b = true) (hv : Value.okWide P w r b0 t v) (hd : DataW.Trod enc P w base spare held t v d ps) :
    ∃ u zs, v = .agg #[u] ∧ Rd .i64 w u zs ∧ ∀ n ∈ zs, (Lit.int .i64 n).wf = true := by
  obtain ⟨cs, rfl, hsz⟩ := okWide_struct hs hv
  obtain ⟨fuel, hf⟩ := hd
  obtain ⟨l⟩ := cs
  have hl1 : l.length = 1 := by simpa [hC] using hsz
  obtain ⟨y, rfl⟩ := list1 hl1
  obtain ⟨xs, n, _, _, _, hxl, hff⟩ := DataW.trod_struct hs hf
  obtain ⟨x0, rfl⟩ := list1 (by simpa using hxl)
  have t0 := hff 0 f0 rfl
  obtain ⟨ho, hk⟩ := hone_of hone 0 f0 rfl
  rw [ho, hk] at t0
  simp only [Value.cells, List.drop_zero, List.getElem?_cons_zero] at t0
  replace t0 : DataW.trod enc P w base spare held n f0.type [y] = some x0 := t0
  have tt := t0
  rcases open_ints hsl he hce t0 with ⟨hcs, _⟩ | ⟨x, l, c, zs, hcs, _⟩
  · simp at hcs
    subst hcs
    obtain ⟨zs, _, h1, h2⟩ := rd_of_trod (a := none) (len := 0) (cap := 0) hsl he hce hsp ⟨_, tt⟩
    exact ⟨_, zs, rfl, h1, h2⟩
  · simp at hcs
    subst hcs
    obtain ⟨zs, _, h1, h2⟩ := rd_of_trod (a := some x) (len := l) (cap := c) hsl he hce hsp ⟨_, tt⟩
    exact ⟨_, zs, rfl, h1, h2⟩

theorem blk_lo {T : TypeId} {kd : IntKind} {w : World} {base g : Nat} {v : Value} {zs : List Int} (h : Own T kd w base v zs) (hg : g < base) : v.ownBlock ≠ some g := fun e => by
  have := (h.lt g e).1; omega
theorem blk_hi {T : TypeId} {kd : IntKind} {w : World} {base g : Nat} {v : Value} {zs : List Int} (h : Own T kd w base v zs) (hg : w.heap.size ≤ g) : v.ownBlock ≠ some g := fun e => by
  have := (h.lt g e).2; omega
theorem cells_of_grown {a b : World} {v : Value} (h : a.grownBy b v.ownBlock) {g : Nat} (ap : v.ownBlock ≠ some g) {cs : Array Value} {t : TypeId} (hg : a.heap[g]? = some (.cells cs t (0, 0))) : b.heap[g]? = some (.cells cs t (0, 0)) :=
  (h.block g (Array.getElem?_eq_some_iff.1 hg).1 (fun e => ap e.symm)).trans hg
theorem grown_of_alloc {w w' : World} {o : Obj} {row : Option Nat} (h : (w.alloc o).grownBy w' row) : w.grownBy w' row :=
  ⟨h.os, h.tape, h.output, by have := h.size; simp at this; omega, fun k hk hne => (h.block k (by simp; omega) hne).trans (Below.heap_alloc w o k hk)⟩
theorem Own.old {T : TypeId} {kd : IntKind} {w : World} {base : Nat} {v : Value} {zs : List Int} (h : Own T kd w base v zs) (o : Obj) : Own T kd (w.alloc o) base v zs := h.below (Below.al (Below.refl _ _) o)
namespace M
def dk (k x : Int) : Int := pos1 (kh k [9, x])
theorem dk_bd (k x : Int) : 1 ≤ dk k x ∧ dk k x < 2147483647 := by
  obtain ⟨a, b⟩ := kh_bd k [9, x]
  exact pos1_bd _ a b
def kfp (k : Int) (l : List Int) : Int := l.foldl dk k
theorem kfp_nil (k : Int) : kfp k [] = k := rfl
theorem kfp_snoc (k : Int) (l : List Int) (x : Int) : kfp k (l ++ [x]) = dk (kfp k l) x := by simp [kfp]
theorem kfp_wf (k : Int) (l : List Int) (hk : (Lit.int .i64 k).wf = true) : (Lit.int .i64 (kfp k l)).wf = true := by
  induction l generalizing k with
  | nil => exact hk
  | cons a l ih =>
    have := dk_bd k a
    exact ih (dk k a) (WalkArith.wf_i64 (by omega))
end M

theorem impl_DeriveKey (k x : Int) (w : World) (hk : (Lit.int .i64 k).wf = true) (hx : (Lit.int .i64 x).wf = true) :
    Calls Try.prog 18 #[.int .i64 k, .int .i64 x] w fun e w' => e = .returned (.int .i64 (M.dk k x)) ∧ Below w.heap.size w w' := by
  unfold M.dk M.pos1
  cases hz : (M.kh k [9, x] == 0)
  all_goals
    have hz' := hz
    simp only [beq_iff_eq, beq_eq_false_iff_ne, ne_eq] at hz'
    simp only [hz', if_true, if_false]
    have HZ := Lib.hid hz'
    clear hz'
    go_enter Try.func18, Try.ntmps18
    go_wp2_with fail
    refine (impl_KeyedHash _ _ [9, x] _ hk (Rd.litN 3 _ [9, x] _ _ (by simp) rfl (by simp [maxLen])) (wf2 (by decide) hx)).mono ?_
    rintro e w' ⟨rfl, rfl⟩
    go_wp2
    go_ret
    exact ⟨rfl, (by repeat (first | (with_reducible exact Below.refl _ _) | (with_reducible refine Below.al ?_ _) | (with_reducible refine Below.dn ?_ _)))⟩
theorem spec_DeriveKey (k x : Int) (w : World) (hk : (Lit.int .i64 k).wf = true) (hx : (Lit.int .i64 x).wf = true) :
    Calls Try.prog 17 #[.int .i64 k, .int .i64 x] w fun e w' => e = .returned (.int .i64 (M.dk k x)) ∧ Below w.heap.size w w' := by
  obtain ⟨q0, q1⟩ := M.kh_bd k [9, x]
  have hp : M.max 1 (M.kh k [9, x]) = M.dk k x := M.max_pos1 _ q0
  go_enter Try.func17, Try.ntmps17
  go_wp2_with fail
  refine (spec_KeyedHash _ _ [9, x] _ hk (Rd.litN 3 _ [9, x] _ _ (by simp) rfl (by simp [maxLen])) (wf2 (by decide) hx) (by simp)).mono ?_
  rintro e u1 ⟨rfl, b1⟩
  go_wp2_with fail
  refine (spec_Max _ _ _).mono ?_
  rw [hp]
  rintro e w' ⟨rfl, rfl⟩
  go_wp2
  go_ret
  exact ⟨rfl, Below.next (by repeat (first | (with_reducible exact Below.refl _ _) | (with_reducible refine Below.al ?_ _) | (with_reducible refine Below.dn ?_ _))) b1⟩
set_option maxHeartbeats 1000000 in
theorem impl_deriveSteps (key : Int) (va : Value) (xs : List Int) (w : World) (hkey : (Lit.int .i64 key).wf = true) (ha : Rd .i64 w va xs) (hw : ∀ z ∈ xs, (Lit.int .i64 z).wf = true) :
    Calls Try.prog 47 #[.int .i64 key, va] w fun e w' => e = .returned (.int .i64 (M.kfp key xs)) ∧ Below w.heap.size w w' := by
  obtain ⟨A, c, rfl, h1, h2, h3⟩ := ha
  unfold maxLen at h2
  obtain ⟨n, hn⟩ : ∃ n, n = xs.length := ⟨_, rfl⟩
  rw [← hn] at h1 h3 ⊢
  have H3 := Lib.hid h3
  have HN := Lib.hid hn
  have HW := Lib.hid hw
  have HK := Lib.hid hkey
  clear h3 hn hw hkey
  go_enter Try.func47, Try.ntmps47
  go_wp2
  go_loopw [0, 9] (fun q i wr => ∃ k : Nat, k ≤ n ∧ i = .int .i64 k ∧ q = .int .i64 (M.kfp key (xs.take k)) ∧ Below w.heap.size w wr) (fun _ i _ => n - (intOf i).toNat)
  case atStart => exact ⟨0, Nat.zero_le _, rfl, rfl, Below.refl _ _⟩
  case round =>
    obtain ⟨k, hk, rfl, rfl, hbel⟩ := hrel
    by_cases hlt : k < n
    · obtain ⟨b, off, rfl, hbw, hcell⟩ := H3.out (by omega)
      have c1 := (hbel.cell (p := ⟨b, off + k, none⟩) hbw).trans (hcell k hlt)
      clear hcell H3
      have hkx : k < xs.length := by rw [← HN.out]; exact hlt
      have wx := HW.out _ (getD_mem xs k hkx)
      have hs := M.kfp_snoc key (xs.take k) (xs.getD k 0)
      rw [← take_succ_getD xs k hkx] at hs
      have HS := Lib.hid hs
      have wq := M.kfp_wf key (xs.take k) HK.out
      clear hs
      obtain ⟨x, hx⟩ : ∃ x, x = xs.getD k 0 := ⟨_, rfl⟩
      obtain ⟨a, hq⟩ : ∃ a, a = M.kfp key (xs.take k) := ⟨_, rfl⟩
      rw [← hx] at c1 wx HS
      rw [← hq] at wq HS ⊢
      clear hx hq
      go_wp2_with (go_at_call 18; refine (impl_DeriveKey _ _ _ wq wx).mono ?_; rintro e w' ⟨rfl, bb⟩)
      go_roundw
      case rel => exact ⟨k + 1, by omega, by go_num, by rw [HS.out], Below.next hbel bb⟩
      case measure => simp [intOf]; omega
    · obtain rfl : k = n := by omega
      have he : xs.take k = xs := by rw [HN.out]; exact List.take_length
      rw [he]
      clear he
      go_wp2
      go_ret
      exact ⟨rfl, hbel⟩
theorem impl_KeyForPath (key : Int) (va : Value) (xs : List Int) (w : World) (hkey : (Lit.int .i64 key).wf = true) (ha : Rd .i64 w va xs) (hw : ∀ z ∈ xs, (Lit.int .i64 z).wf = true) :
    Calls Try.prog 43 #[.int .i64 key, .agg #[va]] w fun e w' => e = .returned (.int .i64 (M.kfp key xs)) ∧ Below w.heap.size w w' := by
  obtain ⟨A, c, rfl, h1, h2, h3⟩ := id ha
  clear h3
  go_enter Try.func43, Try.ntmps43
  go_wp2_with fail
  refine (impl_deriveSteps _ _ xs _ hkey (ha.alloc _) hw).mono ?_
  rintro e u1 ⟨rfl, b1⟩
  go_wp2
  go_ret
  exact ⟨rfl, Below.next (by repeat (first | (with_reducible exact Below.refl _ _) | (with_reducible refine Below.al ?_ _) | (with_reducible refine Below.dn ?_ _))) b1⟩
set_option maxHeartbeats 1000000 in
theorem spec_KeyForPath (key : Int) (va : Value) (xs : List Int) (w : World) (hkey : (Lit.int .i64 key).wf = true) (ha : Rd .i64 w va xs) (hw : ∀ z ∈ xs, (Lit.int .i64 z).wf = true) :
    Calls Try.prog 42 #[.int .i64 key, .agg #[va]] w fun e w' => e = .returned (.int .i64 (M.kfp key xs)) ∧ Below w.heap.size w w' := by
  obtain ⟨A, c, rfl, h1, h2, h3⟩ := ha
  unfold maxLen at h2
  obtain ⟨n, hn⟩ : ∃ n, n = xs.length := ⟨_, rfl⟩
  rw [← hn] at h1 h3 ⊢
  have H3 := Lib.hid h3
  have HN := Lib.hid hn
  have HW := Lib.hid hw
  have HK := Lib.hid hkey
  have HP := Lib.hid (newBlk w #[.slice A n c] 24 w.heap.size rfl)
  clear h3 hn hw hkey
  go_enter Try.func42, Try.ntmps42
  go_wp2
  go_loopw [5, 6] (fun q i wr => ∃ k : Nat, k ≤ n ∧ i = .int .i64 k ∧ q = .int .i64 (M.kfp key (xs.take k)) ∧ Below (w.alloc (.cells #[.slice A n c] 24)).heap.size (w.alloc (.cells #[.slice A n c] 24)) wr) (fun _ i _ => n - (intOf i).toNat)
  case atStart => exact ⟨0, Nat.zero_le _, rfl, rfl, Below.refl _ _⟩
  case round =>
    obtain ⟨k, hk, rfl, rfl, hbel⟩ := hrel
    have c0 := cell_of (cells_of_below hbel HP.out) 0
    simp only [List.getElem?_toArray, List.getElem?_cons_zero] at c0
    by_cases hlt : k < n
    · obtain ⟨b, off, rfl, hbw, hcell⟩ := H3.out (by omega)
      have hb' := Below.next (Below.al (Below.refl w.heap.size w) (.cells #[.slice (some ⟨b, off, none⟩) n c] 24)) hbel
      have c1 := (hb'.cell (p := ⟨b, off + k, none⟩) hbw).trans (hcell k hlt)
      clear hcell H3 hb'
      have hkx : k < xs.length := by rw [← HN.out]; exact hlt
      have wx := HW.out _ (getD_mem xs k hkx)
      have hs := M.kfp_snoc key (xs.take k) (xs.getD k 0)
      rw [← take_succ_getD xs k hkx] at hs
      have HS := Lib.hid hs
      have wq := M.kfp_wf key (xs.take k) HK.out
      clear hs
      obtain ⟨x, hx⟩ : ∃ x, x = xs.getD k 0 := ⟨_, rfl⟩
      obtain ⟨a, hq⟩ : ∃ a, a = M.kfp key (xs.take k) := ⟨_, rfl⟩
      rw [← hx] at c1 wx HS
      rw [← hq] at wq HS ⊢
      clear hx hq
      go_wp2_with (go_at_call 17; refine (spec_DeriveKey _ _ _ wq wx).mono ?_; rintro e w' ⟨rfl, bb⟩)
      go_roundw
      case rel => exact ⟨k + 1, by omega, by go_num, by rw [HS.out], Below.next hbel bb⟩
      case measure => simp [intOf]; omega
    · obtain rfl : k = n := by omega
      have he : xs.take k = xs := by rw [HN.out]; exact List.take_length
      rw [he]
      clear he
      go_wp2
      go_ret
      exact ⟨rfl, Below.next (by repeat (first | (with_reducible exact Below.refl _ _) | (with_reducible refine Below.al ?_ _) | (with_reducible refine Below.dn ?_ _))) hbel⟩
theorem impl_RadioKeyPath (x : Int) (w : World) :
    Calls Try.prog 11 #[.int .i64 x] w fun e w' => ∃ A c, e = .returned (.agg #[.slice A 3 c]) ∧ Own 3 .i64 w' w.heap.size (.slice A 3 c) [1, 3, x] ∧ Below w.heap.size w w' := by
  have h := Own.lit (T := 3) (kd := .i64) (w.alloc (.cells #[.slice (some ⟨w.heap.size + 1, 0, none⟩) 3 3] 24)) w.heap.size [1, 3, x] (by simp) (by simp [maxLen])
  have HO := Lib.hid h
  clear h
  go_enter Try.func11, Try.ntmps11
  go_wp2
  refine bodyPost_ret (v := .agg #[.slice (some ⟨w.heap.size + 1, 0, none⟩) 3 3]) (by simp [results, Try.results11, go_sem]) rfl ⟨_, _, rfl, by simpa using HO.out, ?_⟩
  exact (by repeat (first | (with_reducible exact Below.refl _ _) | (with_reducible refine Below.st ?_ _ _ _ (by omega)) | (with_reducible refine Below.al ?_ _) | (with_reducible refine Below.dn ?_ _)))
theorem impl_SignalingKeyPath (w : World) :
    Calls Try.prog 16 #[] w fun e w' => ∃ A c, e = .returned (.agg #[.slice A 2 c]) ∧ Own 3 .i64 w' w.heap.size (.slice A 2 c) [1, 2] ∧ Below w.heap.size w w' := by
  have h := Own.lit (T := 3) (kd := .i64) (w.alloc (.cells #[.slice (some ⟨w.heap.size + 1, 0, none⟩) 2 2] 24)) w.heap.size [1, 2] (by simp) (by simp [maxLen])
  have HO := Lib.hid h
  clear h
  go_enter Try.func16, Try.ntmps16
  go_wp2
  refine bodyPost_ret (v := .agg #[.slice (some ⟨w.heap.size + 1, 0, none⟩) 2 2]) (by simp [results, Try.results16, go_sem]) rfl ⟨_, _, rfl, by simpa using HO.out, ?_⟩
  exact (by repeat (first | (with_reducible exact Below.refl _ _) | (with_reducible refine Below.st ?_ _ _ _ (by omega)) | (with_reducible refine Below.al ?_ _) | (with_reducible refine Below.dn ?_ _)))
theorem impl_RadioKey (k x : Int) (w : World) (hk : (Lit.int .i64 k).wf = true) (hx : (Lit.int .i64 x).wf = true) :
    Calls Try.prog 26 #[.int .i64 k, .int .i64 x] w fun e w' => e = .returned (.int .i64 (M.kfp k [1, 3, x])) ∧ Below w.heap.size w w' := by
  go_enter Try.func26, Try.ntmps26
  go_wp2_with fail
  refine (impl_RadioKeyPath _ _).mono ?_
  rintro e u1 ⟨A, c, rfl, o1, b1⟩
  go_wp2_with fail
  refine (impl_KeyForPath _ _ [1, 3, x] _ hk o1.rd (wf3 (by decide) (by decide) hx)).mono ?_
  rintro e u2 ⟨rfl, b2⟩
  go_wp2
  go_ret
  exact ⟨rfl, Below.next b1 b2⟩
theorem spec_RadioKeyPath (x : Int) (w : World) :
    Calls Try.prog 10 #[.int .i64 x] w fun e w' => ∃ A c, e = .returned (.agg #[.slice A 3 c]) ∧ Own 3 .i64 w' w.heap.size (.slice A 3 c) [1, 3, x] ∧ Below w.heap.size w w' := by
  have h := Own.lit (T := 3) (kd := .i64) (w.alloc (.cells #[.slice (some ⟨w.heap.size + 1, 0, none⟩) 3 3] 24)) w.heap.size [1, 3, x] (by simp) (by simp [maxLen])
  have HO := Lib.hid h
  clear h
  go_enter Try.func10, Try.ntmps10
  go_wp2
  refine bodyPost_ret (v := .agg #[.slice (some ⟨w.heap.size + 1, 0, none⟩) 3 3]) (by simp [results, Try.results10, go_sem]) rfl ⟨_, _, rfl, by simpa using HO.out, ?_⟩
  exact (by repeat (first | (with_reducible exact Below.refl _ _) | (with_reducible refine Below.st ?_ _ _ _ (by omega)) | (with_reducible refine Below.al ?_ _) | (with_reducible refine Below.dn ?_ _)))
theorem spec_SignalingKeyPath (w : World) :
    Calls Try.prog 15 #[] w fun e w' => ∃ A c, e = .returned (.agg #[.slice A 2 c]) ∧ Own 3 .i64 w' w.heap.size (.slice A 2 c) [1, 2] ∧ Below w.heap.size w w' := by
  have h := Own.lit (T := 3) (kd := .i64) (w.alloc (.cells #[.slice (some ⟨w.heap.size + 1, 0, none⟩) 2 2] 24)) w.heap.size [1, 2] (by simp) (by simp [maxLen])
  have HO := Lib.hid h
  clear h
  go_enter Try.func15, Try.ntmps15
  go_wp2
  refine bodyPost_ret (v := .agg #[.slice (some ⟨w.heap.size + 1, 0, none⟩) 2 2]) (by simp [results, Try.results15, go_sem]) rfl ⟨_, _, rfl, by simpa using HO.out, ?_⟩
  exact (by repeat (first | (with_reducible exact Below.refl _ _) | (with_reducible refine Below.st ?_ _ _ _ (by omega)) | (with_reducible refine Below.al ?_ _) | (with_reducible refine Below.dn ?_ _)))
theorem spec_RadioKey (k x : Int) (w : World) (hk : (Lit.int .i64 k).wf = true) (hx : (Lit.int .i64 x).wf = true) :
    Calls Try.prog 25 #[.int .i64 k, .int .i64 x] w fun e w' => e = .returned (.int .i64 (M.kfp k [1, 3, x])) ∧ Below w.heap.size w w' := by
  go_enter Try.func25, Try.ntmps25
  go_wp2_with fail
  refine (spec_RadioKeyPath _ _).mono ?_
  rintro e u1 ⟨A, c, rfl, o1, b1⟩
  go_wp2_with fail
  refine (spec_KeyForPath _ _ [1, 3, x] _ hk o1.rd (wf3 (by decide) (by decide) hx)).mono ?_
  rintro e u2 ⟨rfl, b2⟩
  go_wp2
  go_ret
  exact ⟨rfl, Below.next b1 b2⟩
theorem laws_eqKeyPath_same (va vb : Value) (xs : List Int) (w : World) (ha : Rd .i64 w va xs) (hb : Rd .i64 w vb xs) :
    Calls Try.prog 12 #[.agg #[va], .agg #[vb]] w fun e w' => e = .returned (.bool true) ∧ Below w.heap.size w w' := by
  obtain ⟨A, c, rfl, _, _, _⟩ := id ha
  obtain ⟨B, d, rfl, _, _, _⟩ := id hb
  go_enter Try.func12, Try.ntmps12
  go_wp2_with fail
  refine (laws_eqIntS_same _ _ _ _ ((ha.alloc _).alloc _) ((hb.alloc _).alloc _)).mono ?_
  rintro e w' ⟨rfl, m, rfl⟩
  go_wp2
  go_ret
  exact ⟨rfl, (by repeat (first | (with_reducible exact Below.refl _ _) | (with_reducible refine Below.al ?_ _) | (with_reducible refine Below.dn ?_ _)))⟩
theorem laws_markKeyPath (va : Value) (xs : List Int) (base : Nat) (k0 : Int) (w : World) (ha : Own 3 .i64 w base va xs) (hlen : xs.length ≤ 1099511627776) (hk0 : 0 ≤ k0) (hk1 : k0 ≤ 1099511627776) :
    Calls Try.prog 13 #[.agg #[va], .int .i64 k0] w fun e w' => e = .returned (.int .i64 (k0 + xs.length)) ∧ Own 3 .i64 w' base va (marksI k0 xs.length) ∧ w.grownBy w' va.ownBlock := by
  obtain ⟨A, c, rfl, _, _, _⟩ := id ha.rd
  go_enter Try.func13, Try.ntmps13
  go_wp2_with fail
  refine (laws_markIntS _ xs base _ _ (ha.old _) hlen hk0 hk1).mono ?_
  rintro e w' ⟨rfl, o1, g1⟩
  go_wp2
  go_ret
  exact ⟨rfl, o1, grown_of_alloc g1⟩
theorem laws_heldKeyPath (va : Value) (n : Nat) (k0 : Int) (w : World) (ha : Rd .i64 w va (marksI k0 n)) (hlen : n ≤ 1099511627776) (hk0 : 0 ≤ k0) (hk1 : k0 ≤ 1099511627776) :
    Calls Try.prog 14 #[.agg #[va], .int .i64 k0] w fun e w' => e = .returned (.int .i64 (k0 + n)) ∧ Below w.heap.size w w' := by
  obtain ⟨A, c, rfl, _, _, _⟩ := id ha
  go_enter Try.func14, Try.ntmps14
  go_wp2_with fail
  refine (laws_heldIntS _ n _ _ (ha.alloc _) hlen hk0 hk1).mono ?_
  rintro e w' ⟨rfl, rfl⟩
  go_wp2
  go_ret
  exact ⟨rfl, (by repeat (first | (with_reducible exact Below.refl _ _) | (with_reducible refine Below.al ?_ _) | (with_reducible refine Below.dn ?_ _)))⟩

end Go.Proofs.Ythonjmkigigcdaa
