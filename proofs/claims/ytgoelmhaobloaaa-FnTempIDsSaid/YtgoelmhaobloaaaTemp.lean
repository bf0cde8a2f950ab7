/-
  Contracts: candidates for temporary identities.
-/
import Derived.Test.YtgoelmhaobloaaaHash
import Derived.Test.YtgoelmhaobloaaaMemA
import Derived.Test.YtgoelmhaobloaaaIds
namespace Go.Proofs.Ytgoelmhaobloaaa
open Go.RowKit

namespace M
def cand (key a b n : Int) : Int := kh key [a, b, n] % 10000
theorem cand_bd (key a b n : Int) : 0 ≤ cand key a b n ∧ cand key a b n < 10000 := by unfold cand; omega
end M

set_option maxHeartbeats 2000000 in
theorem impl_TempIDCandidate (key p a b n : Int) (w : World) (hk : (Lit.int .i64 key).wf = true) (ha : (Lit.int .i64 a).wf = true) (hb : (Lit.int .i64 b).wf = true) (hn : (Lit.int .i64 n).wf = true) :
    Calls Try.prog 24 #[.int .i64 key, .int .i64 p, .agg #[.int .i64 a, .int .i64 b], .int .i64 n] w fun e w' => e = .returned (.agg #[.int .i64 p, .int .i64 (M.cand key a b n)]) ∧ Below w.heap.size w w' := by
  obtain ⟨q0, q1⟩ := M.kh_bd key [a, b, n]
  have B0 := Below.refl w.heap.size w
  go_enter Try.func24, Try.ntmps24
  go_wp2_with fail
  refine (impl_KeyedHash _ _ [a, b, n] _ hk (Rd.litN 3 _ [a, b, n] _ _ (by simp) rfl (by simp [maxLen])) (wf3 ha hb hn)).mono ?_
  rintro e w' ⟨rfl, rfl⟩
  go_wp2
  refine bodyPost_ret (v := .agg #[.int .i64 p, .int .i64 (M.cand key a b n)]) (by simp [results, Try.results24, go_sem]; rfl) rfl ⟨rfl, ?_⟩
  exact (by repeat (first | (with_reducible exact Below.refl _ _) | (with_reducible refine Below.al ?_ _) | (with_reducible refine Below.dn ?_ _)))

set_option maxHeartbeats 2000000 in
theorem spec_TempIDCandidate (key p a b n : Int) (w : World) (hk : (Lit.int .i64 key).wf = true) (ha : (Lit.int .i64 a).wf = true) (hb : (Lit.int .i64 b).wf = true) (hn : (Lit.int .i64 n).wf = true) :
    Calls Try.prog 22 #[.int .i64 key, .int .i64 p, .agg #[.int .i64 a, .int .i64 b], .int .i64 n] w fun e w' => e = .returned (.agg #[.int .i64 p, .int .i64 (M.cand key a b n)]) ∧ Below w.heap.size w w' := by
  obtain ⟨q0, q1⟩ := M.kh_bd key [a, b, n]
  have B0 := Below.refl w.heap.size w
  go_enter Try.func22, Try.ntmps22
  have HP := Lib.hid (newBlk (w) #[.int .i64 a, .int .i64 b] 34 (w.heap.size) (by simp))
  replace B0 := Below.al B0 (.cells #[.int .i64 a, .int .i64 b] 34)
  replace HP := Lib.hid (oldBlk (.cells #[.int .i64 0, .int .i64 0] 32) HP.out)
  have HQ := Lib.hid (newBlk ((w).alloc (.cells #[.int .i64 a, .int .i64 b] 34)) #[.int .i64 0, .int .i64 0] 32 (w.heap.size + 1) (by simp))
  replace B0 := Below.al B0 (.cells #[.int .i64 0, .int .i64 0] 32)
  replace HP := Lib.hid (oldBlk (.cells #[.int .i64 a, .int .i64 b, .int .i64 n] 3) HP.out)
  replace HQ := Lib.hid (oldBlk (.cells #[.int .i64 a, .int .i64 b, .int .i64 n] 3) HQ.out)
  have HL := Lib.hid (newBlk (((w).alloc (.cells #[.int .i64 a, .int .i64 b] 34)).alloc (.cells #[.int .i64 0, .int .i64 0] 32)) #[.int .i64 a, .int .i64 b, .int .i64 n] 3 (w.heap.size + 1 + 1) (by simp))
  replace B0 := Below.al B0 (.cells #[.int .i64 a, .int .i64 b, .int .i64 n] 3)
  go_wp2_with fail
  refine (spec_KeyedHash _ _ [a, b, n] _ hk (Rd.litN 3 _ [a, b, n] _ _ (by simp) rfl (by simp [maxLen])) (wf3 ha hb hn) (by simp)).mono ?_
  rintro e u1 ⟨rfl, b1⟩
  replace HP := Lib.hid (cells_of_below b1 HP.out)
  replace HQ := Lib.hid (cells_of_below b1 HQ.out)
  replace HL := Lib.hid (cells_of_below b1 HL.out)
  replace B0 := Below.next B0 b1
  clear b1
  have cQ0 := cell_of HQ.out 0
  have cQ1 := cell_of HQ.out 1
  simp only [List.getElem?_toArray, List.getElem?_cons_zero, List.getElem?_cons_succ] at cQ0 cQ1
  have fQ := free_of HQ.out
  have hm : M.mod (M.kh key [a, b, n]) 10000 = M.cand key a b n := M.mod_in (by omega)
  go_wp2_with fail
  refine (spec_Mod _ _ _ (WalkArith.wf_i64 (by omega)) (by decide)).mono ?_
  rw [hm]
  rintro e w' ⟨rfl, rfl⟩
  go_wp2
  have hz : w.heap.size + 1 < u1.heap.size := (Array.getElem?_eq_some_iff.1 HQ.out).1
  refine bodyPost_ret (v := .agg #[.int .i64 p, .int .i64 (M.cand key a b n)]) (by simp [results, Try.results22, go_sem, *]) rfl ⟨rfl, ?_⟩
  exact (by repeat (first | (with_reducible exact B0) | (with_reducible refine Below.st ?_ _ _ _ (by omega)) | (with_reducible refine Below.al ?_ _) | (with_reducible refine Below.dn ?_ _) | (with_reducible refine Below.drew ?_)))

end Go.Proofs.Ytgoelmhaobloaaa
