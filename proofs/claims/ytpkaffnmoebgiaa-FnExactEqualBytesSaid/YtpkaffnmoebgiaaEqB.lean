/-
  Contracts: byte slices compared by way of strings.
-/
import Derived.Test.YtpkaffnmoebgiaaWords
import Derived.Test.YtpkaffnmoebgiaaArith
import Derived.Laws.IdiomStrings
import Derived.Lib.BufferRead
namespace Go.Proofs.Ytpkaffnmoebgiaa
open Go.RowKit

/-- The string of a list of bytes. -/
def strOf (xs : List Int) : ByteArray := ⟨(xs.map fun n => UInt8.ofNat n.toNat).toArray⟩
theorem Rd.conv {P : Program} {w : World} {v : Value} {xs : List Int} (h : Rd .u8 w v xs) (hw : ∀ z ∈ xs, (Lit.int .u8 z).wf = true) (src dst e : TypeId)
    (hs : P.underlying src = some (.slice e)) (he : P.underlying e = some (.int .u8)) (hd : P.underlying dst = some .string) : (convert src dst v).run P w = .ok (.string (strOf xs)) w := by
  obtain ⟨A, c, rfl, h1, h2, h3⟩ := h
  rcases A with _ | x
  · have hx : xs = [] := by
      rcases xs with _ | ⟨y, ys⟩
      · rfl
      · obtain ⟨b, off, hb, _⟩ := h3 (by simp)
        cases hb
    subst hx
    exact Lib.run_convert_nil_bytes w src dst e c hs he hd
  · have hcell : ∀ j (hj : j < (xs.map fun n => UInt8.ofNat n.toNat).length), w.cell? (x.add j) = some (.int .u8 ((xs.map fun n => UInt8.ofNat n.toNat)[j].toNat : Int)) := by
      intro j hj
      have hj' : j < xs.length := by simpa using hj
      obtain ⟨b, off, hb, _, hc⟩ := h3 (by omega)
      injection hb with hb
      subst hb
      have bz := bounds_u8 (hw _ (getD_mem xs j hj'))
      have e1 : xs.getD j 0 = xs[j] := by rw [List.getD_eq_getElem?_getD, List.getElem?_eq_getElem hj']; rfl
      rw [e1] at bz
      rw [Addr.add_lit, hc j hj', e1]
      congr 2
      simp
      omega
    have := run_convert_bytes_back (P := P) w src dst e x c (xs.map fun n => UInt8.ofNat n.toNat) hs he hd hcell
    simpa [strOf] using this
theorem bytes_Equal (va vb : Value) (xs ys : List Int) (w : World) (ha : Rd .u8 w va xs) (hb : Rd .u8 w vb ys) (hx : ∀ z ∈ xs, (Lit.int .u8 z).wf = true) (hy : ∀ z ∈ ys, (Lit.int .u8 z).wf = true) :
    Calls Try.prog 44 #[va, vb] w fun e w' => e = .returned (.bool ((strOf xs).toList == (strOf ys).toList)) ∧ w = w' := by
  have c1 := Rd.conv (P := Try.prog) ha hx 22 9 5 Try.underlying22 Try.underlying5 Try.underlying9
  have c2 := Rd.conv (P := Try.prog) hb hy 22 9 5 Try.underlying22 Try.underlying5 Try.underlying9
  obtain ⟨A, c, rfl, _, _, _⟩ := id ha
  obtain ⟨B, d, rfl, _, _, _⟩ := id hb
  clear ha hb
  go_enter Try.func44, Try.ntmps44
  go_wp2
  go_ret
  exact ⟨rfl, rfl⟩
theorem spec_EqualBytes (va vb : Value) (xs ys : List Int) (w : World) (ha : Rd .u8 w va xs) (hb : Rd .u8 w vb ys) (hx : ∀ z ∈ xs, (Lit.int .u8 z).wf = true) (hy : ∀ z ∈ ys, (Lit.int .u8 z).wf = true) :
    Calls Try.prog 13 #[va, vb] w fun e w' => e = .returned (.bool ((strOf xs).toList == (strOf ys).toList)) ∧ w = w' := by
  have c1 := Rd.conv (P := Try.prog) ha hx 22 9 5 Try.underlying22 Try.underlying5 Try.underlying9
  have c2 := Rd.conv (P := Try.prog) hb hy 22 9 5 Try.underlying22 Try.underlying5 Try.underlying9
  obtain ⟨A, c, rfl, _, _, _⟩ := id ha
  obtain ⟨B, d, rfl, _, _, _⟩ := id hb
  clear ha hb
  go_enter Try.func13, Try.ntmps13
  go_wp2
  go_ret
  exact ⟨rfl, rfl⟩
theorem impl_EqualBytes (va vb : Value) (xs ys : List Int) (w : World) (ha : Rd .u8 w va xs) (hb : Rd .u8 w vb ys) (hx : ∀ z ∈ xs, (Lit.int .u8 z).wf = true) (hy : ∀ z ∈ ys, (Lit.int .u8 z).wf = true) :
    Calls Try.prog 15 #[va, vb] w fun e w' => e = .returned (.bool ((strOf xs).toList == (strOf ys).toList)) ∧ w = w' := by
  go_enter Try.func15, Try.ntmps15
  go_wp2_with fail
  refine (bytes_Equal _ _ _ _ _ ha hb hx hy).mono ?_
  rintro e w' ⟨rfl, rfl⟩
  go_wp2
  go_ret
  exact ⟨rfl, rfl⟩

end Go.Proofs.Ytpkaffnmoebgiaa
