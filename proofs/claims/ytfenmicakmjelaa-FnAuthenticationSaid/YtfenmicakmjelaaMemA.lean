/-
  Words: what a block of the call's own holds behind new blocks, draws and calls; literals as readings.
-/
import Derived.Test.YtfenmicakmjelaaWords
namespace Go.Proofs.Ytfenmicakmjelaa
open Go.RowKit

/-- Facts on a block that the call made before other calls: its cells stand. -/
theorem cells_of_below {a b : World} (h : Below a.heap.size a b) {g : Nat} {cs : Array Value} {t : TypeId} (hg : a.heap[g]? = some (.cells cs t (0, 0))) : b.heap[g]? = some (.cells cs t (0, 0)) :=
  (h.block g (Array.getElem?_eq_some_iff.1 hg).1).trans hg
theorem cell_of {w : World} {g : Nat} {cs : Array Value} {t : TypeId} (hg : w.heap[g]? = some (.cells cs t (0, 0))) (i : Nat) : w.cell? ⟨g, i, none⟩ = cs[i]? := cell_of_row w g i cs t (0, 0) hg
theorem newBlk (w : World) (cs : Array Value) (t : TypeId) (g : Nat) (hg : g = w.heap.size) : (w.alloc (.cells cs t)).heap[g]? = some (.cells cs t (0, 0)) := by subst hg; exact heap_alloc_new w _
theorem drewBlk {w : World} {g : Nat} {cs : Array Value} {t : TypeId} (h : w.heap[g]? = some (.cells cs t (0, 0))) : w.drew.heap[g]? = some (.cells cs t (0, 0)) := h
theorem oldBlk {w : World} {g : Nat} {cs : Array Value} {t : TypeId} (o : Obj) (h : w.heap[g]? = some (.cells cs t (0, 0))) : (w.alloc o).heap[g]? = some (.cells cs t (0, 0)) :=
  (Below.heap_alloc w o g (Array.getElem?_eq_some_iff.1 h).1).trans h
theorem free_of {w : World} {g : Nat} {cs : Array Value} {t : TypeId} (hg : w.heap[g]? = some (.cells cs t (0, 0))) (i : Nat) : w.frozen? ⟨g, i, none⟩ = false := frozen_of_row w g i cs t hg

/-- A literal's reading, at whatever block number the walk has written. -/
theorem Rd.litN {kd : IntKind} (T : TypeId) (w : World) (zs : List Int) (g n : Nat) (hg : g = w.heap.size) (hn : n = zs.length) (hm : zs.length ≤ maxLen) :
    Rd kd (w.alloc (.cells (zs.map (Value.int kd)).toArray T)) (.slice (some ⟨g, 0, none⟩) n n) zs := by
  subst hg; subst hn; exact Rd.lit T w zs hm
theorem wf2 {a b : Int} (ha : (Lit.int .i64 a).wf = true) (hb : (Lit.int .i64 b).wf = true) : ∀ z ∈ [a, b], (Lit.int .i64 z).wf = true := by
  intro z hz; simp at hz; rcases hz with rfl | rfl <;> assumption
theorem wf3 {a b c : Int} (ha : (Lit.int .i64 a).wf = true) (hb : (Lit.int .i64 b).wf = true) (hc : (Lit.int .i64 c).wf = true) : ∀ z ∈ [a, b, c], (Lit.int .i64 z).wf = true := by
  intro z hz; simp at hz; rcases hz with rfl | rfl | rfl <;> assumption


end Go.Proofs.Ytfenmicakmjelaa
