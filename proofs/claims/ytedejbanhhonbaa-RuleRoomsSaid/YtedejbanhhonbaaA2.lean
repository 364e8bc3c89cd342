/- Whole transfers and accounts loaded and stored in one step, guarded or not: the library's laws on whole rows, at this program's two structs. -/
import Derived.Test.YtedejbanhhonbaaA1
import Derived.Deep.WholeRow
import Derived.BigFrame
namespace Go.Proofs.Ytedejbanhhonbaa
open Go.RowKit

theorem info26 : (Try.prog.info? 26).map (·.size) = some 16 := by kernel_rfl
theorem info39 : (Try.prog.info? 39).map (·.size) = some 46 := by kernel_rfl

section
variable {ops : Array Oper} {rest : List Oper} {o : Oper} {a : Act} {w : World} {Q : Exit → Act → World → Prop}
/-- A whole transfer out of its block. -/
theorem load_T {x : Operand} {g : Nat} {cs : Array Value} (hg : w.heap[g]? = some (.cells cs 26 (0, 0))) (ho : o.op = .load 26 x) (hw : Region.wanted o (yielded ops a.tmps) = true)
    (hx : a.eval x = .pointer (some ⟨g, 0, none⟩)) (hs : cs.size = 16) (h : wpList Try.prog ops Q rest (a.put o.dst (.agg cs)) w) : wpList Try.prog ops Q (o :: rest) a w :=
  BigFrame.wpList_want hw fun _ hK => wp_load_row 26 x ho g hx 26 cs (0, 0) _ hg Try.underlying26 rfl (by rw [info26, hs]) (hK _ _ h)
/-- A whole account out of its block. -/
theorem load_A {x : Operand} {g : Nat} {cs : Array Value} (hg : w.heap[g]? = some (.cells cs 39 (0, 0))) (ho : o.op = .load 39 x) (hw : Region.wanted o (yielded ops a.tmps) = true)
    (hx : a.eval x = .pointer (some ⟨g, 0, none⟩)) (hs : cs.size = 46) (h : wpList Try.prog ops Q rest (a.put o.dst (.agg cs)) w) : wpList Try.prog ops Q (o :: rest) a w :=
  BigFrame.wpList_want hw fun _ hK => wp_load_row 39 x ho g hx 39 cs (0, 0) _ hg Try.underlying39 rfl (by rw [info39, hs]) (hK _ _ h)
/-- A whole transfer, or account, into the block that was made last. -/
theorem store_T {x y : Operand} {cs old : Array Value} (ho : o.op = .store 26 x y) (hw : Region.wanted o (yielded ops a.tmps) = true)
    (hx : a.eval x = .pointer (some ⟨w.heap.size, 0, none⟩)) (hy : a.eval y = .agg cs) (hs : cs.size = 16) (hs' : old.size = 16) (h1 : cs.all (·.oneCell') = true)
    (h : wpList Try.prog ops Q rest (a.put o.dst undef) (w.alloc (.cells cs 26))) : wpList Try.prog ops Q (o :: rest) a (w.alloc (.cells old 26)) :=
  BigFrame.wpList_want hw fun _ hK => wp_store_row 26 x y ho w.heap.size cs hx hy 26 old (heap_alloc_last w _) (by rw [info26, hs]) (by rw [hs, hs']) h1 (hK _ _ (by rw [World.setRow_alloc_new]; exact h))
theorem store_A {x y : Operand} {cs old : Array Value} (ho : o.op = .store 39 x y) (hw : Region.wanted o (yielded ops a.tmps) = true)
    (hx : a.eval x = .pointer (some ⟨w.heap.size, 0, none⟩)) (hy : a.eval y = .agg cs) (hs : cs.size = 46) (hs' : old.size = 46) (h1 : cs.all (·.oneCell') = true)
    (h : wpList Try.prog ops Q rest (a.put o.dst undef) (w.alloc (.cells cs 39))) : wpList Try.prog ops Q (o :: rest) a (w.alloc (.cells old 39)) :=
  BigFrame.wpList_want hw fun _ hK => wp_store_row 39 x y ho w.heap.size cs hx hy 39 old (heap_alloc_last w _) (by rw [info39, hs]) (by rw [hs, hs']) h1 (hK _ _ (by rw [World.setRow_alloc_new]; exact h))
end

/-! ### What a block holds, later -/
theorem row_alloc {w : World} {g : Nat} {ob o : Obj} (h : w.heap[g]? = some ob) (hg : g < w.heap.size) : (w.alloc o).heap[g]? = some ob := (Below.heap_alloc w o g hg).trans h
theorem row_below {w w' : World} {g : Nat} {ob : Obj} (h : w.heap[g]? = some ob) (hb : Below w.heap.size w w') (hg : g < w.heap.size) : w'.heap[g]? = some ob := (hb.block g hg).trans h
theorem row_new (w : World) (ob : Obj) : (w.alloc ob).heap[w.heap.size]? = some ob := heap_alloc_last w ob
theorem row_cell {w : World} {g : Nat} {cs : Array Value} {t : TypeId} (h : w.heap[g]? = some (.cells cs t (0, 0))) (i : Nat) : w.cell? ⟨g, i, none⟩ = cs[i]? := cell_of_row w g i cs t (0, 0) h
#print axioms store_A
end Go.Proofs.Ytedejbanhhonbaa
