/- Blocks of cells whose worlds are letters: what a block holds behind a store into one of its cells, behind a whole store, behind a store elsewhere; a whole load as the value of an operation. -/
import Derived.Test.YtedejbanhhonbaaA2
namespace Go.Proofs.Ytedejbanhhonbaa
open Go.RowKit

/-- Block g is just these cells of type t. -/
def Row (w : World) (g : Nat) (t : TypeId) (cs : Array Value) : Prop := w.heap[g]? = some (.cells cs t (0, 0))

section
variable {w w' : World} {g : Nat} {t : TypeId} {cs : Array Value}
theorem Row.lt (h : Row w g t cs) : g < w.heap.size := by
  rcases Nat.lt_or_ge g w.heap.size with hlt | hge
  · exact hlt
  · unfold Row at h; rw [Array.getElem?_eq_none hge] at h; cases h
theorem Row.cell (h : Row w g t cs) (i : Nat) : w.cell? ⟨g, i, none⟩ = cs[i]? := cell_of_row w g i cs t (0, 0) h
theorem Row.frozen (h : Row w g t cs) (i : Nat) : w.frozen? ⟨g, i, none⟩ = false := by
  unfold Row at h
  simp [World.frozen?, h]
theorem Row.new (w : World) (t : TypeId) (cs : Array Value) : Row (w.alloc (.cells cs t)) w.heap.size t cs := heap_alloc_last w _
theorem Row.drew (h : Row w g t cs) : Row w.drew g t cs := h
theorem Row.alloc (h : Row w g t cs) (o : Obj) : Row (w.alloc o) g t cs := (Below.heap_alloc w o g h.lt).trans h
theorem Row.set_ (h : Row w g t cs) (i : Nat) (u : Value) : Row (w.setCell ⟨g, i, none⟩ u) g t (cs.setIfInBounds i u) := by
  unfold Row at h ⊢
  simp [World.setCell, Array.getElem?_modify, h]
theorem Row.far (h : Row w g t cs) {p : Addr} (hp : g ≠ p.block) (u : Value) : Row (w.setCell p u) g t cs := (Below.heap_setCell w p u g hp).trans h
theorem Row.below (h : Row w g t cs) {B : Nat} (hb : Below B w w') (hg : g < B) : Row w' g t cs := (hb.block g hg).trans h
theorem Row.whole (h : Row w g t cs) (cs' : Array Value) : Row (w.setRow g cs') g t cs' := by
  unfold Row at h ⊢
  simp [World.setRow, Array.getElem?_modify, h]
theorem Row.apart (h : Row w g t cs) {k : Nat} (hk : g ≠ k) (cs' : Array Value) : Row (w.setRow k cs') g t cs := by
  unfold Row at h ⊢
  simp only [World.setRow, Array.getElem?_modify]
  rw [if_neg (fun e => hk e.symm)]
  exact h
theorem below_setRow {B : Nat} {a : World} (h : Below B a w) (hg : B ≤ g) (cs' : Array Value) : Below B a (w.setRow g cs') :=
  h.trans ⟨rfl, rfl, rfl, by simp [World.setRow], fun k hk => by
    simp only [World.setRow, Array.getElem?_modify]
    rw [if_neg (by omega)]⟩
end

section
variable {a : Act} {w : World} {o : Oper} {x : Operand} {g : Nat} {cs : Array Value}
/-- A whole transfer out of its block: the operation's value. -/
theorem exec_T (hg : Row w g 26 cs) (ho : o.op = .load 26 x) (hx : a.eval x = .pointer (some ⟨g, 0, none⟩)) (hs : cs.size = 16) : (execOp a.eval o).run Try.prog w = .ok (.value (.agg cs)) w := by
  unfold execOp
  simp only [ho, hx, Instr.loadAt, Instr.sureAddr, Sem.run_bind, Sem.run_pure, Result.andThen_ok, run_loadVar_row w g 26 26 cs (0, 0) _ hg Try.underlying26 rfl (by rw [info26, hs])]
/-- A whole account out of its block: the operation's value. -/
theorem exec_A (hg : Row w g 39 cs) (ho : o.op = .load 39 x) (hx : a.eval x = .pointer (some ⟨g, 0, none⟩)) (hs : cs.size = 46) : (execOp a.eval o).run Try.prog w = .ok (.value (.agg cs)) w := by
  unfold execOp
  simp only [ho, hx, Instr.loadAt, Instr.sureAddr, Sem.run_bind, Sem.run_pure, Result.andThen_ok, run_loadVar_row w g 39 39 cs (0, 0) _ hg Try.underlying39 rfl (by rw [info39, hs])]
end
#print axioms exec_A
end Go.Proofs.Ytedejbanhhonbaa
