/- The contract of rule.Again: in what an account parts from another one. -/
import Derived.Test.YtedejbanhhonbaaA2
namespace Go.Proofs.Ytedejbanhhonbaa
open Go.RowKit
attribute [local go_sem high] eqNum

/-- rule.Again's answer: of the two ledgers and the two flags. -/
def acode (l f l' f' : Int) : Int :=
  if (l != l') = true then 7
  else if (bits .andNot .i64 f 9 != bits .andNot .i64 f' 9) = true then 8
  else 14

set_option maxHeartbeats 1000000 in
/-- rule.Again, at whatever two accounts: only their ledgers' and flags' cells are looked at. -/
theorem again_any (xs ys : Array Value) (l f l' f' : Int) (x2 : xs[2]? = some (.int .i64 l)) (x3 : xs[3]? = some (.int .i64 f)) (y2 : ys[2]? = some (.int .i64 l')) (y3 : ys[3]? = some (.int .i64 f')) (w : World) :
    Calls Try.prog 14 #[.agg xs, .agg ys] w fun e w' => e = .returned (.int .i64 (acode l f l' f')) ∧ Below w.heap.size w w' := by
  rcases Bool.eq_false_or_eq_true (l != l') with g0 | g0
  · skip
    go_enter Try.func14, Try.ntmps14
    go_wp2
    go_ret
    exact ⟨by rw [acode, g0]; rfl, ((Below.refl _ _).alloc (Nat.le_refl _) _).alloc (by simp) _⟩
  rcases Bool.eq_false_or_eq_true (bits .andNot .i64 f 9 != bits .andNot .i64 f' 9) with g1 | g1
  · skip
    go_enter Try.func14, Try.ntmps14
    go_wp2
    go_ret
    exact ⟨by rw [acode, g0, g1]; rfl, ((Below.refl _ _).alloc (Nat.le_refl _) _).alloc (by simp) _⟩
  · skip
    go_enter Try.func14, Try.ntmps14
    go_wp2
    go_ret
    exact ⟨by rw [acode, g0, g1]; rfl, ((Below.refl _ _).alloc (Nat.le_refl _) _).alloc (by simp) _⟩
end Go.Proofs.Ytedejbanhhonbaa
