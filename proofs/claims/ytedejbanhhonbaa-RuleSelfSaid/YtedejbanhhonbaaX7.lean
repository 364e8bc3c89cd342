/- The contract of rule.Repeat: in what a transfer parts from another one, as a plain function of their numbers. -/
import Derived.Test.YtedejbanhhonbaaA1
namespace Go.Proofs.Ytedejbanhhonbaa
open Go.RowKit
attribute [local go_sem high] eqNum

/-- rule.Repeat's answer: debit (2, 3), credit (4, 5), amount (6, 7), pending (8, 9), timeout (10), ledger (11), flags (12). -/
def rcode (a2 a3 a4 a5 a6 a7 a8 a9 a10 a11 a12 b2 b3 b4 b5 b6 b7 b8 b9 b10 b11 b12 : Int) : Int :=
  if (bits .andNot .i64 a12 1 != bits .andNot .i64 b12 1) = true then 8
  else if nEq a2 a3 b2 b3 = false then 9
  else if nEq a4 a5 b4 b5 = false then 10
  else if nEq a6 a7 b6 b7 = false then 11
  else if nEq a8 a9 b8 b9 = false then 12
  else if (a10 != b10) = true then 13
  else if (a11 != b11) = true then 7
  else 14

set_option maxHeartbeats 1000000 in
/-- rule.Repeat, at whatever two transfers. -/
theorem repeat_any (a0 a1 a2 a3 a4 a5 a6 a7 a8 a9 a10 a11 a12 a13 a14 a15 b0 b1 b2 b3 b4 b5 b6 b7 b8 b9 b10 b11 b12 b13 b14 b15 : Int) (w : World) :
    Calls Try.prog 13 #[.agg #[.int .u64 a0, .int .u64 a1, .int .u64 a2, .int .u64 a3, .int .u64 a4, .int .u64 a5, .int .u64 a6, .int .u64 a7, .int .u64 a8, .int .u64 a9, .int .i64 a10, .int .i64 a11, .int .i64 a12, .int .i64 a13, .int .i64 a14, .int .i64 a15], .agg #[.int .u64 b0, .int .u64 b1, .int .u64 b2, .int .u64 b3, .int .u64 b4, .int .u64 b5, .int .u64 b6, .int .u64 b7, .int .u64 b8, .int .u64 b9, .int .i64 b10, .int .i64 b11, .int .i64 b12, .int .i64 b13, .int .i64 b14, .int .i64 b15]] w fun e w' => e = .returned (.int .i64 (rcode a2 a3 a4 a5 a6 a7 a8 a9 a10 a11 a12 b2 b3 b4 b5 b6 b7 b8 b9 b10 b11 b12)) ∧ Below w.heap.size w w' := by
  rcases Bool.eq_false_or_eq_true (bits .andNot .i64 a12 1 != bits .andNot .i64 b12 1) with g0 | g0
  · skip
    go_enter Try.func13, Try.ntmps13
    go_wp2
    go_ret
    exact ⟨by rw [rcode, g0]; rfl, ((Below.refl _ _).alloc (Nat.le_refl _) _).alloc (by simp) _⟩
  rcases Bool.eq_false_or_eq_true (nEq a2 a3 b2 b3) with g1 | g1
  rotate_left
  · skip
    go_enter Try.func13, Try.ntmps13
    go_wp2
    go_ret
    exact ⟨by rw [rcode, g0, g1]; rfl, ((Below.refl _ _).alloc (Nat.le_refl _) _).alloc (by simp) _⟩
  rcases Bool.eq_false_or_eq_true (nEq a4 a5 b4 b5) with g2 | g2
  rotate_left
  · skip
    go_enter Try.func13, Try.ntmps13
    go_wp2
    go_ret
    exact ⟨by rw [rcode, g0, g1, g2]; rfl, ((Below.refl _ _).alloc (Nat.le_refl _) _).alloc (by simp) _⟩
  rcases Bool.eq_false_or_eq_true (nEq a6 a7 b6 b7) with g3 | g3
  rotate_left
  · skip
    go_enter Try.func13, Try.ntmps13
    go_wp2
    go_ret
    exact ⟨by rw [rcode, g0, g1, g2, g3]; rfl, ((Below.refl _ _).alloc (Nat.le_refl _) _).alloc (by simp) _⟩
  rcases Bool.eq_false_or_eq_true (nEq a8 a9 b8 b9) with g4 | g4
  rotate_left
  · skip
    go_enter Try.func13, Try.ntmps13
    go_wp2
    go_ret
    exact ⟨by rw [rcode, g0, g1, g2, g3, g4]; rfl, ((Below.refl _ _).alloc (Nat.le_refl _) _).alloc (by simp) _⟩
  rcases Bool.eq_false_or_eq_true (a10 != b10) with g5 | g5
  · skip
    go_enter Try.func13, Try.ntmps13
    go_wp2
    go_ret
    exact ⟨by rw [rcode, g0, g1, g2, g3, g4, g5]; rfl, ((Below.refl _ _).alloc (Nat.le_refl _) _).alloc (by simp) _⟩
  rcases Bool.eq_false_or_eq_true (a11 != b11) with g6 | g6
  · skip
    go_enter Try.func13, Try.ntmps13
    go_wp2
    go_ret
    exact ⟨by rw [rcode, g0, g1, g2, g3, g4, g5, g6]; rfl, ((Below.refl _ _).alloc (Nat.le_refl _) _).alloc (by simp) _⟩
  · skip
    go_enter Try.func13, Try.ntmps13
    go_wp2
    go_ret
    exact ⟨by rw [rcode, g0, g1, g2, g3, g4, g5, g6]; rfl, ((Below.refl _ _).alloc (Nat.le_refl _) _).alloc (by simp) _⟩
end Go.Proofs.Ytedejbanhhonbaa
