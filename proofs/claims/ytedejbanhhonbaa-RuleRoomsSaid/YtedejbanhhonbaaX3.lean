/- The contracts of the law's own count of bits, and of 'fit'. -/
import Derived.Test.YtedejbanhhonbaaX2
import Derived.Laws.BitsLemmas
namespace Go.Proofs.Ytedejbanhhonbaa
open Go.RowKit
attribute [local go_sem high] eqNum

/-- How many bits of a number below 16 are set. -/
def pc (x : Int) : Int := x % 2 + x / 2 % 2 + x / 4 % 2 + x / 8 % 2

theorem pc_half (k : Int) (h0 : 0 ≤ k) (h1 : k < 16) : pc (k / 2) + k % 2 = pc k := by unfold pc; omega
theorem pc_bd (k : Int) : 0 ≤ pc k ∧ pc k ≤ 4 := by unfold pc; omega
theorem i64_and1 (k : Int) (h0 : 0 ≤ k) (h1 : k < 16) : bits .and .i64 k 1 = k % 2 := by
  have h := bits_mask .i64 63 (by decide) (fun n a b => by rw [IntKind.wrap_i64]; omega) 1 (by decide) k h0 (by omega)
  simpa using h

set_option maxHeartbeats 400000 in
/-- The law's own count of bits, below 16. -/
theorem bits_any (x : Int) (w : World) (h0 : 0 ≤ x) (h1 : x < 16) :
    Calls Try.prog 10 #[.int .i64 x] w fun e w' => e = .returned (.int .i64 (pc x)) ∧ w = w' := by
  go_enter Try.func10, Try.ntmps10
  go_wp2
  go_loop [0, 3] (fun t n => ∃ k : Int, 0 ≤ k ∧ k < 16 ∧ t = .int .i64 k ∧ n = .int .i64 (pc x - pc k)) (fun t _ => (intOf t).toNat)
  case atStart => exact ⟨x, h0, h1, rfl, by simp⟩
  case round =>
    obtain ⟨k, k0, k1, rfl, rfl⟩ := hrel
    by_cases hk : 0 < k
    · have hp := pc_half k k0 k1
      have hx := pc_bd x
      have hk' := pc_bd k
      have e := i64_and1 k k0 k1
      have hw : wrap64 (pc x - pc k + bits .and .i64 k 1) = pc x - pc (k / 2) := by
        rw [e]; unfold wrap64; omega
      have HW := hide hw; clear hw hp e
      go_wp2
      go_round
      case rel => exact ⟨k / 2, by omega, by omega, rfl, by rw [HW.out]⟩
      case measure => simp [intOf]; omega
    · obtain rfl : k = 0 := by omega
      go_wp2
      go_ret
      exact ⟨by simp [pc], rfl⟩

set_option maxHeartbeats 400000 in
/-- rule.Account at the account of which 'fit' asks. -/
theorem account_fit (w : World) :
    Calls Try.prog 20 #[.agg #[.int .u64 0, .int .u64 1, .int .i64 0, .int .i64 0, .int .u64 0, .int .u64 0, .int .u64 0, .int .u64 0, .int .u64 0, .int .u64 0, .int .u64 0, .int .u64 0, .int .i64 0, .int .i64 0,
      .int .u8 0, .int .u8 0, .int .u8 0, .int .u8 0, .int .u8 0, .int .u8 0, .int .u8 0, .int .u8 0, .int .u8 0, .int .u8 0, .int .u8 0, .int .u8 0, .int .u8 0, .int .u8 0, .int .u8 0, .int .u8 0,
      .int .u8 0, .int .u8 0, .int .u8 0, .int .u8 0, .int .u8 0, .int .u8 0, .int .u8 0, .int .u8 0, .int .u8 0, .int .u8 0, .int .u8 0, .int .u8 0, .int .u8 0, .int .u8 0, .int .u8 0, .int .u8 0]] w
      fun e w' => e = .returned (.int .i64 5) ∧ Below w.heap.size w w' := by
  have e1 : nEq 0 1 0 0 = false := rfl
  go_enter Try.func20, Try.ntmps20
  go_wp2
  go_region_held3 (fun w' => w'.cell? ⟨w.heap.size, 0, none⟩ = some (.int .u64 0) ∧ w'.cell? ⟨w.heap.size, 1, none⟩ = some (.int .u64 1)) (simp [go_sem, World.cell?_alloc_past])
    ((go_at_call 21; refine (zero_any _).mono ?_; rintro e w' ⟨rfl, o1, o2, rfl⟩))
  go_wp2
  go_ret
  exact ⟨rfl, by repeat (first | exact Below.refl _ _ | apply Below.drew | (refine Below.alloc ?_ (by simp <;> omega) _))⟩

set_option maxHeartbeats 400000 in
/-- 'fit' of the laws. -/
theorem fit_any (w : World) : Calls Try.prog 9 #[] w fun e w' => e = .returned (.bool true) ∧ Below w.heap.size w w' := by
  have e1 : tcode 0 1 0 0 0 12 = 4 := by decide
  have E1 := hide e1; clear e1
  go_enter Try.func9, Try.ntmps9
  go_wp2_with fail
  refine (of_any 1 _).mono ?_
  rintro e w' ⟨rfl, o1, rfl⟩
  go_wp2_with fail
  refine (transfer_any 12 0 1 0 0 0 0 0 0 0 0 0 0 0 0 0 _).mono ?_
  rintro e w1 ⟨rfl, hb1⟩
  rw [E1.out]
  go_wp2_with fail
  refine (of_any 1 _).mono ?_
  rintro e w' ⟨rfl, o2, rfl⟩
  go_wp2_with fail
  refine (account_fit _).mono ?_
  rintro e w2 ⟨rfl, hb2⟩
  go_wp2
  go_ret
  have s1 := hb1.size
  simp at s1
  exact ⟨rfl, ((((Below.refl _ _).alloc (Nat.le_refl _) _).trans (hb1.mono (by simp))).alloc (by omega) _).trans (hb2.mono (by simp; omega))⟩
end Go.Proofs.Ytedejbanhhonbaa
