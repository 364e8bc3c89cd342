import Derived.Test.YtedejbanhhonbaaA1
namespace Go.Proofs.Ytedejbanhhonbaa
open Go.RowKit

/-- How many of the flags 2, 4, 8 (the first k of them) are set. -/
def cnt (f : Int) : Nat → Int
  | 0 => 0
  | 1 => if bits .and .i64 f 2 != 0 then 1 else 0
  | 2 => (if bits .and .i64 f 2 != 0 then 1 else 0) + (if bits .and .i64 f 4 != 0 then 1 else 0)
  | _ => (if bits .and .i64 f 2 != 0 then 1 else 0) + (if bits .and .i64 f 4 != 0 then 1 else 0) + (if bits .and .i64 f 8 != 0 then 1 else 0)
theorem cnt_bd (f : Int) (k : Nat) : 0 ≤ cnt f k ∧ cnt f k ≤ 3 := by
  unfold cnt; split <;> (repeat' split) <;> omega
theorem cnt_yes (f : Int) : ((bits .and .i64 f 2 != 0) = true → cnt f 0 + 1 = cnt f 1) ∧ ((bits .and .i64 f 4 != 0) = true → cnt f 1 + 1 = cnt f 2) ∧ ((bits .and .i64 f 8 != 0) = true → cnt f 2 + 1 = cnt f 3) := by
  refine ⟨fun h => ?_, fun h => ?_, fun h => ?_⟩ <;> simp only [cnt, h, if_true] <;> rfl
theorem cnt_no (f : Int) : ((bits .and .i64 f 2 != 0) = false → cnt f 0 = cnt f 1) ∧ ((bits .and .i64 f 4 != 0) = false → cnt f 1 = cnt f 2) ∧ ((bits .and .i64 f 8 != 0) = false → cnt f 2 = cnt f 3) := by
  refine ⟨fun h => ?_, fun h => ?_, fun h => ?_⟩ <;> simp [cnt, h]

/-- rule.one's answer. -/
def oneB (f : Int) : Bool := decide (cnt f 3 ≤ 1)

set_option maxHeartbeats 400000 in
/-- rule.one over the flags 2, 4, 8. -/
theorem one_any (f : Int) (b : Nat) (w : World) (c0 : w.cell? ⟨b, 0, none⟩ = some (.int .i64 2)) (c1 : w.cell? ⟨b, 1, none⟩ = some (.int .i64 4)) (c2 : w.cell? ⟨b, 2, none⟩ = some (.int .i64 8)) :
    Calls Try.prog 22 #[.int .i64 f, .slice (some ⟨b, 0, none⟩) 3 3] w fun e w' => e = .returned (.bool (oneB f)) ∧ w = w' := by
  have HY := hide (cnt_yes f)
  have HN := hide (cnt_no f)
  go_enter Try.func22, Try.ntmps22
  go_wp2
  go_loop [5, 10] (fun n i => ∃ k : Nat, k ≤ 3 ∧ i = .int .i64 k ∧ n = .int .i64 (cnt f k)) (fun _ i => 3 - (intOf i).toNat)
  case atStart => exact ⟨0, by omega, rfl, rfl⟩
  case round =>
    obtain ⟨k, hk, rfl, rfl⟩ := hrel
    obtain ⟨d0, d1⟩ := cnt_bd f k
    have hk' : k = 0 ∨ k = 1 ∨ k = 2 ∨ k = 3 := by omega
    rcases hk' with rfl | rfl | rfl | rfl
    · rcases Bool.eq_false_or_eq_true (bits .and .i64 f 2 != 0) with hb | hb
      · go_wp2
        go_round
        case rel => exact ⟨1, by omega, rfl, by rw [(unhide HY).1 hb]⟩
        case measure => simp [intOf]
      · go_wp2
        go_round
        case rel => exact ⟨1, by omega, rfl, by rw [(unhide HN).1 hb]⟩
        case measure => simp [intOf]
    · rcases Bool.eq_false_or_eq_true (bits .and .i64 f 4 != 0) with hb | hb
      · go_wp2
        go_round
        case rel => exact ⟨2, by omega, rfl, by rw [(unhide HY).2.1 hb]⟩
        case measure => simp [intOf]
      · go_wp2
        go_round
        case rel => exact ⟨2, by omega, rfl, by rw [(unhide HN).2.1 hb]⟩
        case measure => simp [intOf]
    · rcases Bool.eq_false_or_eq_true (bits .and .i64 f 8 != 0) with hb | hb
      · go_wp2
        go_round
        case rel => exact ⟨3, by omega, rfl, by rw [(unhide HY).2.2 hb]⟩
        case measure => simp [intOf]
      · go_wp2
        go_round
        case rel => exact ⟨3, by omega, rfl, by rw [(unhide HN).2.2 hb]⟩
        case measure => simp [intOf]
    · go_wp2
      go_ret
      exact ⟨rfl, rfl⟩
end Go.Proofs.Ytedejbanhhonbaa
