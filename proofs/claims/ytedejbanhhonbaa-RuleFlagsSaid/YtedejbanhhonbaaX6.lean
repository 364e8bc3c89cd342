/- The walk of the law RuleFlags: it returns true at whatever set of flags. -/
import Derived.Test.YtedejbanhhonbaaX4
namespace Go.Proofs.Ytedejbanhhonbaa
open Go.RowKit
attribute [local go_sem high] eqNum

/-- What the law says of a set of flags: it may be. -/
def mayB (g : Int) : Bool :=
  decide (g < 256) && decide (cnt g 3 ≤ 1) && ((bits .and .i64 g 64 == 0) && (bits .and .i64 g 128 == 0) || (bits .and .i64 g 2 != 0)) &&
    ((bits .and .i64 g 16 == 0) && (bits .and .i64 g 32 == 0) || (bits .and .i64 g 4 == 0) && (bits .and .i64 g 8 == 0))
theorem mask511 (f : Int) : 0 ≤ bits .and .i64 f 511 ∧ bits .and .i64 f 511 ≤ 511 := by
  have key : ∀ t : Nat, t ≤ 511 → 0 ≤ IntKind.i64.wrap (t : Int) ∧ IntKind.i64.wrap (t : Int) ≤ 511 := by
    intro t ht
    rw [IntKind.wrap_i64]
    omega
  have h := key (BitVec.ofInt 64 f &&& BitVec.ofInt 64 511).toNat (by rw [BitVec.toNat_and]; exact Nat.and_le_right)
  exact h
def allFlags2 (P : Int → Bool) : Bool := (List.range 512).all fun n => P n
theorem allFlags2_of {P : Int → Bool} (h : allFlags2 P = true) (f : Int) (h0 : 0 ≤ f) (h1 : f ≤ 511) : P f = true := by
  obtain ⟨n, rfl⟩ := Int.eq_ofNat_of_zero_le h0
  exact (List.all_eq_true.1 h) n (by simp; omega)
theorem mayB_eq (g : Int) (h0 : 0 ≤ g) (h1 : g ≤ 511) : mayB g = !badF g := by
  have h : allFlags2 (fun f => mayB f == !badF f) = true := by decide +kernel
  simpa using allFlags2_of h g h0 h1

theorem bcell {W W1 : World} (hb : Below W.heap.size W W1) : (∀ b o, b < W.heap.size → W1.cell? ⟨b, o, none⟩ = W.cell? ⟨b, o, none⟩) ∧ (∀ b o, b < W.heap.size → W1.frozen? ⟨b, o, none⟩ = W.frozen? ⟨b, o, none⟩) :=
  ⟨fun b o h => hb.cell (p := ⟨b, o, none⟩) h, fun b o h => hb.frozen (p := ⟨b, o, none⟩) h⟩

set_option maxRecDepth 100000 in
set_option maxHeartbeats 1000000 in
/-- RuleFlags, walked. -/
theorem flags_walk (f : Int) (w : World) : Calls Try.prog 4 #[.int .i64 f] w fun e w' => e = .returned (.bool true) ∧ Below w.heap.size w w' := by
  have i0 : ∀ w, (Instr.index 32 (.agg #[.int .i64 2, .int .i64 4, .int .i64 8]) (.int .i64 0)).run Try.prog w = .ok (.int .i64 2) w := fun _ => by kernel_rfl
  have i1 : ∀ w, (Instr.index 32 (.agg #[.int .i64 2, .int .i64 4, .int .i64 8]) (.int .i64 1)).run Try.prog w = .ok (.int .i64 4) w := fun _ => by kernel_rfl
  have i2 : ∀ w, (Instr.index 32 (.agg #[.int .i64 2, .int .i64 4, .int .i64 8]) (.int .i64 2)).run Try.prog w = .ok (.int .i64 8) w := fun _ => by kernel_rfl
  obtain ⟨m0, m1⟩ := mask511 f
  go_enter Try.func4, Try.ntmps4
  go_wp2_with fail
  refine (fit_any _).mono ?_
  rintro e w1 ⟨rfl, hbw⟩
  have hbz := hbw.size
  go_upto_region 4 with fail
  generalize bits .and .i64 f 511 = g at m0 m1 ⊢
  go_wp2_with fail
  refine (of_any 5 _).mono ?_
  rintro e w' ⟨rfl, o1, rfl⟩
  go_upto_if 17 with fail
  go_cut [18] (fun _ wx => ∃ pl : Int, (tcode 0 5 0 pl 0 g = if badF g = true then 4 else 0) ∧ Below w.heap.size w wx ∧ w1.heap.size + 1 < wx.heap.size ∧ wx.cell? ⟨w1.heap.size + 1, 0, none⟩ = some (.int .u64 0) ∧ wx.cell? ⟨w1.heap.size + 1, 1, none⟩ = some (.int .u64 5) ∧ wx.cell? ⟨w1.heap.size + 1, 2, none⟩ = some (.int .u64 0) ∧ wx.cell? ⟨w1.heap.size + 1, 3, none⟩ = some (.int .u64 0) ∧ wx.cell? ⟨w1.heap.size + 1, 4, none⟩ = some (.int .u64 0) ∧ wx.cell? ⟨w1.heap.size + 1, 5, none⟩ = some (.int .u64 0) ∧ wx.cell? ⟨w1.heap.size + 1, 6, none⟩ = some (.int .u64 0) ∧ wx.cell? ⟨w1.heap.size + 1, 7, none⟩ = some (.int .u64 0) ∧ wx.cell? ⟨w1.heap.size + 1, 8, none⟩ = some (.int .u64 0) ∧ wx.cell? ⟨w1.heap.size + 1, 9, none⟩ = some (.int .u64 pl) ∧ wx.cell? ⟨w1.heap.size + 1, 10, none⟩ = some (.int .i64 0) ∧ wx.cell? ⟨w1.heap.size + 1, 11, none⟩ = some (.int .i64 0) ∧ wx.cell? ⟨w1.heap.size + 1, 12, none⟩ = some (.int .i64 g) ∧ wx.cell? ⟨w1.heap.size + 1, 13, none⟩ = some (.int .i64 0) ∧ wx.cell? ⟨w1.heap.size + 1, 14, none⟩ = some (.int .i64 0) ∧ wx.cell? ⟨w1.heap.size + 1, 15, none⟩ = some (.int .i64 0))
  case first =>
    have e1 : nEq 0 5 0 0 = false := rfl
    have e3 : badT 0 g = false := rfl
    have E1 := hide e1; have E3 := hide e3; clear e1 e3
    rcases Bool.eq_false_or_eq_true (bits .and .i64 g 12 != 0) with hs | hs
    · have e2 : badP 0 5 0 4 g = false := by rw [badP, hs]; rfl
      have E2 := hide e2; clear e2
      go_wp2_with fail
      refine (of_any 4 _).mono ?_
      rintro e w' ⟨rfl, o2, rfl⟩
      go_wp2_with fail
      go_meet
      refine ⟨4, by rw [tcode, E1.out, E2.out, E3.out]; rfl, (((hbw.alloc hbz _).alloc (by simp; omega) _).alloc (by simp; omega) _), by simp, ?_⟩
      simp [go_sem, World.cell?_alloc_past]
    · have e2 : badP 0 5 0 0 g = false := by rw [badP, hs]; rfl
      have E2 := hide e2; clear e2
      go_wp2_with fail
      go_meet
      refine ⟨0, by rw [tcode, E1.out, E2.out, E3.out]; rfl, (((hbw.alloc hbz _).alloc (by simp; omega) _)), by simp, ?_⟩
      simp [go_sem, World.cell?_alloc_past]
  case rest =>
    obtain ⟨pl, ht, hB, hlt, c0, c1, c2, c3, c4, c5, c6, c7, c8, c9, c10, c11, c12, c13, c14, c15⟩ := hcut
    have hBz := hB.size
    have Ht := hide ht; clear ht
    have HY := hide (cnt_yes g)
    have HN := hide (cnt_no g)
    have hm := mayB_eq g m0 m1
    have Hm := hide hm; clear hm
    go_wp2_with fail
    go_loop [4, 21] (fun n i => ∃ k : Nat, k ≤ 3 ∧ i = .int .i64 k ∧ n = .int .i64 (cnt g k)) (fun _ i => 3 - (intOf i).toNat)
    case atStart => exact ⟨0, by omega, rfl, rfl⟩
    case round =>
      obtain ⟨k, hk, rfl, rfl⟩ := hrel
      obtain ⟨d0, d1⟩ := cnt_bd g k
      have hk' : k = 0 ∨ k = 1 ∨ k = 2 ∨ k = 3 := by omega
      rcases hk' with rfl | rfl | rfl | rfl
      · rcases Bool.eq_false_or_eq_true (bits .and .i64 g 2 != 0) with hb | hb
        · go_wp2
          go_round
          case rel => exact ⟨1, by omega, rfl, by rw [(unhide HY).1 hb]⟩
          case measure => simp [intOf]
        · go_wp2
          go_round
          case rel => exact ⟨1, by omega, rfl, by rw [(unhide HN).1 hb]⟩
          case measure => simp [intOf]
      · rcases Bool.eq_false_or_eq_true (bits .and .i64 g 4 != 0) with hb | hb
        · go_wp2
          go_round
          case rel => exact ⟨2, by omega, rfl, by rw [(unhide HY).2.1 hb]⟩
          case measure => simp [intOf]
        · go_wp2
          go_round
          case rel => exact ⟨2, by omega, rfl, by rw [(unhide HN).2.1 hb]⟩
          case measure => simp [intOf]
      · rcases Bool.eq_false_or_eq_true (bits .and .i64 g 8 != 0) with hb | hb
        · go_wp2
          go_round
          case rel => exact ⟨3, by omega, rfl, by rw [(unhide HY).2.2 hb]⟩
          case measure => simp [intOf]
        · go_wp2
          go_round
          case rel => exact ⟨3, by omega, rfl, by rw [(unhide HN).2.2 hb]⟩
          case measure => simp [intOf]
      · go_upto_region 14 with fail
        go_cut [7] (fun s wx => s = .bool (mayB g) ∧ wc = wx)
        case first =>
          go_wp2
          all_goals
            go_meet
            exact ⟨congrArg Value.bool (by rw [Bool.eq_iff_iff, mayB]; simp only [Bool.and_eq_true, Bool.or_eq_true, decide_eq_true_eq, beq_iff_eq, bne_iff_ne, ne_eq, true_iff, false_iff, Bool.false_eq_true]; omega), rfl⟩
        case rest =>
          obtain ⟨rfl, rfl⟩ := hcut
          have hmb : badF g = !mayB g := by rw [Hm.out]; simp
          have Hmb := hide hmb; clear hmb
          generalize hgb : mayB g = b
          have Hb := hide hgb; clear hgb
          cases b
          · have e : tcode 0 5 0 pl 0 g = 4 := by rw [Ht.out, Hmb.out, Hb.out]; rfl
            have He := hide e; clear e
            go_wp2_with fail
            refine (transfer_any _ _ _ _ _ _ _ _ _ _ _ _ _ _ _ _ _).mono ?_
            rintro e w2 ⟨rfl, hb2⟩
            rw [He.out]
            obtain ⟨hc, hf⟩ := bcell hb2
            go_wp2_with fail
            refine (transfer_any _ _ _ _ _ _ _ _ _ _ _ _ _ _ _ _ _).mono ?_
            rintro e w3 ⟨rfl, hb3⟩
            rw [He.out]
            go_wp2
            go_ret
            exact ⟨rfl, (hB.trans (hb2.mono hBz)).trans (hb3.mono (Nat.le_trans hBz hb2.size))⟩
          · have e : tcode 0 5 0 pl 0 g = 0 := by rw [Ht.out, Hmb.out, Hb.out]; rfl
            have He := hide e; clear e
            go_wp2_with fail
            refine (transfer_any _ _ _ _ _ _ _ _ _ _ _ _ _ _ _ _ _).mono ?_
            rintro e w2 ⟨rfl, hb2⟩
            rw [He.out]
            go_wp2
            go_ret
            exact ⟨rfl, hB.trans (hb2.mono hBz)⟩
end Go.Proofs.Ytedejbanhhonbaa
