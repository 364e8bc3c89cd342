/- The walk of the law RuleTransfers: it returns true at whatever transfer. -/
import Derived.Test.YtedejbanhhonbaaX3
namespace Go.Proofs.Ytedejbanhhonbaa
open Go.RowKit
attribute [local go_sem high] eqNum

theorem cells_new {w w1 : World} {cs : Array Value} {t : TypeId} (hb : Below (w.alloc (.cells cs t)).heap.size (w.alloc (.cells cs t)) w1) (i : Nat) : w1.cell? ⟨w.heap.size, i, none⟩ = cs[i]? := by
  rw [hb.cell (p := ⟨w.heap.size, i, none⟩) (by simp)]
  simp [go_sem]

/-- The law's own words for what may not be. -/
def lawF (f : Int) : Bool :=
  decide (f < 0) || decide (255 < f) || decide (1 < pc (bits .and .i64 f 14)) || (decide (0 < bits .and .i64 f 192) && (bits .and .i64 f 2 == 0)) || (decide (0 < bits .and .i64 f 48) && decide (0 < bits .and .i64 f 12))
def lawP (ih il ph pl f : Int) : Bool :=
  (decide (0 < bits .and .i64 f 12) && (nEq ph pl 0 0 || nEq ph pl ih il)) || ((bits .and .i64 f 12 == 0) && !nEq ph pl 0 0)
/-- All flags below 256. -/
def allFlags (P : Int → Bool) : Bool := (List.range 256).all fun n => P n
theorem allFlags_of {P : Int → Bool} (h : allFlags P = true) (f : Int) (h0 : 0 ≤ f) (h1 : f ≤ 255) : P f = true := by
  obtain ⟨n, rfl⟩ := Int.eq_ofNat_of_zero_le h0
  exact (List.all_eq_true.1 h) n (by simp; omega)
theorem lawF_eq (f : Int) : lawF f = badF f := by
  by_cases h0 : f < 0
  · simp [lawF, badF, h0]
  by_cases h1 : 255 < f
  · simp [lawF, badF, h1]
  have h : allFlags (fun f => lawF f == badF f) = true := by decide +kernel
  simpa using allFlags_of h f (by omega) (by omega)
theorem sec_eq (f : Int) (h0 : 0 ≤ f) (h1 : f ≤ 255) : decide (0 < bits .and .i64 f 12) = (bits .and .i64 f 12 != 0) ∧ (0 ≤ bits .and .i64 f 14 ∧ bits .and .i64 f 14 < 16) := by
  have h : allFlags (fun f => (decide (0 < bits .and .i64 f 12) == (bits .and .i64 f 12 != 0)) && decide (0 ≤ bits .and .i64 f 14) && decide (bits .and .i64 f 14 < 16)) = true := by decide +kernel
  have := allFlags_of h f h0 h1
  simp only [Bool.and_eq_true, beq_iff_eq, decide_eq_true_eq] at this
  exact ⟨this.1.1, this.1.2, this.2⟩
theorem lawP_eq (ih il ph pl f : Int) (h0 : 0 ≤ f) (h1 : f ≤ 255) : lawP ih il ph pl f = badP ih il ph pl f := by
  have h := (sec_eq f h0 h1).1
  unfold lawP badP
  rw [h]
  cases hs : (bits .and .i64 f 12 != 0) <;> cases hz : nEq ph pl 0 0 <;> cases he : nEq ph pl ih il <;> simp at hs <;> simp [hs]
#print axioms lawF_eq

theorem badF_range (f : Int) (h : false = badF f) : 0 ≤ f ∧ f ≤ 255 := by
  have h1 : decide (f < 0) = false := by cases e : decide (f < 0) <;> simp_all [badF]
  have h2 : decide (255 < f) = false := by cases e : decide (255 < f) <;> simp_all [badF]
  simp at h1 h2
  exact ⟨h1, h2⟩

set_option maxRecDepth 100000 in
set_option maxHeartbeats 1000000 in
/-- RuleTransfers, walked. -/
theorem transfers_walk (h0 h1 h2 h3 h4 h5 h6 h7 h8 h9 h10 h11 h12 h13 h14 h15 : Int) (w : World) :
    Calls Try.prog 3 #[.agg #[.int .u64 h0, .int .u64 h1, .int .u64 h2, .int .u64 h3, .int .u64 h4, .int .u64 h5, .int .u64 h6, .int .u64 h7, .int .u64 h8, .int .u64 h9, .int .i64 h10, .int .i64 h11, .int .i64 h12, .int .i64 h13, .int .i64 h14, .int .i64 h15]] w fun e w' => e = .returned (.bool true) ∧ Below w.heap.size w w' := by
  go_enter Try.func3, Try.ntmps3
  go_wp2_with fail
  refine (fit_any _).mono ?_
  rintro e w1 ⟨rfl, hb1⟩
  have c0 : w1.cell? ⟨w.heap.size, 0, none⟩ = some (.int .u64 h0) := (cells_new hb1 0).trans rfl
  have c1 : w1.cell? ⟨w.heap.size, 1, none⟩ = some (.int .u64 h1) := (cells_new hb1 1).trans rfl
  have c2 : w1.cell? ⟨w.heap.size, 2, none⟩ = some (.int .u64 h2) := (cells_new hb1 2).trans rfl
  have c3 : w1.cell? ⟨w.heap.size, 3, none⟩ = some (.int .u64 h3) := (cells_new hb1 3).trans rfl
  have c4 : w1.cell? ⟨w.heap.size, 4, none⟩ = some (.int .u64 h4) := (cells_new hb1 4).trans rfl
  have c5 : w1.cell? ⟨w.heap.size, 5, none⟩ = some (.int .u64 h5) := (cells_new hb1 5).trans rfl
  have c6 : w1.cell? ⟨w.heap.size, 6, none⟩ = some (.int .u64 h6) := (cells_new hb1 6).trans rfl
  have c7 : w1.cell? ⟨w.heap.size, 7, none⟩ = some (.int .u64 h7) := (cells_new hb1 7).trans rfl
  have c8 : w1.cell? ⟨w.heap.size, 8, none⟩ = some (.int .u64 h8) := (cells_new hb1 8).trans rfl
  have c9 : w1.cell? ⟨w.heap.size, 9, none⟩ = some (.int .u64 h9) := (cells_new hb1 9).trans rfl
  have c10 : w1.cell? ⟨w.heap.size, 10, none⟩ = some (.int .i64 h10) := (cells_new hb1 10).trans rfl
  have c11 : w1.cell? ⟨w.heap.size, 11, none⟩ = some (.int .i64 h11) := (cells_new hb1 11).trans rfl
  have c12 : w1.cell? ⟨w.heap.size, 12, none⟩ = some (.int .i64 h12) := (cells_new hb1 12).trans rfl
  have c13 : w1.cell? ⟨w.heap.size, 13, none⟩ = some (.int .i64 h13) := (cells_new hb1 13).trans rfl
  have c14 : w1.cell? ⟨w.heap.size, 14, none⟩ = some (.int .i64 h14) := (cells_new hb1 14).trans rfl
  have c15 : w1.cell? ⟨w.heap.size, 15, none⟩ = some (.int .i64 h15) := (cells_new hb1 15).trans rfl
  have hbw : Below w.heap.size w w1 := ((Below.refl _ _).alloc (Nat.le_refl _) _).trans (hb1.mono (by simp))
  have hbz := hbw.size
  clear hb1
  go_upto_region 5 with fail
  go_cut [9] (fun s wx => ∃ b : Bool, s = .bool b ∧ b = nEq h0 h1 0 0 ∧ w1 = wx)
  case first =>
    go_wp2_with fail
    go_meet
    exact ⟨_, rfl, rfl, rfl⟩
  case rest =>
    obtain ⟨b, rfl, hb, rfl⟩ := hcut
    have Ha := hide hb; clear hb
    cases b
    rotate_left
    · have e : tcode h0 h1 h8 h9 h10 h12 = 3 := by rw [tcode, ← Ha.out]; rfl
      have He := hide e; clear e
      go_wp2_with fail
      refine (transfer_any _ _ _ _ _ _ _ _ _ _ _ _ _ _ _ _ _).mono ?_
      rintro e w2 ⟨rfl, hb2⟩
      rw [He.out]
      go_wp2
      go_ret
      exact ⟨rfl, hbw.trans (hb2.mono hbz)⟩
    go_upto_region 7 with fail
    go_cut [14] (fun s wx => ∃ b : Bool, s = .bool b ∧ b = lawF h12 ∧ w1 = wx)
    case first =>
      by_cases hf0 : h12 < 0
      · go_wp2
        go_meet
        exact ⟨_, rfl, by simp [lawF, *], rfl⟩
      by_cases hf1 : 255 < h12
      · go_wp2
        go_meet
        exact ⟨_, rfl, by simp [lawF, *], rfl⟩
      obtain ⟨q0, q1⟩ := (sec_eq h12 (by omega) (by omega)).2
      have hn0 : decide (h12 < 0) = false := by simp; omega
      have hn1 : decide (255 < h12) = false := by simp; omega
      have Hn0 := hide hn0; have Hn1 := hide hn1; clear hn0 hn1
      rcases Bool.eq_false_or_eq_true (decide (1 < pc (bits .and .i64 h12 14))) with hp | hp
      · go_wp2_with (go_at_call 10; refine (bits_any _ _ q0 q1).mono ?_; rintro e w' ⟨rfl, rfl⟩)
        go_meet
        exact ⟨_, rfl, by rw [lawF, hp]; simp, rfl⟩
      rcases Bool.eq_false_or_eq_true (decide (0 < bits .and .i64 h12 192)) with hc | hc <;> rcases Bool.eq_false_or_eq_true (decide (0 < bits .and .i64 h12 48)) with hd | hd <;>
        rcases Bool.eq_false_or_eq_true (bits .and .i64 h12 2 == 0) with h2 | h2 <;> rcases Bool.eq_false_or_eq_true (decide (0 < bits .and .i64 h12 12)) with hs | hs
      all_goals
        go_wp2_with (go_at_call 10; refine (bits_any _ _ q0 q1).mono ?_; rintro e w' ⟨rfl, rfl⟩)
        go_meet
        exact ⟨_, rfl, by rw [lawF, Hn0.out, Hn1.out, hp, hc, hd, h2, hs]; rfl, rfl⟩
    case rest =>
      obtain ⟨b, rfl, hb, rfl⟩ := hcut
      rw [lawF_eq] at hb
      have Hf := hide hb; clear hb
      cases b
      rotate_left
      · have e : tcode h0 h1 h8 h9 h10 h12 = 4 := by rw [tcode, ← Ha.out, ← Hf.out]; rfl
        have He := hide e; clear e
        go_wp2_with fail
        refine (transfer_any _ _ _ _ _ _ _ _ _ _ _ _ _ _ _ _ _).mono ?_
        rintro e w2 ⟨rfl, hb2⟩
        rw [He.out]
        go_wp2
        go_ret
        exact ⟨rfl, hbw.trans (hb2.mono hbz)⟩
      obtain ⟨f0, f1⟩ := badF_range h12 Hf.out
      have hsec := (sec_eq h12 f0 f1).1
      have Hsec := hide hsec; clear hsec
      go_upto_region 9 with fail
      go_cut [47] (fun s wx => ∃ b : Bool, s = .bool b ∧ b = lawP h0 h1 h8 h9 h12 ∧ w1 = wx)
      case first =>
        rcases Bool.eq_false_or_eq_true (decide (0 < bits .and .i64 h12 12)) with hs | hs
        · have h12z : (bits .and .i64 h12 12 == 0) = false := by
            have e := Hsec.out
            rw [hs] at e
            simpa using e.symm
          rcases Bool.eq_false_or_eq_true (nEq h8 h9 0 0) with hz | hz <;> rcases Bool.eq_false_or_eq_true (nEq h8 h9 h0 h1) with he | he
          all_goals
            go_wp2
            go_meet
            exact ⟨_, rfl, by rw [lawP, hs, h12z, hz, he]; rfl, rfl⟩
        · have h12z : (bits .and .i64 h12 12 == 0) = true := by
            have e := Hsec.out
            rw [hs] at e
            simpa using e.symm
          rcases Bool.eq_false_or_eq_true (nEq h8 h9 0 0) with hz | hz
          all_goals
            go_wp2
            go_meet
            exact ⟨_, rfl, by rw [lawP, hs, h12z, hz]; rfl, rfl⟩
      case rest =>
        obtain ⟨b, rfl, hb, rfl⟩ := hcut
        rw [lawP_eq _ _ _ _ _ f0 f1] at hb
        have Hp := hide hb; clear hb
        cases b
        rotate_left
        · have e : tcode h0 h1 h8 h9 h10 h12 = 18 := by rw [tcode, ← Ha.out, ← Hf.out, ← Hp.out]; rfl
          have He := hide e; clear e
          go_wp2_with fail
          refine (transfer_any _ _ _ _ _ _ _ _ _ _ _ _ _ _ _ _ _).mono ?_
          rintro e w2 ⟨rfl, hb2⟩
          rw [He.out]
          go_wp2
          go_ret
          exact ⟨rfl, hbw.trans (hb2.mono hbz)⟩
        rcases Bool.eq_false_or_eq_true (h10 != 0) with ht | ht <;> rcases Bool.eq_false_or_eq_true (bits .and .i64 h12 2 == 0) with h2 | h2
        · have e : tcode h0 h1 h8 h9 h10 h12 = 19 := by rw [tcode, ← Ha.out, ← Hf.out, ← Hp.out, badT, ht, h2]; rfl
          have He := hide e; clear e
          go_wp2_with fail
          refine (transfer_any _ _ _ _ _ _ _ _ _ _ _ _ _ _ _ _ _).mono ?_
          rintro e w2 ⟨rfl, hb2⟩
          rw [He.out]
          go_wp2
          go_ret
          exact ⟨rfl, hbw.trans (hb2.mono hbz)⟩
        all_goals
          have e : tcode h0 h1 h8 h9 h10 h12 = 0 := by rw [tcode, ← Ha.out, ← Hf.out, ← Hp.out, badT, ht, h2]; rfl
          have He := hide e; clear e
          go_wp2_with fail
          refine (transfer_any _ _ _ _ _ _ _ _ _ _ _ _ _ _ _ _ _).mono ?_
          rintro e w2 ⟨rfl, hb2⟩
          rw [He.out]
          go_wp2
          go_ret
          exact ⟨rfl, hbw.trans (hb2.mono hbz)⟩
end Go.Proofs.Ytedejbanhhonbaa
