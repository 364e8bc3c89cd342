/- The contract of rule.sum at two numbers. -/
import Derived.Test.YtedejbanhhonbaaX12
namespace Go.Proofs.Ytedejbanhhonbaa
open Go.RowKit
attribute [local go_sem high] eqNum

/-- rule.sum's words: the sum, or the greatest number. -/
def mH (ah al bh bl : Int) : Int := if pO ah al bh bl = true then pH ah al bh bl else 18446744073709551615
def mL (ah al bh bl : Int) : Int := if pO ah al bh bl = true then pL ah al bh bl else 18446744073709551615
/-- The greatest word, UNDER A NAME. -/
def top : Int := 18446744073709551615

theorem Four.alloc {w : World} {g : Nat} {a b c d : Int} (h : Four w g a b c d) (o : Obj) : Four (w.alloc o) g a b c d := by
  obtain ⟨h0, h1, h2, h3⟩ := h
  have q : ∀ i, (w.alloc o).cell? ⟨g, i, none⟩ = w.cell? ⟨g, i, none⟩ := fun i => World.cell?_alloc_lt w o ⟨g, i, none⟩ (World.block_lt_of_cell? w ⟨g, 0, none⟩ h0)
  exact ⟨by rw [q, h0], by rw [q, h1], by rw [q, h2], by rw [q, h3]⟩

theorem max_top (w : World) :
    Calls Try.prog 26 #[] w fun e w' => e = .returned (.agg #[.int .u64 top, .int .u64 top]) ∧ ∃ c1 : Array Value, w' = (w.alloc (.cells c1 24)) := max_any w

set_option maxHeartbeats 1000000 in
/-- rule.sum at two numbers. -/
theorem sum_any (ah al bh bl : Int) (h0 : 0 ≤ ah ∧ ah < 18446744073709551616) (h1 : 0 ≤ al ∧ al < 18446744073709551616) (h2 : 0 ≤ bh ∧ bh < 18446744073709551616) (h3 : 0 ≤ bl ∧ bl < 18446744073709551616)
    (g : Nat) (w : World) (hc : Four w g ah al bh bl) :
    Calls Try.prog 25 #[.slice (some ⟨g, 0, none⟩) 2 2] w fun e w' => e = .returned (.agg #[.int .u64 (mH ah al bh bl), .int .u64 (mL ah al bh bl)]) ∧ Below w.heap.size w w' := by
  have HC := hide hc; clear hc
  have hA := add2_any ah al bh bl h0 h1 h2 h3 g _ (HC.out.alloc (.cells #[.int .u64 0, .int .u64 0] 24))
  have HA := hide hA; clear hA h0 h1 h2 h3 HC
  go_enter Try.func25, Try.ntmps25
  go_wp2_with fail
  refine HA.out.mono ?_
  rintro e w1 ⟨rfl, hb1⟩
  clear HA
  have hs := hb1.size
  simp at hs
  have hlt : w.heap.size < w1.heap.size := by omega
  have r0 : Row w1 w.heap.size 24 #[.int .u64 0, .int .u64 0] := (Row.new w 24 _).below hb1 (by simp)
  have hbw : Below w.heap.size w w1 := ((Below.refl _ _).alloc (Nat.le_refl _) _).trans (hb1.mono (by simp))
  have c0 : w1.cell? ⟨w.heap.size, 0, none⟩ = some (.int .u64 0) := (r0.cell 0).trans rfl
  have c1 : w1.cell? ⟨w.heap.size, 1, none⟩ = some (.int .u64 0) := (r0.cell 1).trans rfl
  have z0 := r0.frozen 0
  have z1 := r0.frozen 1
  have R0 := hide r0
  clear hb1 hs r0
  rcases Bool.eq_false_or_eq_true (pO ah al bh bl) with ho | ho
  · have eH : mH ah al bh bl = pH ah al bh bl := by rw [mH, ho]; rfl
    have eL : mL ah al bh bl = pL ah al bh bl := by rw [mL, ho]; rfl
    have EH := hide eH; have EL := hide eL; clear eH eL
    rw [ho]
    go_wp2
    refine bodyPost_ret (results_cell_row rfl _ _ w.heap.size 24 #[.int .u64 (pH ah al bh bl), .int .u64 (pL ah al bh bl)] (0, 0) _ rfl (((R0.out.set_ 0 _).set_ 1 _).alloc _) Try.underlying24 rfl (by kernel_rfl)) rfl ⟨by rw [EH.out, EL.out], ?_⟩
    exact ((hbw.setCell (p := ⟨w.heap.size, 0, none⟩) (Nat.le_refl _) _).setCell (p := ⟨w.heap.size, 1, none⟩) (Nat.le_refl _) _).alloc (by simp; omega) _
  · have eH : mH ah al bh bl = top := by rw [mH, ho]; rfl
    have eL : mL ah al bh bl = top := by rw [mL, ho]; rfl
    have EH := hide eH; have EL := hide eL; clear eH eL
    rw [ho]
    go_wp2_with (go_at_call 26; refine (max_top _).mono ?_; rintro e w' ⟨rfl, o1, rfl⟩)
    refine bodyPost_ret (results_cell_row rfl _ _ w.heap.size 24 #[.int .u64 top, .int .u64 top] (0, 0) _ rfl ((((R0.out.set_ 0 _).set_ 1 _).alloc _).alloc _) Try.underlying24 rfl (by kernel_rfl)) rfl ⟨by rw [EH.out, EL.out], ?_⟩
    exact (((hbw.setCell (p := ⟨w.heap.size, 0, none⟩) (Nat.le_refl _) _).setCell (p := ⟨w.heap.size, 1, none⟩) (Nat.le_refl _) _).alloc (by simp; omega) _).alloc (by simp; omega) _
end Go.Proofs.Ytedejbanhhonbaa
