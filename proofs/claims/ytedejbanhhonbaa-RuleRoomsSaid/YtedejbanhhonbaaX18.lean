/- What the law RuleRooms says, without a program. -/
import Derived.Test.YtedejbanhhonbaaX16
import Derived.Test.YtedejbanhhonbaaB1
namespace Go.Proofs.Ytedejbanhhonbaa
open Go.RowKit

theorem and_i (a b : Int) : bits .and .i64 a b = vi (BitVec.ofInt 64 a &&& BitVec.ofInt 64 b) := rfl
theorem six_two {f : Int} (h : (bits .and .i64 f 6 == 2) = true) : (bits .and .i64 f 2 == 0) = false ∧ (bits .and .i64 f 4 == 0) = true := by
  have h1 : bits .and .i64 f 6 = 2 := by simpa using h
  have e2 : vi (BitVec.ofInt 64 2) = 2 := by decide
  rw [and_i, ← e2] at h1
  have h2 := vi_inj h1
  have a2 : BitVec.ofInt 64 f &&& BitVec.ofInt 64 2 = BitVec.ofInt 64 2 := by
    have e : BitVec.ofInt 64 6 &&& BitVec.ofInt 64 2 = BitVec.ofInt 64 2 := by decide
    have e' : BitVec.ofInt 64 2 &&& BitVec.ofInt 64 2 = BitVec.ofInt 64 2 := by decide
    rw [← e, ← BitVec.and_assoc, h2, e, e']
  have a4 : BitVec.ofInt 64 f &&& BitVec.ofInt 64 4 = 0#64 := by
    have e : BitVec.ofInt 64 4 = BitVec.ofInt 64 6 &&& BitVec.ofInt 64 4 := by decide
    rw [e, ← BitVec.and_assoc, h2]
    decide
  have e4 : vi 0#64 = 0 := by decide
  refine ⟨?_, ?_⟩
  · rw [and_i, a2, e2]; rfl
  · rw [and_i, a4, e4]; rfl

/-- What Room answers is what the law works out: the difference where the sum fits, 0 where it does not. -/
theorem room_yes {ah al bh bl : Int} (h : pO ah al bh bl = true) : mH ah al bh bl = pH ah al bh bl ∧ mL ah al bh bl = pL ah al bh bl := by
  simp [mH, mL, h]
theorem room_no {ah al bh bl ch cl : Int} (a : W2 ah al) (b : W2 bh bl) (c : W2 ch cl) (h : pO ah al bh bl = false) :
    qH ch cl (mH ah al bh bl) (mL ah al bh bl) = 0 ∧ qL ch cl (mH ah al bh bl) (mL ah al bh bl) = 0 := by
  obtain ⟨m1, m2, m3⟩ := m_spec ah al bh bl a b
  obtain ⟨q1, q2, q3⟩ := q_spec ch cl _ _ c m1
  have hm := m3 h
  have hc : nv ch cl < 340282366920938463463374607431768211456 := by unfold W2 nv at *; omega
  refine zero2 q1 ?_
  rcases (show nv (mH ah al bh bl) (mL ah al bh bl) ≤ nv ch cl ∨ nv ch cl < nv (mH ah al bh bl) (mL ah al bh bl) by omega) with h1 | h1
  · rw [q2 h1]; omega
  · exact q3 h1

/-- Who is within his debit limit: n more pending is within just where n is no more than the room. -/
theorem rooms_last {f dph dpl dh dl cph cpl ch cl nh nl : Int} (a : W2 dph dpl) (b : W2 dh dl) (c : W2 ch cl) (n : W2 nh nl) (h6 : (bits .and .i64 f 6 == 2) = true)
    (hw : winB f dph dpl dh dl cph cpl ch cl = true) (ho : pO dph dpl nh nl = true) :
    winB f (pH dph dpl nh nl) (pL dph dpl nh nl) dh dl cph cpl ch cl =
      decide (cmp nh nl (qH ch cl (mH dph dpl dh dl) (mL dph dpl dh dl)) (qL ch cl (mH dph dpl dh dl) (mL dph dpl dh dl)) ≤ 0) := by
  obtain ⟨f2, f4⟩ := six_two h6
  simp only [winB, f2, f4, Bool.false_or, Bool.true_or, Bool.and_true] at hw ⊢
  obtain ⟨m1, m2, m3⟩ := m_spec dph dpl dh dl a b
  obtain ⟨p1, p2, p3⟩ := p_spec dph dpl dh dl a b
  obtain ⟨q1, q2, q3⟩ := q_spec ch cl _ _ c m1
  obtain ⟨s1, s2, s3⟩ := p_spec dph dpl nh nl a n
  have hle := (side_spec dph dpl dh dl ch cl a b c).1 hw
  have hc : nv ch cl < 340282366920938463463374607431768211456 := by unfold W2 nv at *; omega
  have hpo : pO dph dpl dh dl = true := by
    cases h : pO dph dpl dh dl
    · have := (p3 h).2; omega
    · rfl
  have hm := m2 hpo
  have hr := q2 (by omega)
  have hs := side_spec (pH dph dpl nh nl) (pL dph dpl nh nl) dh dl ch cl s1 b c
  have hcmp := cmp_spec nh nl _ _ n q1
  have hv := (s2 ho).1
  rw [Bool.eq_iff_iff, hs, decide_eq_true_eq, hcmp]
  omega
#print axioms rooms_last
end Go.Proofs.Ytedejbanhhonbaa
