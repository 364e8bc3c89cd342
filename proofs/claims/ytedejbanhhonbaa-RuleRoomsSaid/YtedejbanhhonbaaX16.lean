/- Plain arithmetic of numbers of 128 bits as two words: sums, differences, comparisons; what the laws RuleRooms and RuleLimits say, without a program. -/
import Derived.Test.YtedejbanhhonbaaX14
namespace Go.Proofs.Ytedejbanhhonbaa
open Go.RowKit

/-- Two words. -/
def W2 (h l : Int) : Prop := (0 ≤ h ∧ h < 18446744073709551616) ∧ (0 ≤ l ∧ l < 18446744073709551616)
/-- The number that two words are. -/
def nv (h l : Int) : Int := h * 18446744073709551616 + l

theorem nv_eq {h l h' l' : Int} (a : W2 h l) (b : W2 h' l') (e : nv h l = nv h' l') : h = h' ∧ l = l' := by
  unfold W2 nv at *; omega
theorem zero2 {h l : Int} (a : W2 h l) (e : nv h l = 0) : h = 0 ∧ l = 0 := by
  unfold W2 nv at *; omega
theorem p_spec (ah al bh bl : Int) (a : W2 ah al) (b : W2 bh bl) :
    W2 (pH ah al bh bl) (pL ah al bh bl) ∧ (pO ah al bh bl = true → nv (pH ah al bh bl) (pL ah al bh bl) = nv ah al + nv bh bl ∧ nv ah al + nv bh bl < 340282366920938463463374607431768211456) ∧
      (pO ah al bh bl = false → nv (pH ah al bh bl) (pL ah al bh bl) = 0 ∧ 340282366920938463463374607431768211456 ≤ nv ah al + nv bh bl) := by
  unfold W2 at *
  cases ho : pO ah al bh bl
  · have h := ho
    simp only [pO, decide_eq_false_iff_not] at h
    simp only [pH, pL, ho, nv]
    refine ⟨by simp, by simp, fun _ => ⟨by simp, by omega⟩⟩
  · have h := ho
    simp only [pO, decide_eq_true_eq] at h
    simp only [pH, pL, ho, if_true, nv]
    refine ⟨by omega, fun _ => ⟨by omega, by omega⟩, by simp⟩
theorem q_spec (ah al bh bl : Int) (a : W2 ah al) (b : W2 bh bl) :
    W2 (qH ah al bh bl) (qL ah al bh bl) ∧ (nv bh bl ≤ nv ah al → nv (qH ah al bh bl) (qL ah al bh bl) = nv ah al - nv bh bl) ∧
      (nv ah al < nv bh bl → nv (qH ah al bh bl) (qL ah al bh bl) = 0) := by
  unfold W2 at *
  obtain ⟨c, hc⟩ : ∃ c : Int, c = if al < bl then 1 else 0 := ⟨_, rfl⟩
  have hc' : (al < bl ∧ c = 1) ∨ (bl ≤ al ∧ c = 0) := by
    rw [hc]; by_cases h : al < bl
    · left; exact ⟨h, if_pos h⟩
    · right; exact ⟨by omega, if_neg h⟩
  cases ho : qO ah al bh bl
  · have h := ho
    simp only [qO, decide_eq_false_iff_not, ← hc] at h
    simp only [qH, qL, ho, nv]
    refine ⟨by simp, fun _ => by simp; omega, fun _ => by simp⟩
  · have h := ho
    simp only [qO, decide_eq_true_eq, ← hc] at h
    simp only [qH, qL, ho, if_true, nv, ← hc]
    refine ⟨by omega, fun _ => by omega, fun _ => by omega⟩
theorem cmp_spec (ah al bh bl : Int) (a : W2 ah al) (b : W2 bh bl) : cmp ah al bh bl ≤ 0 ↔ nv ah al ≤ nv bh bl := by
  unfold W2 nv at *
  have hn : nEq ah al bh bl = true ↔ ah = bh ∧ al = bl := by simp [nEq]
  unfold cmp
  by_cases h1 : ah < bh
  · rw [if_pos h1]; omega
  rw [if_neg h1]
  by_cases h2 : ah = bh ∧ al < bl
  · rw [if_pos h2]; omega
  rw [if_neg h2]
  by_cases h3 : nEq ah al bh bl = true
  · rw [if_pos h3]; have := hn.1 h3; omega
  · rw [if_neg h3]
    have h4 : ¬ (ah = bh ∧ al = bl) := fun h => h3 (hn.2 h)
    omega
theorem m_spec (ah al bh bl : Int) (a : W2 ah al) (b : W2 bh bl) :
    W2 (mH ah al bh bl) (mL ah al bh bl) ∧ (pO ah al bh bl = true → nv (mH ah al bh bl) (mL ah al bh bl) = nv ah al + nv bh bl) ∧
      (pO ah al bh bl = false → nv (mH ah al bh bl) (mL ah al bh bl) = 340282366920938463463374607431768211455) := by
  obtain ⟨h1, h2, h3⟩ := p_spec ah al bh bl a b
  cases ho : pO ah al bh bl
  · simp only [mH, mL, ho, W2, nv]
    refine ⟨by simp, by simp, fun _ => by simp⟩
  · simp only [mH, mL, ho, if_true]
    exact ⟨h1, fun _ => (h2 ho).1, by simp⟩
theorem side_spec (ph pl h l oh ol : Int) (a : W2 ph pl) (b : W2 h l) (c : W2 oh ol) : side ph pl h l oh ol = true ↔ nv ph pl + nv h l ≤ nv oh ol := by
  obtain ⟨h1, h2, h3⟩ := p_spec ph pl h l a b
  have hm : nv oh ol < 340282366920938463463374607431768211456 := by unfold W2 nv at *; omega
  cases ho : pO ph pl h l
  · simp only [side, ho]
    have := (h3 ho).2
    simp; omega
  · have h4 := cmp_spec (pH ph pl h l) (pL ph pl h l) oh ol h1 c
    have h5 := (h2 ho).1
    simp only [side, ho, Bool.true_and, decide_eq_true_eq]
    rw [h4, h5]

/-! ### RuleLimits -/
theorem win0 (dph dpl dh dl cph cpl ch cl : Int) : winB 0 dph dpl dh dl cph cpl ch cl = true := by
  have h2 : (bits .and .i64 0 2 == 0) = true := by decide
  have h4 : (bits .and .i64 0 4 == 0) = true := by decide
  simp [winB, h2, h4]
theorem win2 (dph dpl dh dl cph cpl ch cl : Int) : winB 2 dph dpl dh dl cph cpl ch cl = side dph dpl dh dl ch cl := by
  have h2 : (bits .and .i64 2 2 == 0) = false := by decide
  have h4 : (bits .and .i64 2 4 == 0) = true := by decide
  simp [winB, h2, h4]
theorem win4 (dph dpl dh dl cph cpl ch cl : Int) : winB 4 dph dpl dh dl cph cpl ch cl = side cph cpl ch cl dh dl := by
  have h2 : (bits .and .i64 4 2 == 0) = true := by decide
  have h4 : (bits .and .i64 4 4 == 0) = false := by decide
  simp [winB, h2, h4]
theorem win6 (dph dpl dh dl cph cpl ch cl : Int) : winB 6 dph dpl dh dl cph cpl ch cl = (side dph dpl dh dl ch cl && side cph cpl ch cl dh dl) := by
  have h2 : (bits .and .i64 6 2 == 0) = false := by decide
  have h4 : (bits .and .i64 6 4 == 0) = false := by decide
  simp [winB, h2, h4]
/-- Who is not within has no room. -/
theorem room_none {dph dpl dh dl ch cl : Int} (a : W2 dph dpl) (b : W2 dh dl) (c : W2 ch cl) (hs : side dph dpl dh dl ch cl = false) :
    nEq (qH ch cl (mH dph dpl dh dl) (mL dph dpl dh dl)) (qL ch cl (mH dph dpl dh dl) (mL dph dpl dh dl)) 0 0 = true := by
  obtain ⟨m1, m2, m3⟩ := m_spec dph dpl dh dl a b
  obtain ⟨p1, p2, p3⟩ := p_spec dph dpl dh dl a b
  obtain ⟨q1, q2, q3⟩ := q_spec ch cl _ _ c m1
  have hss := side_spec dph dpl dh dl ch cl a b c
  have hns : ¬ nv dph dpl + nv dh dl ≤ nv ch cl := fun h => by rw [hss.2 h] at hs; cases hs
  have hc : nv ch cl < 340282366920938463463374607431768211456 := by unfold W2 nv at *; omega
  have e : nv (qH ch cl (mH dph dpl dh dl) (mL dph dpl dh dl)) (qL ch cl (mH dph dpl dh dl) (mL dph dpl dh dl)) = 0 := by
    cases ho : pO dph dpl dh dl
    · have := m3 ho
      rcases (show nv (mH dph dpl dh dl) (mL dph dpl dh dl) ≤ nv ch cl ∨ nv ch cl < nv (mH dph dpl dh dl) (mL dph dpl dh dl) by omega) with h | h
      · rw [q2 h]; omega
      · exact q3 h
    · have := m2 ho
      exact q3 (by omega)
  obtain ⟨e1, e2⟩ := zero2 q1 e
  simp [nEq, e1, e2]
/-- Who is within, and is debited by all the room that is left: is within, and has no room. -/
theorem room_full {dph dpl dh dl ch cl rh rl : Int} (a : W2 dph dpl) (b : W2 dh dl) (c : W2 ch cl) (hs : side dph dpl dh dl ch cl = true)
    (er : rh = qH ch cl (mH dph dpl dh dl) (mL dph dpl dh dl)) (er' : rl = qL ch cl (mH dph dpl dh dl) (mL dph dpl dh dl)) :
    W2 rh rl ∧ W2 (pH dh dl rh rl) (pL dh dl rh rl) ∧ side dph dpl (pH dh dl rh rl) (pL dh dl rh rl) ch cl = true ∧
      nEq (qH ch cl (mH dph dpl (pH dh dl rh rl) (pL dh dl rh rl)) (mL dph dpl (pH dh dl rh rl) (pL dh dl rh rl)))
        (qL ch cl (mH dph dpl (pH dh dl rh rl) (pL dh dl rh rl)) (mL dph dpl (pH dh dl rh rl) (pL dh dl rh rl))) 0 0 = true := by
  obtain ⟨m1, m2, m3⟩ := m_spec dph dpl dh dl a b
  obtain ⟨p1, p2, p3⟩ := p_spec dph dpl dh dl a b
  obtain ⟨q1, q2, q3⟩ := q_spec ch cl _ _ c m1
  rw [← er, ← er'] at q1 q2 q3
  have hle := (side_spec dph dpl dh dl ch cl a b c).1 hs
  have hc : nv ch cl < 340282366920938463463374607431768211456 := by unfold W2 nv at *; omega
  have hpo : pO dph dpl dh dl = true := by
    cases ho : pO dph dpl dh dl
    · have := (p3 ho).2; omega
    · rfl
  have hm := m2 hpo
  have hr := q2 (by omega)
  have hd0 : 0 ≤ nv dh dl := by unfold W2 nv at *; omega
  have hp0 : 0 ≤ nv dph dpl := by unfold W2 nv at *; omega
  obtain ⟨s1, s2, s3⟩ := p_spec dh dl rh rl b q1
  have hpo2 : pO dh dl rh rl = true := by
    cases ho : pO dh dl rh rl
    · have := (s3 ho).2; omega
    · rfl
  have hd' := (s2 hpo2).1
  have hside := (side_spec dph dpl _ _ ch cl a s1 c).2 (by omega)
  obtain ⟨t1, t2, t3⟩ := m_spec dph dpl _ _ a s1
  obtain ⟨u1, u2, u3⟩ := p_spec dph dpl _ _ a s1
  have hpo3 : pO dph dpl (pH dh dl rh rl) (pL dh dl rh rl) = true := by
    cases ho : pO dph dpl (pH dh dl rh rl) (pL dh dl rh rl)
    · have := (u3 ho).2; omega
    · rfl
  obtain ⟨v1, v2, v3⟩ := q_spec ch cl _ _ c t1
  have hfin := v2 (by rw [t2 hpo3]; omega)
  rw [t2 hpo3] at hfin
  obtain ⟨e1, e2⟩ := zero2 v1 (by omega)
  exact ⟨q1, s1, hside, by simp [nEq, e1, e2]⟩
#print axioms room_full
end Go.Proofs.Ytedejbanhhonbaa
