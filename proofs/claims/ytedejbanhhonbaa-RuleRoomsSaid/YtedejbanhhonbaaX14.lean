/- The contract of rule.Within: is an account within its limits, as a plain function of its flags and sums. -/
import Derived.Test.YtedejbanhhonbaaX13
import Derived.Deep.DeepCutAuto
namespace Go.Proofs.Ytedejbanhhonbaa
open Go.RowKit
attribute [local go_sem high] eqNum

/-- An account's cells: its flags (3), its sums (4 to 11), each a word. -/
structure Acc (cs : Array Value) (f dph dpl dh dl cph cpl ch cl : Int) : Prop where
  size : cs.size = 46
  k3 : cs[3]? = some (.int .i64 f)
  k4 : cs[4]? = some (.int .u64 dph)
  k5 : cs[5]? = some (.int .u64 dpl)
  k6 : cs[6]? = some (.int .u64 dh)
  k7 : cs[7]? = some (.int .u64 dl)
  k8 : cs[8]? = some (.int .u64 cph)
  k9 : cs[9]? = some (.int .u64 cpl)
  k10 : cs[10]? = some (.int .u64 ch)
  k11 : cs[11]? = some (.int .u64 cl)
  b4 : 0 ≤ dph ∧ dph < 18446744073709551616
  b5 : 0 ≤ dpl ∧ dpl < 18446744073709551616
  b6 : 0 ≤ dh ∧ dh < 18446744073709551616
  b7 : 0 ≤ dl ∧ dl < 18446744073709551616
  b8 : 0 ≤ cph ∧ cph < 18446744073709551616
  b9 : 0 ≤ cpl ∧ cpl < 18446744073709551616
  b10 : 0 ≤ ch ∧ ch < 18446744073709551616
  b11 : 0 ≤ cl ∧ cl < 18446744073709551616

/-- One side within its limit: pending and posted together are no more than the other side's posted. -/
def side (ph pl h l oh ol : Int) : Bool := pO ph pl h l && decide (cmp (pH ph pl h l) (pL ph pl h l) oh ol ≤ 0)
/-- rule.Within's answer. -/
def winB (f dph dpl dh dl cph cpl ch cl : Int) : Bool := ((bits .and .i64 f 2 == 0) || side dph dpl dh dl ch cl) && ((bits .and .i64 f 4 == 0) || side cph cpl ch cl dh dl)

set_option maxRecDepth 100000 in
set_option maxHeartbeats 1000000 in
/-- rule.Within, at whatever account. -/
theorem within_any (cs : Array Value) (f dph dpl dh dl cph cpl ch cl : Int) (ac : Acc cs f dph dpl dh dl cph cpl ch cl) (w : World) :
    Calls Try.prog 19 #[.agg cs] w fun e w' => e = .returned (.bool (winB f dph dpl dh dl cph cpl ch cl)) ∧ Below w.heap.size w w' := by
  have HAC := hide ac
  have k4 := ac.k4; have k5 := ac.k5; have k6 := ac.k6; have k7 := ac.k7; have k8 := ac.k8; have k9 := ac.k9; have k10 := ac.k10; have k11 := ac.k11
  clear ac
  go_enter Try.func19, Try.ntmps19
  go_wp2_with fail
  refine (add2_any dph dpl dh dl HAC.out.b4 HAC.out.b5 HAC.out.b6 HAC.out.b7 _ _ ⟨by simp [go_sem], by simp [go_sem], by simp [go_sem], by simp [go_sem]⟩).mono ?_
  rintro e w1 ⟨rfl, hb1⟩
  have hs1 := hb1.size
  simp at hs1
  have ra : Row w1 w.heap.size 39 cs := ((Row.new w 39 cs).alloc _).below hb1 (by simp; omega)
  have hB1 : Below w.heap.size w w1 := (((Below.refl _ _).alloc (Nat.le_refl _) _).alloc (by simp) _).trans (hb1.mono (by simp; omega))
  have hl1 : w.heap.size < w1.heap.size := by omega
  clear hb1 hs1
  have c8 := (ra.cell 8).trans k8
  have c9 := (ra.cell 9).trans k9
  have c10 := (ra.cell 10).trans k10
  have c11 := (ra.cell 11).trans k11
  have RA := hide ra; clear ra k8 k9 k10 k11 k4 k5 k6 k7
  go_wp2_with fail
  refine (add2_any cph cpl ch cl HAC.out.b8 HAC.out.b9 HAC.out.b10 HAC.out.b11 _ _ ⟨by simp [go_sem], by simp [go_sem], by simp [go_sem], by simp [go_sem]⟩).mono ?_
  rintro e w2 ⟨rfl, hb2⟩
  have hs2 := hb2.size
  simp at hs2
  have ra : Row w2 w.heap.size 39 cs := ((RA.out.alloc _).alloc _).below hb2 (by simp; omega)
  have rd : Row w2 w1.heap.size 24 #[.int .u64 (pH dph dpl dh dl), .int .u64 (pL dph dpl dh dl)] := ((Row.new w1 24 _).alloc _).below hb2 (by simp; omega)
  have hB2 : Below w.heap.size w w2 := ((hB1.alloc (Nat.le_of_lt hl1) _).alloc (by simp; omega) _).trans (hb2.mono (by simp; omega))
  clear hb2 c8 c9 c10 c11 RA hB1
  have hl2 : w1.heap.size < w2.heap.size := by omega
  clear hs2
  generalize w1.heap.size = gD at rd hl1 hl2 ⊢
  have RA := hide ra; have RD := hide rd; clear ra rd
  go_upto_region 3 with fail
  have ra := RA.out.alloc (.cells #[.int .u64 (pH cph cpl ch cl), .int .u64 (pL cph cpl ch cl)] 24)
  have rd := RD.out.alloc (.cells #[.int .u64 (pH cph cpl ch cl), .int .u64 (pL cph cpl ch cl)] 24)
  have rc := Row.new w2 24 #[.int .u64 (pH cph cpl ch cl), .int .u64 (pL cph cpl ch cl)]
  have hB := hB2.alloc hB2.size (.cells #[.int .u64 (pH cph cpl ch cl), .int .u64 (pL cph cpl ch cl)] 24)
  clear RA RD hB2
  have hl3 : w.heap.size < w2.heap.size := by omega
  generalize (w2.alloc (.cells #[.int .u64 (pH cph cpl ch cl), .int .u64 (pL cph cpl ch cl)] 24)) = W at ra rd rc hB ⊢
  generalize w2.heap.size = gC at rc hl2 hl3 ⊢
  have hz := hB.size
  generalize hod : pO dph dpl dh dl = oD
  have Hod := hide hod; clear hod
  go_cut [39] (fun s wx => ∃ b : Bool, s = .bool b ∧ b = !((bits .and .i64 f 2 == 0) || side dph dpl dh dl ch cl) ∧ Row wx w.heap.size 39 cs ∧ Row wx gC 24 #[.int .u64 (pH cph cpl ch cl), .int .u64 (pL cph cpl ch cl)] ∧ Below w.heap.size w wx)
  case first =>
    have c3 := (ra.cell 3).trans HAC.out.k3
    have c10 := (ra.cell 10).trans HAC.out.k10
    have c11 := (ra.cell 11).trans HAC.out.k11
    have d0 : W.cell? ⟨gD, 0, none⟩ = some (.int .u64 (pH dph dpl dh dl)) := (rd.cell 0).trans rfl
    have d1 : W.cell? ⟨gD, 1, none⟩ = some (.int .u64 (pL dph dpl dh dl)) := (rd.cell 1).trans rfl
    have RA := hide ra; have RC := hide rc; clear ra rd rc
    rcases Bool.eq_false_or_eq_true (bits .and .i64 f 2 != 0) with h2 | h2
    rotate_left
    · have e2 : (bits .and .i64 f 2 == 0) = true := by simpa using h2
      have E2 := hide e2; clear e2
      go_wp2_with fail
      go_meet
      exact ⟨_, rfl, by rw [E2.out]; rfl, RA.out, RC.out, hB⟩
    have e2 : (bits .and .i64 f 2 == 0) = false := by simpa using h2
    have E2 := hide e2; clear e2
    cases oD
    · have od := Hod.out
      have e3 : side dph dpl dh dl ch cl = false := by rw [side, od]; rfl
      have E3 := hide e3; clear e3 od
      go_wp2_with fail
      go_meet
      exact ⟨_, rfl, by rw [E2.out, E3.out]; rfl, RA.out, RC.out, hB⟩
    have od := Hod.out
    have e3 : side dph dpl dh dl ch cl = decide (cmp (pH dph dpl dh dl) (pL dph dpl dh dl) ch cl ≤ 0) := by rw [side, od]; rfl
    have E3 := hide e3; clear e3 od
    go_wp2_with fail
    refine (compare_any _ _ _ _ _).mono ?_
    rintro e w3 ⟨rfl, hb3⟩
    have hB3 := hB.trans (hb3.mono hz)
    have ra := RA.out.below hb3 RA.out.lt
    have rc := RC.out.below hb3 RC.out.lt
    clear RA RC hb3 c3 c10 c11 d0 d1
    have RA := hide ra; have RC := hide rc; clear ra rc
    by_cases hc : cmp (pH dph dpl dh dl) (pL dph dpl dh dl) ch cl ≤ 0
    · have e4 := decide_eq_true hc
      have E4 := hide e4; clear e4
      go_wp2
      go_meet
      exact ⟨_, rfl, by rw [E2.out, E3.out, E4.out]; simp <;> omega, RA.out, RC.out, hB3⟩
    · have e4 := decide_eq_false hc
      have E4 := hide e4; clear e4
      go_wp2
      go_meet
      exact ⟨_, rfl, by rw [E2.out, E3.out, E4.out]; simp <;> omega, RA.out, RC.out, hB3⟩
  case rest =>
    obtain ⟨b, rfl, hb, ra, rc, hB'⟩ := hcut
    have Hb := hide hb; clear hb hB rd
    cases b
    rotate_left
    · have e : winB f dph dpl dh dl cph cpl ch cl = false := by
        have h := Hb.out
        cases h1 : ((bits .and .i64 f 2 == 0) || side dph dpl dh dl ch cl) <;> simp [h1] at h
        simp [winB, h1]
      have E := hide e; clear e
      go_wp2
      go_ret
      exact ⟨by rw [E.out]; rfl, hB'⟩
    have e : winB f dph dpl dh dl cph cpl ch cl = ((bits .and .i64 f 4 == 0) || side cph cpl ch cl dh dl) := by
      have h := Hb.out
      cases h1 : ((bits .and .i64 f 2 == 0) || side dph dpl dh dl ch cl) <;> simp [h1] at h
      simp [winB, h1]
    have E := hide e; clear e
    have c3 := (ra.cell 3).trans HAC.out.k3
    have c6 := (ra.cell 6).trans HAC.out.k6
    have c7 := (ra.cell 7).trans HAC.out.k7
    have d0 : wc.cell? ⟨gC, 0, none⟩ = some (.int .u64 (pH cph cpl ch cl)) := (rc.cell 0).trans rfl
    have d1 : wc.cell? ⟨gC, 1, none⟩ = some (.int .u64 (pL cph cpl ch cl)) := (rc.cell 1).trans rfl
    clear ra rc
    have hz' := hB'.size
    rcases Bool.eq_false_or_eq_true (bits .and .i64 f 4 == 0) with h4 | h4
    · go_wp2
      go_ret
      exact ⟨by rw [E.out, h4]; rfl, hB'⟩
    rcases Bool.eq_false_or_eq_true (pO cph cpl ch cl) with oc | oc
    rotate_left
    · have e3 : side cph cpl ch cl dh dl = false := by rw [side, oc]; rfl
      have E3 := hide e3; clear e3
      rw [oc]
      go_wp2
      go_ret
      exact ⟨by rw [E.out, h4, E3.out]; rfl, hB'⟩
    have e3 : side cph cpl ch cl dh dl = decide (cmp (pH cph cpl ch cl) (pL cph cpl ch cl) dh dl ≤ 0) := by rw [side, oc]; rfl
    have E3 := hide e3; clear e3
    rw [oc]
    go_wp2_with fail
    refine (compare_any _ _ _ _ _).mono ?_
    rintro e w3 ⟨rfl, hb3⟩
    go_wp2
    go_ret
    exact ⟨by rw [E.out, h4, E3.out]; rfl, hB'.trans (hb3.mono hz')⟩
end Go.Proofs.Ytedejbanhhonbaa
