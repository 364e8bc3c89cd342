/- The walk of the law RuleLimits: it returns true at whatever account. -/
import Derived.Test.YtedejbanhhonbaaX3
import Derived.Test.YtedejbanhhonbaaX15
import Derived.Test.YtedejbanhhonbaaX16
namespace Go.Proofs.Ytedejbanhhonbaa
open Go.RowKit
attribute [local go_sem high] eqNum

theorem set_one {cs : Array Value} (h : cs.all (·.oneCell') = true) (k : Nat) (v : Value) (hv : v.oneCell' = true) : (cs.setIfInBounds k v).all (·.oneCell') = true := by
  rw [Array.all_eq_true_iff_forall_mem] at *
  intro x hx
  rcases Array.mem_or_eq_of_mem_setIfInBounds hx with h1 | h1
  · exact h x h1
  · rw [h1]; exact hv
theorem Acc.flags {cs : Array Value} {f dph dpl dh dl cph cpl ch cl : Int} (h : Acc cs f dph dpl dh dl cph cpl ch cl) (k : Int) : Acc (cs.setIfInBounds 3 (.int .i64 k)) k dph dpl dh dl cph cpl ch cl where
  size := by simp [h.size]
  k3 := by simp [h.size]
  k4 := by simp [h.k4]
  k5 := by simp [h.k5]
  k6 := by simp [h.k6]
  k7 := by simp [h.k7]
  k8 := by simp [h.k8]
  k9 := by simp [h.k9]
  k10 := by simp [h.k10]
  k11 := by simp [h.k11]
  b4 := h.b4
  b5 := h.b5
  b6 := h.b6
  b7 := h.b7
  b8 := h.b8
  b9 := h.b9
  b10 := h.b10
  b11 := h.b11
theorem Acc.posted {cs : Array Value} {f dph dpl dh dl cph cpl ch cl : Int} (h : Acc cs f dph dpl dh dl cph cpl ch cl) {x y : Int} (hx : W2 x y) :
    Acc ((cs.setIfInBounds 6 (.int .u64 x)).setIfInBounds 7 (.int .u64 y)) f dph dpl x y cph cpl ch cl where
  size := by simp [h.size]
  k3 := by simp [h.k3]
  k6 := by simp [h.size]
  k7 := by simp [h.size]
  k4 := by simp [h.k4]
  k5 := by simp [h.k5]
  k8 := by simp [h.k8]
  k9 := by simp [h.k9]
  k10 := by simp [h.k10]
  k11 := by simp [h.k11]
  b4 := h.b4
  b5 := h.b5
  b8 := h.b8
  b9 := h.b9
  b10 := h.b10
  b11 := h.b11
  b6 := hx.1
  b7 := hx.2

set_option maxRecDepth 100000 in
set_option maxHeartbeats 4000000 in
/-- RuleLimits, walked. -/
theorem limits_walk (cs : Array Value) (f dph dpl dh dl cph cpl ch cl : Int) (ac : Acc cs f dph dpl dh dl cph cpl ch cl) (hone : cs.all (·.oneCell') = true) (w : World) :
    Calls Try.prog 8 #[.agg cs] w fun e w' => e = .returned (.bool true) ∧ Below w.heap.size w w' := by
  have e0 := win0 dph dpl dh dl cph cpl ch cl
  have e2 := win2 dph dpl dh dl cph cpl ch cl
  have e4 := win4 dph dpl dh dl cph cpl ch cl
  have e6 := win6 dph dpl dh dl cph cpl ch cl
  have nl := fun h => room_none (dph := dph) (dpl := dpl) (dh := dh) (dl := dl) (ch := ch) (cl := cl) ⟨ac.b4, ac.b5⟩ ⟨ac.b6, ac.b7⟩ ⟨ac.b10, ac.b11⟩ h
  have fl := fun h rh rl e e' => room_full (dph := dph) (dpl := dpl) (dh := dh) (dl := dl) (ch := ch) (cl := cl) (rh := rh) (rl := rl) ⟨ac.b4, ac.b5⟩ ⟨ac.b6, ac.b7⟩ ⟨ac.b10, ac.b11⟩ h e e'
  generalize hsD : side dph dpl dh dl ch cl = sD at e2 e6 nl fl
  generalize hsC : side cph cpl ch cl dh dl = sC at e4 e6
  have E0 := hide e0; have E2 := hide e2; have E4 := hide e4; have E6 := hide e6; have NL := hide nl; have FL := hide fl; have HAC := hide ac
  clear e0 e2 e4 e6 nl fl ac hsD hsC
  go_enter Try.func8, Try.ntmps8
  go_wp2_with fail
  refine (fit_any _).mono ?_
  rintro e w1 ⟨rfl, hb1⟩
  have ra : Row w1 w.heap.size 39 cs := (Row.new w 39 cs).below hb1 (by simp)
  have hB : Below w.heap.size w w1 := ((Below.refl _ _).alloc (Nat.le_refl _) _).trans (hb1.mono (by simp))
  have hge := hB.size
  have RA := hide ra; clear ra hb1
  go_upto_region 4 with (first | (refine load_A RA.out rfl rfl rfl HAC.out.size ?_) | (refine store_A rfl rfl rfl rfl HAC.out.size rfl hone ?_; (try simp only [Act.put, List.setIfInBounds_toArray, List.set_cons_zero, List.set_cons_succ])) | fail)
  have rb := Row.new w1 39 cs
  have hB1 := hB.alloc hge (.cells cs 39)
  clear RA hB
  have hB := hB1; clear hB1
  generalize w1.alloc (.cells cs 39) = V0 at rb hB ⊢
  generalize w1.heap.size = gB at rb hge ⊢
  have c3 := (rb.cell 3).trans HAC.out.k3
  have z3 := rb.frozen 3
  have RB := hide rb; clear rb
  go_upto_region 4 with fail
  go_cut [10] (fun _ wx => wx = V0.setCell ⟨gB, 3, none⟩ (.int .i64 0))
  case first =>
    go_wp2_with fail
    go_meet
    exact rfl
  obtain rfl := hcut
  have rb := RB.out.set_ 3 (.int .i64 0)
  have hB1 := hB.setCell (p := ⟨gB, 3, none⟩) hge (.int .i64 0)
  have ac := HAC.out.flags 0
  have hone1 := set_one hone 3 (.int .i64 0) rfl
  clear RB HAC c3 z3 hB hone
  have hB := hB1; have hone := hone1; clear hB1 hone1
  generalize V0.setCell ⟨gB, 3, none⟩ (.int .i64 0) = V1 at rb hB ⊢
  generalize cs.setIfInBounds 3 (.int .i64 0) = B1 at rb ac hone
  have HAC := hide ac; clear ac
  have RB := hide rb; clear rb
  go_wp2_with (first | (refine load_A RB.out rfl rfl rfl HAC.out.size ?_) | fail)
  refine (within_any B1 0 dph dpl dh dl cph cpl ch cl HAC.out _).mono ?_
  rintro e V2 ⟨rfl, hb⟩
  rw [E0.out]
  have rb := RB.out.below hb RB.out.lt
  have hB1 := hB.trans (hb.mono hB.size)
  clear RB hB hb
  have hB := hB1; clear hB1
  have c3 := (rb.cell 3).trans HAC.out.k3
  have z3 := rb.frozen 3
  have RB := hide rb; clear rb
  go_upto_region 7 with fail
  go_cut [14] (fun _ wx => wx = V2.setCell ⟨gB, 3, none⟩ (.int .i64 2))
  case first =>
    go_wp2_with fail
    go_meet
    exact rfl
  obtain rfl := hcut
  have rb := RB.out.set_ 3 (.int .i64 2)
  have hB1 := hB.setCell (p := ⟨gB, 3, none⟩) hge (.int .i64 2)
  have ac := HAC.out.flags 2
  have hone1 := set_one hone 3 (.int .i64 2) rfl
  clear RB HAC c3 z3 hB hone
  have hB := hB1; have hone := hone1; clear hB1 hone1
  generalize V2.setCell ⟨gB, 3, none⟩ (.int .i64 2) = V3 at rb hB ⊢
  generalize B1.setIfInBounds 3 (.int .i64 2) = B2 at rb ac hone
  have HAC := hide ac; clear ac
  have RB := hide rb; clear rb
  go_wp2_with (first | (refine load_A RB.out rfl rfl rfl HAC.out.size ?_) | fail)
  refine (within_any B2 2 dph dpl dh dl cph cpl ch cl HAC.out _).mono ?_
  rintro e V4 ⟨rfl, hb⟩
  rw [E2.out]
  have rb := RB.out.below hb RB.out.lt
  have hB1 := hB.trans (hb.mono hB.size)
  clear RB hB hb
  have hB := hB1; clear hB1
  have c3 := (rb.cell 3).trans HAC.out.k3
  have z3 := rb.frozen 3
  have RB := hide rb; clear rb
  go_upto_region 9 with fail
  go_cut [17] (fun _ wx => wx = V4.setCell ⟨gB, 3, none⟩ (.int .i64 4))
  case first =>
    go_wp2_with fail
    go_meet
    exact rfl
  obtain rfl := hcut
  have rb := RB.out.set_ 3 (.int .i64 4)
  have hB1 := hB.setCell (p := ⟨gB, 3, none⟩) hge (.int .i64 4)
  have ac := HAC.out.flags 4
  have hone1 := set_one hone 3 (.int .i64 4) rfl
  clear RB HAC c3 z3 hB hone
  have hB := hB1; have hone := hone1; clear hB1 hone1
  generalize V4.setCell ⟨gB, 3, none⟩ (.int .i64 4) = V5 at rb hB ⊢
  generalize B2.setIfInBounds 3 (.int .i64 4) = B3 at rb ac hone
  have HAC := hide ac; clear ac
  have RB := hide rb; clear rb
  go_wp2_with (first | (refine load_A RB.out rfl rfl rfl HAC.out.size ?_) | fail)
  refine (within_any B3 4 dph dpl dh dl cph cpl ch cl HAC.out _).mono ?_
  rintro e V6 ⟨rfl, hb⟩
  rw [E4.out]
  have rb := RB.out.below hb RB.out.lt
  have hB1 := hB.trans (hb.mono hB.size)
  clear RB hB hb
  have hB := hB1; clear hB1
  have c3 := (rb.cell 3).trans HAC.out.k3
  have z3 := rb.frozen 3
  have RB := hide rb; clear rb
  go_upto_region 11 with fail
  go_cut [20] (fun _ wx => wx = V6.setCell ⟨gB, 3, none⟩ (.int .i64 6))
  case first =>
    go_wp2_with fail
    go_meet
    exact rfl
  obtain rfl := hcut
  have rb := RB.out.set_ 3 (.int .i64 6)
  have hB1 := hB.setCell (p := ⟨gB, 3, none⟩) hge (.int .i64 6)
  have ac := HAC.out.flags 6
  have hone1 := set_one hone 3 (.int .i64 6) rfl
  clear RB HAC c3 z3 hB hone
  have hB := hB1; have hone := hone1; clear hB1 hone1
  generalize V6.setCell ⟨gB, 3, none⟩ (.int .i64 6) = V7 at rb hB ⊢
  generalize B3.setIfInBounds 3 (.int .i64 6) = B4 at rb ac hone
  have HAC := hide ac; clear ac
  have RB := hide rb; clear rb
  go_upto_region 12 with fail
  go_cut [27] (fun s wx => s = .bool false ∧ Row wx gB 39 B4 ∧ Below w.heap.size w wx)
  case first =>
    go_wp2_with (first | (refine load_A RB.out rfl rfl rfl HAC.out.size ?_) | fail)
    refine (within_any B4 6 dph dpl dh dl cph cpl ch cl HAC.out _).mono ?_
    rintro e V8 ⟨rfl, hb⟩
    rw [E6.out]
    have rb := RB.out.below hb RB.out.lt
    have hB1 := hB.trans (hb.mono hB.size)
    have RB1 := hide rb; clear rb
    cases sD <;> cases sC
    all_goals
      go_wp2
      go_meet
      exact ⟨rfl, RB1.out, hB1⟩
  clear RB hB
  obtain ⟨rfl, rb, hB⟩ := hcut
  have c3 := (rb.cell 3).trans HAC.out.k3
  have z3 := rb.frozen 3
  have RB := hide rb; clear rb
  go_upto_region 14 with fail
  go_cut [28] (fun _ wx => wx = wc.setCell ⟨gB, 3, none⟩ (.int .i64 2))
  case first =>
    go_wp2_with fail
    go_meet
    exact rfl
  obtain rfl := hcut
  have rb := RB.out.set_ 3 (.int .i64 2)
  have hB1 := hB.setCell (p := ⟨gB, 3, none⟩) hge (.int .i64 2)
  have ac := HAC.out.flags 2
  have hone1 := set_one hone 3 (.int .i64 2) rfl
  clear RB HAC c3 z3 hB hone
  have hB := hB1; have hone := hone1; clear hB1 hone1
  generalize wc.setCell ⟨gB, 3, none⟩ (.int .i64 2) = V9 at rb hB ⊢
  generalize B4.setIfInBounds 3 (.int .i64 2) = B5 at rb ac hone
  have HAC := hide ac; clear ac
  have RB := hide rb; clear rb
  go_wp2_with (first | (refine load_A RB.out rfl rfl rfl HAC.out.size ?_) | fail)
  refine (room_debit B5 2 dph dpl dh dl cph cpl ch cl HAC.out _).mono ?_
  rintro e V10 ⟨rfl, hb⟩
  have rb := RB.out.below hb RB.out.lt
  have hB1 := hB.trans (hb.mono hB.size)
  clear RB hB hb
  have hB := hB1; clear hB1
  have RB := hide rb; clear rb
  cases sD
  · have e1 := NL.out rfl
    have E1 := hide e1; clear e1
    generalize (qH ch cl (mH dph dpl dh dl) (mL dph dpl dh dl)) = rh at E1 ⊢
    generalize (qL ch cl (mH dph dpl dh dl) (mL dph dpl dh dl)) = rl at E1 ⊢
    have e1 := E1.out
    have hz := hB.size
    go_wp2
    go_ret
    exact ⟨rfl, hB.alloc hz _⟩
  · obtain ⟨q1, s1, hs, hn⟩ := FL.out rfl _ _ rfl rfl
    clear NL FL E0 E2 E4 E6
    generalize (qH ch cl (mH dph dpl dh dl) (mL dph dpl dh dl)) = rh at q1 s1 hs hn ⊢
    generalize (qL ch cl (mH dph dpl dh dl) (mL dph dpl dh dl)) = rl at q1 s1 hs hn ⊢
    have hw : winB 2 dph dpl (pH dh dl rh rl) (pL dh dl rh rl) cph cpl ch cl = true := by rw [win2, hs]
    have HW := hide hw; have HN := hide hn; have Q1 := hide q1; have S1 := hide s1
    clear hw hn q1 s1 hs
    have hz := hB.size
    have hlB := RB.out.lt
    have c6 := (RB.out.cell 6).trans HAC.out.k6
    have c7 := (RB.out.cell 7).trans HAC.out.k7
    go_upto_region 17 with fail
    go_cut [32] (fun _ wx => ∃ Vx : World, wx = (Vx.setCell ⟨gB, 6, none⟩ (.int .u64 (pH dh dl rh rl))).setCell ⟨gB, 7, none⟩ (.int .u64 (pL dh dl rh rl)) ∧ Row Vx gB 39 B5 ∧ Below w.heap.size w Vx)
    case first =>
      go_wp2_with fail
      refine (add2_any dh dl rh rl HAC.out.b6 HAC.out.b7 Q1.out.1 Q1.out.2 _ _ ⟨by simp [go_sem], by simp [go_sem], by simp [go_sem], by simp [go_sem]⟩).mono ?_
      rintro e V11 ⟨rfl, hb⟩
      have rb : Row V11 gB 39 B5 := ((RB.out.alloc _).alloc _).below hb (by simp; omega)
      have hB1 : Below w.heap.size w V11 := ((hB.alloc hz _).alloc (by simp; omega) _).trans (hb.mono (by simp; omega))
      clear RB hB hb c6 c7
      have c6 := (rb.cell 6).trans HAC.out.k6
      have c7 := (rb.cell 7).trans HAC.out.k7
      have z6 := rb.frozen 6
      have z7 := rb.frozen 7
      have RB := hide rb; clear rb
      go_wp2_with fail
      go_meet
      exact ⟨V11, rfl, RB.out, hB1⟩
    clear RB hB c6 c7 hz hlB
    obtain ⟨Vx, rfl, rb0, hB0⟩ := hcut
    have rb := (rb0.set_ 6 (.int .u64 (pH dh dl rh rl))).set_ 7 (.int .u64 (pL dh dl rh rl))
    have hB := (hB0.setCell (p := ⟨gB, 6, none⟩) hge (.int .u64 (pH dh dl rh rl))).setCell (p := ⟨gB, 7, none⟩) hge (.int .u64 (pL dh dl rh rl))
    have ac := HAC.out.posted S1.out
    clear rb0 hB0 HAC
    generalize (Vx.setCell ⟨gB, 6, none⟩ (.int .u64 (pH dh dl rh rl))).setCell ⟨gB, 7, none⟩ (.int .u64 (pL dh dl rh rl)) = V12 at rb hB ⊢
    generalize (B5.setIfInBounds 6 (.int .u64 (pH dh dl rh rl))).setIfInBounds 7 (.int .u64 (pL dh dl rh rl)) = B6 at rb ac
    generalize pH dh dl rh rl = xh at *
    generalize pL dh dl rh rl = xl at *
    have HAC := hide ac; have RB := hide rb; clear ac rb
    go_wp2_with (first | (refine load_A RB.out rfl rfl rfl HAC.out.size ?_) | fail)
    refine (within_any B6 2 dph dpl xh xl cph cpl ch cl HAC.out _).mono ?_
    rintro e V13 ⟨rfl, hb⟩
    rw [HW.out]
    have rb := RB.out.below hb RB.out.lt
    have hB1 := hB.trans (hb.mono hB.size)
    clear RB hB hb
    have hB := hB1; clear hB1
    have RB := hide rb; clear rb
    go_wp2_with (first | (refine load_A RB.out rfl rfl rfl HAC.out.size ?_) | fail)
    refine (room_debit B6 2 dph dpl xh xl cph cpl ch cl HAC.out _).mono ?_
    rintro e V14 ⟨rfl, hb⟩
    have rb := RB.out.below hb RB.out.lt
    have hB1 := hB.trans (hb.mono hB.size)
    clear RB hB hb
    have hB := hB1; clear hB1
    have hn := HN.out
    go_wp2
    go_ret
    exact ⟨rfl, hB⟩
end Go.Proofs.Ytedejbanhhonbaa
