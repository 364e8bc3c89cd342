/- The contract of rule.Room: what is left up to the other side's posted sum, for a debit and for a credit. -/
import Derived.Test.YtedejbanhhonbaaX14
namespace Go.Proofs.Ytedejbanhhonbaa
open Go.RowKit
attribute [local go_sem high] eqNum

theorem info24 : (Try.prog.info? 24).map (·.size) = some 2 := by kernel_rfl
theorem m_word (ah al bh bl : Int) (h0 : 0 ≤ ah ∧ ah < 18446744073709551616) (h1 : 0 ≤ al ∧ al < 18446744073709551616) (h2 : 0 ≤ bh ∧ bh < 18446744073709551616) (h3 : 0 ≤ bl ∧ bl < 18446744073709551616) :
    (0 ≤ mH ah al bh bl ∧ mH ah al bh bl < 18446744073709551616) ∧ (0 ≤ mL ah al bh bl ∧ mL ah al bh bl < 18446744073709551616) := by
  cases ho : pO ah al bh bl
  · simp [mH, mL, ho]
  · have h := ho
    simp only [pO, decide_eq_true_eq] at h
    simp only [mH, mL, pH, pL, ho, if_true]
    omega

set_option maxRecDepth 100000 in
set_option maxHeartbeats 4000000 in
/-- rule.Room. -/
theorem room_any (debit : Bool) (cs : Array Value) (f dph dpl dh dl cph cpl ch cl : Int) (ac : Acc cs f dph dpl dh dl cph cpl ch cl) (w : World) :
    Calls Try.prog 17 #[.agg cs, .bool debit] w fun e w' => e = .returned (bif debit then (.agg #[.int .u64 (qH ch cl (mH dph dpl dh dl) (mL dph dpl dh dl)), .int .u64 (qL ch cl (mH dph dpl dh dl) (mL dph dpl dh dl))])
      else (.agg #[.int .u64 (qH dh dl (mH cph cpl ch cl) (mL cph cpl ch cl)), .int .u64 (qL dh dl (mH cph cpl ch cl) (mL cph cpl ch cl))])) ∧ Below w.heap.size w w' := by
  have HAC := hide ac; clear ac
  go_enter Try.func17, Try.ntmps17
  go_upto_region 1 with fail
  have ra := (Row.new w 39 cs).alloc (.cells #[.int .u64 0, .int .u64 0] 24)
  have rr : Row ((w.alloc (.cells cs 39)).alloc (.cells #[.int .u64 0, .int .u64 0] 24)) (w.heap.size + 1) 24 #[.int .u64 0, .int .u64 0] := by
    have h := Row.new (w.alloc (.cells cs 39)) 24 #[.int .u64 0, .int .u64 0]
    simp only [World.size_alloc] at h
    exact h
  have hB : Below w.heap.size w ((w.alloc (.cells cs 39)).alloc (.cells #[.int .u64 0, .int .u64 0] 24)) := ((Below.refl _ _).alloc (Nat.le_refl _) _).alloc (by simp) _
  have ne_ra_rr : w.heap.size ≠ w.heap.size + 1 := by omega
  generalize ((w.alloc (.cells cs 39)).alloc (.cells #[.int .u64 0, .int .u64 0] 24)) = W0 at ra rr hB ⊢
  go_cut [5, 6] (fun s5 s6 wx => ∃ g5 g6 : Nat, s5 = .pointer (some ⟨g5, 0, none⟩) ∧ s6 = .pointer (some ⟨g6, 0, none⟩) ∧ g5 ≠ g6 ∧ w.heap.size + 1 ≠ g5 ∧ w.heap.size + 1 ≠ g6 ∧ w.heap.size ≠ g5 ∧ w.heap.size ≠ g6 ∧
    w.heap.size ≤ g5 ∧ w.heap.size ≤ g6 ∧ Row wx g5 24 #[.int .u64 dh, .int .u64 dl] ∧ Row wx g6 24 #[.int .u64 (mH cph cpl ch cl), .int .u64 (mL cph cpl ch cl)] ∧ Row wx w.heap.size 39 cs ∧ Row wx (w.heap.size + 1) 24 #[.int .u64 0, .int .u64 0] ∧ Below w.heap.size w wx)
  case first =>
    have n_ra := ra.drew
    have n_rr := rr.drew
    have n_hB := hB.drew
    refine wp_region_held_drew (S := fun w' => w'.cell? ⟨w.heap.size, 4, none⟩ = some (.int .u64 dph) ∧ w'.cell? ⟨w.heap.size, 5, none⟩ = some (.int .u64 dpl) ∧ w'.cell? ⟨w.heap.size, 6, none⟩ = some (.int .u64 dh) ∧ w'.cell? ⟨w.heap.size, 7, none⟩ = some (.int .u64 dl) ∧ w'.cell? ⟨w.heap.size, 8, none⟩ = some (.int .u64 cph) ∧ w'.cell? ⟨w.heap.size, 9, none⟩ = some (.int .u64 cpl) ∧ w'.cell? ⟨w.heap.size, 10, none⟩ = some (.int .u64 ch) ∧ w'.cell? ⟨w.heap.size, 11, none⟩ = some (.int .u64 cl)) (by kernel_rfl) ?_ (fun hHeld => ?_)
    · exact ⟨(ra.cell 4).trans HAC.out.k4, (ra.cell 5).trans HAC.out.k5, (ra.cell 6).trans HAC.out.k6, (ra.cell 7).trans HAC.out.k7, (ra.cell 8).trans HAC.out.k8, (ra.cell 9).trans HAC.out.k9, (ra.cell 10).trans HAC.out.k10, (ra.cell 11).trans HAC.out.k11⟩
    clear ra rr hB
    have ra := n_ra; have rr := n_rr; have hB := n_hB; clear n_ra n_rr n_hB
    generalize W0.drew = W1 at hHeld ra rr hB ⊢
    refine take_yes (i := 0) (v := ?_) (some 9) rfl rfl (by kernel_rfl) (by kernel_rfl) (by kernel_rfl) (fun _ _ _ h => h) (by rfl) hHeld ?_ ?_
    rotate_left
    · intro w hSw; (try dsimp only at hSw); go_simp; (try with_reducible rfl)
    (try simp only [Act.put, List.setIfInBounds_toArray, List.set_cons_zero, List.set_cons_succ])
    refine take_yes (i := 1) (v := ?_) (some 10) rfl rfl (by kernel_rfl) (by kernel_rfl) (by kernel_rfl) (fun _ _ _ h => h) (by rfl) hHeld ?_ ?_
    rotate_left
    · intro w hSw; (try dsimp only at hSw); go_simp; (try with_reducible rfl)
    (try simp only [Act.put, List.setIfInBounds_toArray, List.set_cons_zero, List.set_cons_succ])
    refine take_yes (i := 2) (v := ?_) (some 11) rfl rfl (by kernel_rfl) (by kernel_rfl) (by kernel_rfl) (fun _ _ _ h => h) (by rfl) hHeld ?_ ?_
    rotate_left
    · intro w hSw; (try dsimp only at hSw); go_simp; (try with_reducible rfl)
    (try simp only [Act.put, List.setIfInBounds_toArray, List.set_cons_zero, List.set_cons_succ])
    refine take_yes (i := 3) (v := ?_) (some 12) rfl rfl (by kernel_rfl) (by kernel_rfl) (by kernel_rfl) (fun _ _ _ h => h) (by rfl) hHeld ?_ ?_
    rotate_left
    · intro w hSw; (try dsimp only at hSw); go_simp; (try with_reducible rfl)
    (try simp only [Act.put, List.setIfInBounds_toArray, List.set_cons_zero, List.set_cons_succ])
    refine take_yes (i := 4) (v := ?_) (some 13) rfl rfl (by kernel_rfl) (by kernel_rfl) (by kernel_rfl) (fun _ _ _ h => h) (by rfl) hHeld ?_ ?_
    rotate_left
    · intro w hSw; (try dsimp only at hSw); go_simp; (try with_reducible rfl)
    (try simp only [Act.put, List.setIfInBounds_toArray, List.set_cons_zero, List.set_cons_succ])
    refine take_yes (i := 5) (v := ?_) (some 14) rfl rfl (by kernel_rfl) (by kernel_rfl) (by kernel_rfl) (fun _ _ _ h => h) (by rfl) hHeld ?_ ?_
    rotate_left
    · intro w hSw; (try dsimp only at hSw); go_simp; (try with_reducible rfl)
    (try simp only [Act.put, List.setIfInBounds_toArray, List.set_cons_zero, List.set_cons_succ])
    refine wpAnyH_ready (rs := [6, 8, 9]) (by kernel_rfl) (by simp) ?_
    refine AllReadyH.cons rfl (fun K hK => ?_) ?_
    · skip
      go_simp
      have n_ra := ra.alloc (.cells #[.int .u64 cph, .int .u64 cpl, .int .u64 ch, .int .u64 cl] 24)
      have n_rr := rr.alloc (.cells #[.int .u64 cph, .int .u64 cpl, .int .u64 ch, .int .u64 cl] 24)
      have ne_ra_rs := Nat.ne_of_lt ra.lt
      have ne_rr_rs := Nat.ne_of_lt rr.lt
      have n_rs := Row.new W1 24 #[.int .u64 cph, .int .u64 cpl, .int .u64 ch, .int .u64 cl]
      have n_hB := hB.alloc hB.size (.cells #[.int .u64 cph, .int .u64 cpl, .int .u64 ch, .int .u64 cl] 24)
      have hge_rs := hB.size
      clear ra rr hB
      have ra := n_ra
      have rr := n_rr
      have rs := n_rs
      have hB := n_hB
      clear n_ra n_rr n_rs n_hB
      refine hK.out _ _ ⟨(ra.cell 4).trans HAC.out.k4, (ra.cell 5).trans HAC.out.k5, (ra.cell 6).trans HAC.out.k6, (ra.cell 7).trans HAC.out.k7, (ra.cell 8).trans HAC.out.k8, (ra.cell 9).trans HAC.out.k9, (ra.cell 10).trans HAC.out.k10, (ra.cell 11).trans HAC.out.k11⟩ (fun hHeld2 => ?_)
      clear hHeld hK K
      have hHeld := hHeld2
      clear hHeld2
      (try simp only [Act.put, List.setIfInBounds_toArray, List.set_cons_zero, List.set_cons_succ])
      generalize (W1.alloc (.cells #[.int .u64 cph, .int .u64 cpl, .int .u64 ch, .int .u64 cl] 24)) = W2 at hHeld ra rr rs hB ⊢
      generalize W1.heap.size = gs at ne_ra_rs ne_rr_rs hge_rs rs ⊢
      refine wpAnyH_ready (rs := [7, 8, 9]) (by kernel_rfl) (by simp) ?_
      refine AllReadyH.cons rfl (fun K hK => ?_) ?_
      · skip
        go_simp
        go_at_call 25
        refine (sum_any cph cpl ch cl HAC.out.b8 HAC.out.b9 HAC.out.b10 HAC.out.b11 _ _ ⟨(rs.cell 0).trans rfl, (rs.cell 1).trans rfl, (rs.cell 2).trans rfl, (rs.cell 3).trans rfl⟩).mono ?_
        rintro e W3 ⟨rfl, hb⟩
        have n_ra := ra.below hb ra.lt
        have n_rr := rr.below hb rr.lt
        have n_rs := rs.below hb rs.lt
        have n_hB := hB.trans (hb.mono hB.size)
        clear ra rr rs hB hb
        have ra := n_ra
        have rr := n_rr
        have rs := n_rs
        have hB := n_hB
        clear n_ra n_rr n_rs n_hB
        refine hK.out _ _ ⟨(ra.cell 4).trans HAC.out.k4, (ra.cell 5).trans HAC.out.k5, (ra.cell 6).trans HAC.out.k6, (ra.cell 7).trans HAC.out.k7, (ra.cell 8).trans HAC.out.k8, (ra.cell 9).trans HAC.out.k9, (ra.cell 10).trans HAC.out.k10, (ra.cell 11).trans HAC.out.k11⟩ (fun hHeld2 => ?_)
        clear hHeld hK K
        have hHeld := hHeld2
        clear hHeld2
        (try simp only [Act.put, List.setIfInBounds_toArray, List.set_cons_zero, List.set_cons_succ])
        refine wpAnyH_ready (rs := [8, 9]) (by kernel_rfl) (by simp) ?_
        refine AllReadyH.cons rfl (fun K hK => ?_) ?_
        · skip
          go_simp
          have n_ra := ra.alloc (.cells #[.int .u64 0, .int .u64 0] 24)
          have n_rr := rr.alloc (.cells #[.int .u64 0, .int .u64 0] 24)
          have n_rs := rs.alloc (.cells #[.int .u64 0, .int .u64 0] 24)
          have ne_ra_r5 := Nat.ne_of_lt ra.lt
          have ne_rr_r5 := Nat.ne_of_lt rr.lt
          have ne_rs_r5 := Nat.ne_of_lt rs.lt
          have n_r5 := Row.new W3 24 #[.int .u64 0, .int .u64 0]
          have n_hB := hB.alloc hB.size (.cells #[.int .u64 0, .int .u64 0] 24)
          have hge_r5 := hB.size
          clear ra rr rs hB
          have ra := n_ra
          have rr := n_rr
          have rs := n_rs
          have r5 := n_r5
          have hB := n_hB
          clear n_ra n_rr n_rs n_r5 n_hB
          refine hK.out _ _ ⟨(ra.cell 4).trans HAC.out.k4, (ra.cell 5).trans HAC.out.k5, (ra.cell 6).trans HAC.out.k6, (ra.cell 7).trans HAC.out.k7, (ra.cell 8).trans HAC.out.k8, (ra.cell 9).trans HAC.out.k9, (ra.cell 10).trans HAC.out.k10, (ra.cell 11).trans HAC.out.k11⟩ (fun hHeld2 => ?_)
          clear hHeld hK K
          have hHeld := hHeld2
          clear hHeld2
          (try simp only [Act.put, List.setIfInBounds_toArray, List.set_cons_zero, List.set_cons_succ])
          generalize (W3.alloc (.cells #[.int .u64 0, .int .u64 0] 24)) = W4 at hHeld ra rr rs r5 hB ⊢
          generalize W3.heap.size = g5 at ne_ra_r5 ne_rr_r5 ne_rs_r5 hge_r5 r5 ⊢
          refine wpAnyH_ready (rs := [9]) (by kernel_rfl) (by simp) ?_
          refine AllReadyH.cons rfl (fun K hK => ?_) AllReadyH.nil
          · skip
            go_simp
            have n_ra := ra.alloc (.cells #[.int .u64 0, .int .u64 0] 24)
            have n_rr := rr.alloc (.cells #[.int .u64 0, .int .u64 0] 24)
            have n_rs := rs.alloc (.cells #[.int .u64 0, .int .u64 0] 24)
            have n_r5 := r5.alloc (.cells #[.int .u64 0, .int .u64 0] 24)
            have ne_ra_r6 := Nat.ne_of_lt ra.lt
            have ne_rr_r6 := Nat.ne_of_lt rr.lt
            have ne_rs_r6 := Nat.ne_of_lt rs.lt
            have ne_r5_r6 := Nat.ne_of_lt r5.lt
            have n_r6 := Row.new W4 24 #[.int .u64 0, .int .u64 0]
            have n_hB := hB.alloc hB.size (.cells #[.int .u64 0, .int .u64 0] 24)
            have hge_r6 := hB.size
            clear ra rr rs r5 hB
            have ra := n_ra
            have rr := n_rr
            have rs := n_rs
            have r5 := n_r5
            have r6 := n_r6
            have hB := n_hB
            clear n_ra n_rr n_rs n_r5 n_r6 n_hB
            refine hK.out _ _ ⟨(ra.cell 4).trans HAC.out.k4, (ra.cell 5).trans HAC.out.k5, (ra.cell 6).trans HAC.out.k6, (ra.cell 7).trans HAC.out.k7, (ra.cell 8).trans HAC.out.k8, (ra.cell 9).trans HAC.out.k9, (ra.cell 10).trans HAC.out.k10, (ra.cell 11).trans HAC.out.k11⟩ (fun hHeld2 => ?_)
            clear hHeld hK K
            have hHeld := hHeld2
            clear hHeld2
            (try simp only [Act.put, List.setIfInBounds_toArray, List.set_cons_zero, List.set_cons_succ])
            generalize (W4.alloc (.cells #[.int .u64 0, .int .u64 0] 24)) = W5 at hHeld ra rr rs r5 r6 hB ⊢
            generalize W4.heap.size = g6 at ne_ra_r6 ne_rr_r6 ne_rs_r6 ne_r5_r6 hge_r6 r6 ⊢
            refine wpAnyH_ready (rs := [10]) (by kernel_rfl) (by simp) ?_
            refine AllReadyH.cons rfl (fun K hK => ?_) AllReadyH.nil
            rw [if_pos (by rfl)]
            refine wp_store_row 24 _ _ rfl g5 #[.int .u64 dh, .int .u64 dl] rfl rfl 24 _ r5 (by rw [info24]; rfl) rfl (by simp [Value.oneCell']) ?_
            have n_ra := ra.apart ne_ra_r5 #[.int .u64 dh, .int .u64 dl]
            have n_rr := rr.apart ne_rr_r5 #[.int .u64 dh, .int .u64 dl]
            have n_rs := rs.apart ne_rs_r5 #[.int .u64 dh, .int .u64 dl]
            have n_r5 := r5.whole #[.int .u64 dh, .int .u64 dl]
            have n_r6 := r6.apart ne_r5_r6.symm #[.int .u64 dh, .int .u64 dl]
            have n_hB := below_setRow hB hge_r5 #[.int .u64 dh, .int .u64 dl]
            clear ra rr rs r5 r6 hB
            have ra := n_ra
            have rr := n_rr
            have rs := n_rs
            have r5 := n_r5
            have r6 := n_r6
            have hB := n_hB
            clear n_ra n_rr n_rs n_r5 n_r6 n_hB
            refine hK.out _ _ ⟨(ra.cell 4).trans HAC.out.k4, (ra.cell 5).trans HAC.out.k5, (ra.cell 6).trans HAC.out.k6, (ra.cell 7).trans HAC.out.k7, (ra.cell 8).trans HAC.out.k8, (ra.cell 9).trans HAC.out.k9, (ra.cell 10).trans HAC.out.k10, (ra.cell 11).trans HAC.out.k11⟩ (fun hHeld2 => ?_)
            clear hHeld hK K
            have hHeld := hHeld2
            clear hHeld2
            (try simp only [Act.put, List.setIfInBounds_toArray, List.set_cons_zero, List.set_cons_succ])
            generalize W5.setRow g5 #[.int .u64 dh, .int .u64 dl] = W6 at hHeld ra rr rs r5 r6 hB ⊢
            refine wpAnyH_ready (rs := [11]) (by kernel_rfl) (by simp) ?_
            refine AllReadyH.cons rfl (fun K hK => ?_) AllReadyH.nil
            rw [if_pos (by rfl)]
            refine wp_store_row 24 _ _ rfl g6 #[.int .u64 (mH cph cpl ch cl), .int .u64 (mL cph cpl ch cl)] rfl rfl 24 _ r6 (by rw [info24]; rfl) rfl (by simp [Value.oneCell']) ?_
            have n_ra := ra.apart ne_ra_r6 #[.int .u64 (mH cph cpl ch cl), .int .u64 (mL cph cpl ch cl)]
            have n_rr := rr.apart ne_rr_r6 #[.int .u64 (mH cph cpl ch cl), .int .u64 (mL cph cpl ch cl)]
            have n_rs := rs.apart ne_rs_r6 #[.int .u64 (mH cph cpl ch cl), .int .u64 (mL cph cpl ch cl)]
            have n_r5 := r5.apart ne_r5_r6 #[.int .u64 (mH cph cpl ch cl), .int .u64 (mL cph cpl ch cl)]
            have n_r6 := r6.whole #[.int .u64 (mH cph cpl ch cl), .int .u64 (mL cph cpl ch cl)]
            have n_hB := below_setRow hB hge_r6 #[.int .u64 (mH cph cpl ch cl), .int .u64 (mL cph cpl ch cl)]
            clear ra rr rs r5 r6 hB
            have ra := n_ra
            have rr := n_rr
            have rs := n_rs
            have r5 := n_r5
            have r6 := n_r6
            have hB := n_hB
            clear n_ra n_rr n_rs n_r5 n_r6 n_hB
            refine hK.out _ _ ⟨(ra.cell 4).trans HAC.out.k4, (ra.cell 5).trans HAC.out.k5, (ra.cell 6).trans HAC.out.k6, (ra.cell 7).trans HAC.out.k7, (ra.cell 8).trans HAC.out.k8, (ra.cell 9).trans HAC.out.k9, (ra.cell 10).trans HAC.out.k10, (ra.cell 11).trans HAC.out.k11⟩ (fun hHeld2 => ?_)
            clear hHeld hK K
            have hHeld := hHeld2
            clear hHeld2
            (try simp only [Act.put, List.setIfInBounds_toArray, List.set_cons_zero, List.set_cons_succ])
            generalize W6.setRow g6 #[.int .u64 (mH cph cpl ch cl), .int .u64 (mL cph cpl ch cl)] = W7 at hHeld ra rr rs r5 r6 hB ⊢
            refine wpAnyH_done (by kernel_rfl) ?_ _
            go_wp2_with fail
            go_meet
            exact ⟨g5, g6, rfl, rfl, ne_r5_r6, ne_rr_r5, ne_rr_r6, ne_ra_r5, ne_ra_r6, hge_r5, hge_r6, r5, r6, ra, rr, hB⟩
        refine AllReadyH.cons rfl (fun K hK => ?_) AllReadyH.nil
        · skip
          go_simp
          have n_ra := ra.alloc (.cells #[.int .u64 0, .int .u64 0] 24)
          have n_rr := rr.alloc (.cells #[.int .u64 0, .int .u64 0] 24)
          have n_rs := rs.alloc (.cells #[.int .u64 0, .int .u64 0] 24)
          have ne_ra_r6 := Nat.ne_of_lt ra.lt
          have ne_rr_r6 := Nat.ne_of_lt rr.lt
          have ne_rs_r6 := Nat.ne_of_lt rs.lt
          have n_r6 := Row.new W3 24 #[.int .u64 0, .int .u64 0]
          have n_hB := hB.alloc hB.size (.cells #[.int .u64 0, .int .u64 0] 24)
          have hge_r6 := hB.size
          clear ra rr rs hB
          have ra := n_ra
          have rr := n_rr
          have rs := n_rs
          have r6 := n_r6
          have hB := n_hB
          clear n_ra n_rr n_rs n_r6 n_hB
          refine hK.out _ _ ⟨(ra.cell 4).trans HAC.out.k4, (ra.cell 5).trans HAC.out.k5, (ra.cell 6).trans HAC.out.k6, (ra.cell 7).trans HAC.out.k7, (ra.cell 8).trans HAC.out.k8, (ra.cell 9).trans HAC.out.k9, (ra.cell 10).trans HAC.out.k10, (ra.cell 11).trans HAC.out.k11⟩ (fun hHeld2 => ?_)
          clear hHeld hK K
          have hHeld := hHeld2
          clear hHeld2
          (try simp only [Act.put, List.setIfInBounds_toArray, List.set_cons_zero, List.set_cons_succ])
          generalize (W3.alloc (.cells #[.int .u64 0, .int .u64 0] 24)) = W4 at hHeld ra rr rs r6 hB ⊢
          generalize W3.heap.size = g6 at ne_ra_r6 ne_rr_r6 ne_rs_r6 hge_r6 r6 ⊢
          refine wpAnyH_ready (rs := [8]) (by kernel_rfl) (by simp) ?_
          refine AllReadyH.cons rfl (fun K hK => ?_) AllReadyH.nil
          · skip
            go_simp
            have n_ra := ra.alloc (.cells #[.int .u64 0, .int .u64 0] 24)
            have n_rr := rr.alloc (.cells #[.int .u64 0, .int .u64 0] 24)
            have n_rs := rs.alloc (.cells #[.int .u64 0, .int .u64 0] 24)
            have n_r6 := r6.alloc (.cells #[.int .u64 0, .int .u64 0] 24)
            have ne_ra_r5 := Nat.ne_of_lt ra.lt
            have ne_rr_r5 := Nat.ne_of_lt rr.lt
            have ne_rs_r5 := Nat.ne_of_lt rs.lt
            have ne_r6_r5 := Nat.ne_of_lt r6.lt
            have n_r5 := Row.new W4 24 #[.int .u64 0, .int .u64 0]
            have n_hB := hB.alloc hB.size (.cells #[.int .u64 0, .int .u64 0] 24)
            have hge_r5 := hB.size
            clear ra rr rs r6 hB
            have ra := n_ra
            have rr := n_rr
            have rs := n_rs
            have r6 := n_r6
            have r5 := n_r5
            have hB := n_hB
            clear n_ra n_rr n_rs n_r6 n_r5 n_hB
            refine hK.out _ _ ⟨(ra.cell 4).trans HAC.out.k4, (ra.cell 5).trans HAC.out.k5, (ra.cell 6).trans HAC.out.k6, (ra.cell 7).trans HAC.out.k7, (ra.cell 8).trans HAC.out.k8, (ra.cell 9).trans HAC.out.k9, (ra.cell 10).trans HAC.out.k10, (ra.cell 11).trans HAC.out.k11⟩ (fun hHeld2 => ?_)
            clear hHeld hK K
            have hHeld := hHeld2
            clear hHeld2
            (try simp only [Act.put, List.setIfInBounds_toArray, List.set_cons_zero, List.set_cons_succ])
            generalize (W4.alloc (.cells #[.int .u64 0, .int .u64 0] 24)) = W5 at hHeld ra rr rs r6 r5 hB ⊢
            generalize W4.heap.size = g5 at ne_ra_r5 ne_rr_r5 ne_rs_r5 ne_r6_r5 hge_r5 r5 ⊢
            refine wpAnyH_ready (rs := [10]) (by kernel_rfl) (by simp) ?_
            refine AllReadyH.cons rfl (fun K hK => ?_) AllReadyH.nil
            rw [if_pos (by rfl)]
            refine wp_store_row 24 _ _ rfl g5 #[.int .u64 dh, .int .u64 dl] rfl rfl 24 _ r5 (by rw [info24]; rfl) rfl (by simp [Value.oneCell']) ?_
            have n_ra := ra.apart ne_ra_r5 #[.int .u64 dh, .int .u64 dl]
            have n_rr := rr.apart ne_rr_r5 #[.int .u64 dh, .int .u64 dl]
            have n_rs := rs.apart ne_rs_r5 #[.int .u64 dh, .int .u64 dl]
            have n_r6 := r6.apart ne_r6_r5 #[.int .u64 dh, .int .u64 dl]
            have n_r5 := r5.whole #[.int .u64 dh, .int .u64 dl]
            have n_hB := below_setRow hB hge_r5 #[.int .u64 dh, .int .u64 dl]
            clear ra rr rs r6 r5 hB
            have ra := n_ra
            have rr := n_rr
            have rs := n_rs
            have r6 := n_r6
            have r5 := n_r5
            have hB := n_hB
            clear n_ra n_rr n_rs n_r6 n_r5 n_hB
            refine hK.out _ _ ⟨(ra.cell 4).trans HAC.out.k4, (ra.cell 5).trans HAC.out.k5, (ra.cell 6).trans HAC.out.k6, (ra.cell 7).trans HAC.out.k7, (ra.cell 8).trans HAC.out.k8, (ra.cell 9).trans HAC.out.k9, (ra.cell 10).trans HAC.out.k10, (ra.cell 11).trans HAC.out.k11⟩ (fun hHeld2 => ?_)
            clear hHeld hK K
            have hHeld := hHeld2
            clear hHeld2
            (try simp only [Act.put, List.setIfInBounds_toArray, List.set_cons_zero, List.set_cons_succ])
            generalize W5.setRow g5 #[.int .u64 dh, .int .u64 dl] = W6 at hHeld ra rr rs r6 r5 hB ⊢
            refine wpAnyH_ready (rs := [11]) (by kernel_rfl) (by simp) ?_
            refine AllReadyH.cons rfl (fun K hK => ?_) AllReadyH.nil
            rw [if_pos (by rfl)]
            refine wp_store_row 24 _ _ rfl g6 #[.int .u64 (mH cph cpl ch cl), .int .u64 (mL cph cpl ch cl)] rfl rfl 24 _ r6 (by rw [info24]; rfl) rfl (by simp [Value.oneCell']) ?_
            have n_ra := ra.apart ne_ra_r6 #[.int .u64 (mH cph cpl ch cl), .int .u64 (mL cph cpl ch cl)]
            have n_rr := rr.apart ne_rr_r6 #[.int .u64 (mH cph cpl ch cl), .int .u64 (mL cph cpl ch cl)]
            have n_rs := rs.apart ne_rs_r6 #[.int .u64 (mH cph cpl ch cl), .int .u64 (mL cph cpl ch cl)]
            have n_r6 := r6.whole #[.int .u64 (mH cph cpl ch cl), .int .u64 (mL cph cpl ch cl)]
            have n_r5 := r5.apart ne_r6_r5.symm #[.int .u64 (mH cph cpl ch cl), .int .u64 (mL cph cpl ch cl)]
            have n_hB := below_setRow hB hge_r6 #[.int .u64 (mH cph cpl ch cl), .int .u64 (mL cph cpl ch cl)]
            clear ra rr rs r6 r5 hB
            have ra := n_ra
            have rr := n_rr
            have rs := n_rs
            have r6 := n_r6
            have r5 := n_r5
            have hB := n_hB
            clear n_ra n_rr n_rs n_r6 n_r5 n_hB
            refine hK.out _ _ ⟨(ra.cell 4).trans HAC.out.k4, (ra.cell 5).trans HAC.out.k5, (ra.cell 6).trans HAC.out.k6, (ra.cell 7).trans HAC.out.k7, (ra.cell 8).trans HAC.out.k8, (ra.cell 9).trans HAC.out.k9, (ra.cell 10).trans HAC.out.k10, (ra.cell 11).trans HAC.out.k11⟩ (fun hHeld2 => ?_)
            clear hHeld hK K
            have hHeld := hHeld2
            clear hHeld2
            (try simp only [Act.put, List.setIfInBounds_toArray, List.set_cons_zero, List.set_cons_succ])
            generalize W6.setRow g6 #[.int .u64 (mH cph cpl ch cl), .int .u64 (mL cph cpl ch cl)] = W7 at hHeld ra rr rs r6 r5 hB ⊢
            refine wpAnyH_done (by kernel_rfl) ?_ _
            go_wp2_with fail
            go_meet
            exact ⟨g5, g6, rfl, rfl, ne_r6_r5.symm, ne_rr_r5, ne_rr_r6, ne_ra_r5, ne_ra_r6, hge_r5, hge_r6, r5, r6, ra, rr, hB⟩
      refine AllReadyH.cons rfl (fun K hK => ?_) ?_
      · skip
        go_simp
        have n_ra := ra.alloc (.cells #[.int .u64 0, .int .u64 0] 24)
        have n_rr := rr.alloc (.cells #[.int .u64 0, .int .u64 0] 24)
        have n_rs := rs.alloc (.cells #[.int .u64 0, .int .u64 0] 24)
        have ne_ra_r5 := Nat.ne_of_lt ra.lt
        have ne_rr_r5 := Nat.ne_of_lt rr.lt
        have ne_rs_r5 := Nat.ne_of_lt rs.lt
        have n_r5 := Row.new W2 24 #[.int .u64 0, .int .u64 0]
        have n_hB := hB.alloc hB.size (.cells #[.int .u64 0, .int .u64 0] 24)
        have hge_r5 := hB.size
        clear ra rr rs hB
        have ra := n_ra
        have rr := n_rr
        have rs := n_rs
        have r5 := n_r5
        have hB := n_hB
        clear n_ra n_rr n_rs n_r5 n_hB
        refine hK.out _ _ ⟨(ra.cell 4).trans HAC.out.k4, (ra.cell 5).trans HAC.out.k5, (ra.cell 6).trans HAC.out.k6, (ra.cell 7).trans HAC.out.k7, (ra.cell 8).trans HAC.out.k8, (ra.cell 9).trans HAC.out.k9, (ra.cell 10).trans HAC.out.k10, (ra.cell 11).trans HAC.out.k11⟩ (fun hHeld2 => ?_)
        clear hHeld hK K
        have hHeld := hHeld2
        clear hHeld2
        (try simp only [Act.put, List.setIfInBounds_toArray, List.set_cons_zero, List.set_cons_succ])
        generalize (W2.alloc (.cells #[.int .u64 0, .int .u64 0] 24)) = W3 at hHeld ra rr rs r5 hB ⊢
        generalize W2.heap.size = g5 at ne_ra_r5 ne_rr_r5 ne_rs_r5 hge_r5 r5 ⊢
        refine wpAnyH_ready (rs := [7, 9]) (by kernel_rfl) (by simp) ?_
        refine AllReadyH.cons rfl (fun K hK => ?_) ?_
        · skip
          go_simp
          go_at_call 25
          refine (sum_any cph cpl ch cl HAC.out.b8 HAC.out.b9 HAC.out.b10 HAC.out.b11 _ _ ⟨(rs.cell 0).trans rfl, (rs.cell 1).trans rfl, (rs.cell 2).trans rfl, (rs.cell 3).trans rfl⟩).mono ?_
          rintro e W4 ⟨rfl, hb⟩
          have n_ra := ra.below hb ra.lt
          have n_rr := rr.below hb rr.lt
          have n_rs := rs.below hb rs.lt
          have n_r5 := r5.below hb r5.lt
          have n_hB := hB.trans (hb.mono hB.size)
          clear ra rr rs r5 hB hb
          have ra := n_ra
          have rr := n_rr
          have rs := n_rs
          have r5 := n_r5
          have hB := n_hB
          clear n_ra n_rr n_rs n_r5 n_hB
          refine hK.out _ _ ⟨(ra.cell 4).trans HAC.out.k4, (ra.cell 5).trans HAC.out.k5, (ra.cell 6).trans HAC.out.k6, (ra.cell 7).trans HAC.out.k7, (ra.cell 8).trans HAC.out.k8, (ra.cell 9).trans HAC.out.k9, (ra.cell 10).trans HAC.out.k10, (ra.cell 11).trans HAC.out.k11⟩ (fun hHeld2 => ?_)
          clear hHeld hK K
          have hHeld := hHeld2
          clear hHeld2
          (try simp only [Act.put, List.setIfInBounds_toArray, List.set_cons_zero, List.set_cons_succ])
          refine wpAnyH_ready (rs := [9]) (by kernel_rfl) (by simp) ?_
          refine AllReadyH.cons rfl (fun K hK => ?_) AllReadyH.nil
          · skip
            go_simp
            have n_ra := ra.alloc (.cells #[.int .u64 0, .int .u64 0] 24)
            have n_rr := rr.alloc (.cells #[.int .u64 0, .int .u64 0] 24)
            have n_rs := rs.alloc (.cells #[.int .u64 0, .int .u64 0] 24)
            have n_r5 := r5.alloc (.cells #[.int .u64 0, .int .u64 0] 24)
            have ne_ra_r6 := Nat.ne_of_lt ra.lt
            have ne_rr_r6 := Nat.ne_of_lt rr.lt
            have ne_rs_r6 := Nat.ne_of_lt rs.lt
            have ne_r5_r6 := Nat.ne_of_lt r5.lt
            have n_r6 := Row.new W4 24 #[.int .u64 0, .int .u64 0]
            have n_hB := hB.alloc hB.size (.cells #[.int .u64 0, .int .u64 0] 24)
            have hge_r6 := hB.size
            clear ra rr rs r5 hB
            have ra := n_ra
            have rr := n_rr
            have rs := n_rs
            have r5 := n_r5
            have r6 := n_r6
            have hB := n_hB
            clear n_ra n_rr n_rs n_r5 n_r6 n_hB
            refine hK.out _ _ ⟨(ra.cell 4).trans HAC.out.k4, (ra.cell 5).trans HAC.out.k5, (ra.cell 6).trans HAC.out.k6, (ra.cell 7).trans HAC.out.k7, (ra.cell 8).trans HAC.out.k8, (ra.cell 9).trans HAC.out.k9, (ra.cell 10).trans HAC.out.k10, (ra.cell 11).trans HAC.out.k11⟩ (fun hHeld2 => ?_)
            clear hHeld hK K
            have hHeld := hHeld2
            clear hHeld2
            (try simp only [Act.put, List.setIfInBounds_toArray, List.set_cons_zero, List.set_cons_succ])
            generalize (W4.alloc (.cells #[.int .u64 0, .int .u64 0] 24)) = W5 at hHeld ra rr rs r5 r6 hB ⊢
            generalize W4.heap.size = g6 at ne_ra_r6 ne_rr_r6 ne_rs_r6 ne_r5_r6 hge_r6 r6 ⊢
            refine wpAnyH_ready (rs := [10]) (by kernel_rfl) (by simp) ?_
            refine AllReadyH.cons rfl (fun K hK => ?_) AllReadyH.nil
            rw [if_pos (by rfl)]
            refine wp_store_row 24 _ _ rfl g5 #[.int .u64 dh, .int .u64 dl] rfl rfl 24 _ r5 (by rw [info24]; rfl) rfl (by simp [Value.oneCell']) ?_
            have n_ra := ra.apart ne_ra_r5 #[.int .u64 dh, .int .u64 dl]
            have n_rr := rr.apart ne_rr_r5 #[.int .u64 dh, .int .u64 dl]
            have n_rs := rs.apart ne_rs_r5 #[.int .u64 dh, .int .u64 dl]
            have n_r5 := r5.whole #[.int .u64 dh, .int .u64 dl]
            have n_r6 := r6.apart ne_r5_r6.symm #[.int .u64 dh, .int .u64 dl]
            have n_hB := below_setRow hB hge_r5 #[.int .u64 dh, .int .u64 dl]
            clear ra rr rs r5 r6 hB
            have ra := n_ra
            have rr := n_rr
            have rs := n_rs
            have r5 := n_r5
            have r6 := n_r6
            have hB := n_hB
            clear n_ra n_rr n_rs n_r5 n_r6 n_hB
            refine hK.out _ _ ⟨(ra.cell 4).trans HAC.out.k4, (ra.cell 5).trans HAC.out.k5, (ra.cell 6).trans HAC.out.k6, (ra.cell 7).trans HAC.out.k7, (ra.cell 8).trans HAC.out.k8, (ra.cell 9).trans HAC.out.k9, (ra.cell 10).trans HAC.out.k10, (ra.cell 11).trans HAC.out.k11⟩ (fun hHeld2 => ?_)
            clear hHeld hK K
            have hHeld := hHeld2
            clear hHeld2
            (try simp only [Act.put, List.setIfInBounds_toArray, List.set_cons_zero, List.set_cons_succ])
            generalize W5.setRow g5 #[.int .u64 dh, .int .u64 dl] = W6 at hHeld ra rr rs r5 r6 hB ⊢
            refine wpAnyH_ready (rs := [11]) (by kernel_rfl) (by simp) ?_
            refine AllReadyH.cons rfl (fun K hK => ?_) AllReadyH.nil
            rw [if_pos (by rfl)]
            refine wp_store_row 24 _ _ rfl g6 #[.int .u64 (mH cph cpl ch cl), .int .u64 (mL cph cpl ch cl)] rfl rfl 24 _ r6 (by rw [info24]; rfl) rfl (by simp [Value.oneCell']) ?_
            have n_ra := ra.apart ne_ra_r6 #[.int .u64 (mH cph cpl ch cl), .int .u64 (mL cph cpl ch cl)]
            have n_rr := rr.apart ne_rr_r6 #[.int .u64 (mH cph cpl ch cl), .int .u64 (mL cph cpl ch cl)]
            have n_rs := rs.apart ne_rs_r6 #[.int .u64 (mH cph cpl ch cl), .int .u64 (mL cph cpl ch cl)]
            have n_r5 := r5.apart ne_r5_r6 #[.int .u64 (mH cph cpl ch cl), .int .u64 (mL cph cpl ch cl)]
            have n_r6 := r6.whole #[.int .u64 (mH cph cpl ch cl), .int .u64 (mL cph cpl ch cl)]
            have n_hB := below_setRow hB hge_r6 #[.int .u64 (mH cph cpl ch cl), .int .u64 (mL cph cpl ch cl)]
            clear ra rr rs r5 r6 hB
            have ra := n_ra
            have rr := n_rr
            have rs := n_rs
            have r5 := n_r5
            have r6 := n_r6
            have hB := n_hB
            clear n_ra n_rr n_rs n_r5 n_r6 n_hB
            refine hK.out _ _ ⟨(ra.cell 4).trans HAC.out.k4, (ra.cell 5).trans HAC.out.k5, (ra.cell 6).trans HAC.out.k6, (ra.cell 7).trans HAC.out.k7, (ra.cell 8).trans HAC.out.k8, (ra.cell 9).trans HAC.out.k9, (ra.cell 10).trans HAC.out.k10, (ra.cell 11).trans HAC.out.k11⟩ (fun hHeld2 => ?_)
            clear hHeld hK K
            have hHeld := hHeld2
            clear hHeld2
            (try simp only [Act.put, List.setIfInBounds_toArray, List.set_cons_zero, List.set_cons_succ])
            generalize W6.setRow g6 #[.int .u64 (mH cph cpl ch cl), .int .u64 (mL cph cpl ch cl)] = W7 at hHeld ra rr rs r5 r6 hB ⊢
            refine wpAnyH_done (by kernel_rfl) ?_ _
            go_wp2_with fail
            go_meet
            exact ⟨g5, g6, rfl, rfl, ne_r5_r6, ne_rr_r5, ne_rr_r6, ne_ra_r5, ne_ra_r6, hge_r5, hge_r6, r5, r6, ra, rr, hB⟩
        refine AllReadyH.cons rfl (fun K hK => ?_) AllReadyH.nil
        · skip
          go_simp
          have n_ra := ra.alloc (.cells #[.int .u64 0, .int .u64 0] 24)
          have n_rr := rr.alloc (.cells #[.int .u64 0, .int .u64 0] 24)
          have n_rs := rs.alloc (.cells #[.int .u64 0, .int .u64 0] 24)
          have n_r5 := r5.alloc (.cells #[.int .u64 0, .int .u64 0] 24)
          have ne_ra_r6 := Nat.ne_of_lt ra.lt
          have ne_rr_r6 := Nat.ne_of_lt rr.lt
          have ne_rs_r6 := Nat.ne_of_lt rs.lt
          have ne_r5_r6 := Nat.ne_of_lt r5.lt
          have n_r6 := Row.new W3 24 #[.int .u64 0, .int .u64 0]
          have n_hB := hB.alloc hB.size (.cells #[.int .u64 0, .int .u64 0] 24)
          have hge_r6 := hB.size
          clear ra rr rs r5 hB
          have ra := n_ra
          have rr := n_rr
          have rs := n_rs
          have r5 := n_r5
          have r6 := n_r6
          have hB := n_hB
          clear n_ra n_rr n_rs n_r5 n_r6 n_hB
          refine hK.out _ _ ⟨(ra.cell 4).trans HAC.out.k4, (ra.cell 5).trans HAC.out.k5, (ra.cell 6).trans HAC.out.k6, (ra.cell 7).trans HAC.out.k7, (ra.cell 8).trans HAC.out.k8, (ra.cell 9).trans HAC.out.k9, (ra.cell 10).trans HAC.out.k10, (ra.cell 11).trans HAC.out.k11⟩ (fun hHeld2 => ?_)
          clear hHeld hK K
          have hHeld := hHeld2
          clear hHeld2
          (try simp only [Act.put, List.setIfInBounds_toArray, List.set_cons_zero, List.set_cons_succ])
          generalize (W3.alloc (.cells #[.int .u64 0, .int .u64 0] 24)) = W4 at hHeld ra rr rs r5 r6 hB ⊢
          generalize W3.heap.size = g6 at ne_ra_r6 ne_rr_r6 ne_rs_r6 ne_r5_r6 hge_r6 r6 ⊢
          refine wpAnyH_ready (rs := [7]) (by kernel_rfl) (by simp) ?_
          refine AllReadyH.cons rfl (fun K hK => ?_) AllReadyH.nil
          · skip
            go_simp
            go_at_call 25
            refine (sum_any cph cpl ch cl HAC.out.b8 HAC.out.b9 HAC.out.b10 HAC.out.b11 _ _ ⟨(rs.cell 0).trans rfl, (rs.cell 1).trans rfl, (rs.cell 2).trans rfl, (rs.cell 3).trans rfl⟩).mono ?_
            rintro e W5 ⟨rfl, hb⟩
            have n_ra := ra.below hb ra.lt
            have n_rr := rr.below hb rr.lt
            have n_rs := rs.below hb rs.lt
            have n_r5 := r5.below hb r5.lt
            have n_r6 := r6.below hb r6.lt
            have n_hB := hB.trans (hb.mono hB.size)
            clear ra rr rs r5 r6 hB hb
            have ra := n_ra
            have rr := n_rr
            have rs := n_rs
            have r5 := n_r5
            have r6 := n_r6
            have hB := n_hB
            clear n_ra n_rr n_rs n_r5 n_r6 n_hB
            refine hK.out _ _ ⟨(ra.cell 4).trans HAC.out.k4, (ra.cell 5).trans HAC.out.k5, (ra.cell 6).trans HAC.out.k6, (ra.cell 7).trans HAC.out.k7, (ra.cell 8).trans HAC.out.k8, (ra.cell 9).trans HAC.out.k9, (ra.cell 10).trans HAC.out.k10, (ra.cell 11).trans HAC.out.k11⟩ (fun hHeld2 => ?_)
            clear hHeld hK K
            have hHeld := hHeld2
            clear hHeld2
            (try simp only [Act.put, List.setIfInBounds_toArray, List.set_cons_zero, List.set_cons_succ])
            refine wpAnyH_ready (rs := [10]) (by kernel_rfl) (by simp) ?_
            refine AllReadyH.cons rfl (fun K hK => ?_) AllReadyH.nil
            rw [if_pos (by rfl)]
            refine wp_store_row 24 _ _ rfl g5 #[.int .u64 dh, .int .u64 dl] rfl rfl 24 _ r5 (by rw [info24]; rfl) rfl (by simp [Value.oneCell']) ?_
            have n_ra := ra.apart ne_ra_r5 #[.int .u64 dh, .int .u64 dl]
            have n_rr := rr.apart ne_rr_r5 #[.int .u64 dh, .int .u64 dl]
            have n_rs := rs.apart ne_rs_r5 #[.int .u64 dh, .int .u64 dl]
            have n_r5 := r5.whole #[.int .u64 dh, .int .u64 dl]
            have n_r6 := r6.apart ne_r5_r6.symm #[.int .u64 dh, .int .u64 dl]
            have n_hB := below_setRow hB hge_r5 #[.int .u64 dh, .int .u64 dl]
            clear ra rr rs r5 r6 hB
            have ra := n_ra
            have rr := n_rr
            have rs := n_rs
            have r5 := n_r5
            have r6 := n_r6
            have hB := n_hB
            clear n_ra n_rr n_rs n_r5 n_r6 n_hB
            refine hK.out _ _ ⟨(ra.cell 4).trans HAC.out.k4, (ra.cell 5).trans HAC.out.k5, (ra.cell 6).trans HAC.out.k6, (ra.cell 7).trans HAC.out.k7, (ra.cell 8).trans HAC.out.k8, (ra.cell 9).trans HAC.out.k9, (ra.cell 10).trans HAC.out.k10, (ra.cell 11).trans HAC.out.k11⟩ (fun hHeld2 => ?_)
            clear hHeld hK K
            have hHeld := hHeld2
            clear hHeld2
            (try simp only [Act.put, List.setIfInBounds_toArray, List.set_cons_zero, List.set_cons_succ])
            generalize W5.setRow g5 #[.int .u64 dh, .int .u64 dl] = W6 at hHeld ra rr rs r5 r6 hB ⊢
            refine wpAnyH_ready (rs := [11]) (by kernel_rfl) (by simp) ?_
            refine AllReadyH.cons rfl (fun K hK => ?_) AllReadyH.nil
            rw [if_pos (by rfl)]
            refine wp_store_row 24 _ _ rfl g6 #[.int .u64 (mH cph cpl ch cl), .int .u64 (mL cph cpl ch cl)] rfl rfl 24 _ r6 (by rw [info24]; rfl) rfl (by simp [Value.oneCell']) ?_
            have n_ra := ra.apart ne_ra_r6 #[.int .u64 (mH cph cpl ch cl), .int .u64 (mL cph cpl ch cl)]
            have n_rr := rr.apart ne_rr_r6 #[.int .u64 (mH cph cpl ch cl), .int .u64 (mL cph cpl ch cl)]
            have n_rs := rs.apart ne_rs_r6 #[.int .u64 (mH cph cpl ch cl), .int .u64 (mL cph cpl ch cl)]
            have n_r5 := r5.apart ne_r5_r6 #[.int .u64 (mH cph cpl ch cl), .int .u64 (mL cph cpl ch cl)]
            have n_r6 := r6.whole #[.int .u64 (mH cph cpl ch cl), .int .u64 (mL cph cpl ch cl)]
            have n_hB := below_setRow hB hge_r6 #[.int .u64 (mH cph cpl ch cl), .int .u64 (mL cph cpl ch cl)]
            clear ra rr rs r5 r6 hB
            have ra := n_ra
            have rr := n_rr
            have rs := n_rs
            have r5 := n_r5
            have r6 := n_r6
            have hB := n_hB
            clear n_ra n_rr n_rs n_r5 n_r6 n_hB
            refine hK.out _ _ ⟨(ra.cell 4).trans HAC.out.k4, (ra.cell 5).trans HAC.out.k5, (ra.cell 6).trans HAC.out.k6, (ra.cell 7).trans HAC.out.k7, (ra.cell 8).trans HAC.out.k8, (ra.cell 9).trans HAC.out.k9, (ra.cell 10).trans HAC.out.k10, (ra.cell 11).trans HAC.out.k11⟩ (fun hHeld2 => ?_)
            clear hHeld hK K
            have hHeld := hHeld2
            clear hHeld2
            (try simp only [Act.put, List.setIfInBounds_toArray, List.set_cons_zero, List.set_cons_succ])
            generalize W6.setRow g6 #[.int .u64 (mH cph cpl ch cl), .int .u64 (mL cph cpl ch cl)] = W7 at hHeld ra rr rs r5 r6 hB ⊢
            refine wpAnyH_done (by kernel_rfl) ?_ _
            go_wp2_with fail
            go_meet
            exact ⟨g5, g6, rfl, rfl, ne_r5_r6, ne_rr_r5, ne_rr_r6, ne_ra_r5, ne_ra_r6, hge_r5, hge_r6, r5, r6, ra, rr, hB⟩
      refine AllReadyH.cons rfl (fun K hK => ?_) AllReadyH.nil
      · skip
        go_simp
        have n_ra := ra.alloc (.cells #[.int .u64 0, .int .u64 0] 24)
        have n_rr := rr.alloc (.cells #[.int .u64 0, .int .u64 0] 24)
        have n_rs := rs.alloc (.cells #[.int .u64 0, .int .u64 0] 24)
        have ne_ra_r6 := Nat.ne_of_lt ra.lt
        have ne_rr_r6 := Nat.ne_of_lt rr.lt
        have ne_rs_r6 := Nat.ne_of_lt rs.lt
        have n_r6 := Row.new W2 24 #[.int .u64 0, .int .u64 0]
        have n_hB := hB.alloc hB.size (.cells #[.int .u64 0, .int .u64 0] 24)
        have hge_r6 := hB.size
        clear ra rr rs hB
        have ra := n_ra
        have rr := n_rr
        have rs := n_rs
        have r6 := n_r6
        have hB := n_hB
        clear n_ra n_rr n_rs n_r6 n_hB
        refine hK.out _ _ ⟨(ra.cell 4).trans HAC.out.k4, (ra.cell 5).trans HAC.out.k5, (ra.cell 6).trans HAC.out.k6, (ra.cell 7).trans HAC.out.k7, (ra.cell 8).trans HAC.out.k8, (ra.cell 9).trans HAC.out.k9, (ra.cell 10).trans HAC.out.k10, (ra.cell 11).trans HAC.out.k11⟩ (fun hHeld2 => ?_)
        clear hHeld hK K
        have hHeld := hHeld2
        clear hHeld2
        (try simp only [Act.put, List.setIfInBounds_toArray, List.set_cons_zero, List.set_cons_succ])
        generalize (W2.alloc (.cells #[.int .u64 0, .int .u64 0] 24)) = W3 at hHeld ra rr rs r6 hB ⊢
        generalize W2.heap.size = g6 at ne_ra_r6 ne_rr_r6 ne_rs_r6 hge_r6 r6 ⊢
        refine wpAnyH_ready (rs := [7, 8]) (by kernel_rfl) (by simp) ?_
        refine AllReadyH.cons rfl (fun K hK => ?_) ?_
        · skip
          go_simp
          go_at_call 25
          refine (sum_any cph cpl ch cl HAC.out.b8 HAC.out.b9 HAC.out.b10 HAC.out.b11 _ _ ⟨(rs.cell 0).trans rfl, (rs.cell 1).trans rfl, (rs.cell 2).trans rfl, (rs.cell 3).trans rfl⟩).mono ?_
          rintro e W4 ⟨rfl, hb⟩
          have n_ra := ra.below hb ra.lt
          have n_rr := rr.below hb rr.lt
          have n_rs := rs.below hb rs.lt
          have n_r6 := r6.below hb r6.lt
          have n_hB := hB.trans (hb.mono hB.size)
          clear ra rr rs r6 hB hb
          have ra := n_ra
          have rr := n_rr
          have rs := n_rs
          have r6 := n_r6
          have hB := n_hB
          clear n_ra n_rr n_rs n_r6 n_hB
          refine hK.out _ _ ⟨(ra.cell 4).trans HAC.out.k4, (ra.cell 5).trans HAC.out.k5, (ra.cell 6).trans HAC.out.k6, (ra.cell 7).trans HAC.out.k7, (ra.cell 8).trans HAC.out.k8, (ra.cell 9).trans HAC.out.k9, (ra.cell 10).trans HAC.out.k10, (ra.cell 11).trans HAC.out.k11⟩ (fun hHeld2 => ?_)
          clear hHeld hK K
          have hHeld := hHeld2
          clear hHeld2
          (try simp only [Act.put, List.setIfInBounds_toArray, List.set_cons_zero, List.set_cons_succ])
          refine wpAnyH_ready (rs := [8]) (by kernel_rfl) (by simp) ?_
          refine AllReadyH.cons rfl (fun K hK => ?_) AllReadyH.nil
          · skip
            go_simp
            have n_ra := ra.alloc (.cells #[.int .u64 0, .int .u64 0] 24)
            have n_rr := rr.alloc (.cells #[.int .u64 0, .int .u64 0] 24)
            have n_rs := rs.alloc (.cells #[.int .u64 0, .int .u64 0] 24)
            have n_r6 := r6.alloc (.cells #[.int .u64 0, .int .u64 0] 24)
            have ne_ra_r5 := Nat.ne_of_lt ra.lt
            have ne_rr_r5 := Nat.ne_of_lt rr.lt
            have ne_rs_r5 := Nat.ne_of_lt rs.lt
            have ne_r6_r5 := Nat.ne_of_lt r6.lt
            have n_r5 := Row.new W4 24 #[.int .u64 0, .int .u64 0]
            have n_hB := hB.alloc hB.size (.cells #[.int .u64 0, .int .u64 0] 24)
            have hge_r5 := hB.size
            clear ra rr rs r6 hB
            have ra := n_ra
            have rr := n_rr
            have rs := n_rs
            have r6 := n_r6
            have r5 := n_r5
            have hB := n_hB
            clear n_ra n_rr n_rs n_r6 n_r5 n_hB
            refine hK.out _ _ ⟨(ra.cell 4).trans HAC.out.k4, (ra.cell 5).trans HAC.out.k5, (ra.cell 6).trans HAC.out.k6, (ra.cell 7).trans HAC.out.k7, (ra.cell 8).trans HAC.out.k8, (ra.cell 9).trans HAC.out.k9, (ra.cell 10).trans HAC.out.k10, (ra.cell 11).trans HAC.out.k11⟩ (fun hHeld2 => ?_)
            clear hHeld hK K
            have hHeld := hHeld2
            clear hHeld2
            (try simp only [Act.put, List.setIfInBounds_toArray, List.set_cons_zero, List.set_cons_succ])
            generalize (W4.alloc (.cells #[.int .u64 0, .int .u64 0] 24)) = W5 at hHeld ra rr rs r6 r5 hB ⊢
            generalize W4.heap.size = g5 at ne_ra_r5 ne_rr_r5 ne_rs_r5 ne_r6_r5 hge_r5 r5 ⊢
            refine wpAnyH_ready (rs := [10]) (by kernel_rfl) (by simp) ?_
            refine AllReadyH.cons rfl (fun K hK => ?_) AllReadyH.nil
            rw [if_pos (by rfl)]
            refine wp_store_row 24 _ _ rfl g5 #[.int .u64 dh, .int .u64 dl] rfl rfl 24 _ r5 (by rw [info24]; rfl) rfl (by simp [Value.oneCell']) ?_
            have n_ra := ra.apart ne_ra_r5 #[.int .u64 dh, .int .u64 dl]
            have n_rr := rr.apart ne_rr_r5 #[.int .u64 dh, .int .u64 dl]
            have n_rs := rs.apart ne_rs_r5 #[.int .u64 dh, .int .u64 dl]
            have n_r6 := r6.apart ne_r6_r5 #[.int .u64 dh, .int .u64 dl]
            have n_r5 := r5.whole #[.int .u64 dh, .int .u64 dl]
            have n_hB := below_setRow hB hge_r5 #[.int .u64 dh, .int .u64 dl]
            clear ra rr rs r6 r5 hB
            have ra := n_ra
            have rr := n_rr
            have rs := n_rs
            have r6 := n_r6
            have r5 := n_r5
            have hB := n_hB
            clear n_ra n_rr n_rs n_r6 n_r5 n_hB
            refine hK.out _ _ ⟨(ra.cell 4).trans HAC.out.k4, (ra.cell 5).trans HAC.out.k5, (ra.cell 6).trans HAC.out.k6, (ra.cell 7).trans HAC.out.k7, (ra.cell 8).trans HAC.out.k8, (ra.cell 9).trans HAC.out.k9, (ra.cell 10).trans HAC.out.k10, (ra.cell 11).trans HAC.out.k11⟩ (fun hHeld2 => ?_)
            clear hHeld hK K
            have hHeld := hHeld2
            clear hHeld2
            (try simp only [Act.put, List.setIfInBounds_toArray, List.set_cons_zero, List.set_cons_succ])
            generalize W5.setRow g5 #[.int .u64 dh, .int .u64 dl] = W6 at hHeld ra rr rs r6 r5 hB ⊢
            refine wpAnyH_ready (rs := [11]) (by kernel_rfl) (by simp) ?_
            refine AllReadyH.cons rfl (fun K hK => ?_) AllReadyH.nil
            rw [if_pos (by rfl)]
            refine wp_store_row 24 _ _ rfl g6 #[.int .u64 (mH cph cpl ch cl), .int .u64 (mL cph cpl ch cl)] rfl rfl 24 _ r6 (by rw [info24]; rfl) rfl (by simp [Value.oneCell']) ?_
            have n_ra := ra.apart ne_ra_r6 #[.int .u64 (mH cph cpl ch cl), .int .u64 (mL cph cpl ch cl)]
            have n_rr := rr.apart ne_rr_r6 #[.int .u64 (mH cph cpl ch cl), .int .u64 (mL cph cpl ch cl)]
            have n_rs := rs.apart ne_rs_r6 #[.int .u64 (mH cph cpl ch cl), .int .u64 (mL cph cpl ch cl)]
            have n_r6 := r6.whole #[.int .u64 (mH cph cpl ch cl), .int .u64 (mL cph cpl ch cl)]
            have n_r5 := r5.apart ne_r6_r5.symm #[.int .u64 (mH cph cpl ch cl), .int .u64 (mL cph cpl ch cl)]
            have n_hB := below_setRow hB hge_r6 #[.int .u64 (mH cph cpl ch cl), .int .u64 (mL cph cpl ch cl)]
            clear ra rr rs r6 r5 hB
            have ra := n_ra
            have rr := n_rr
            have rs := n_rs
            have r6 := n_r6
            have r5 := n_r5
            have hB := n_hB
            clear n_ra n_rr n_rs n_r6 n_r5 n_hB
            refine hK.out _ _ ⟨(ra.cell 4).trans HAC.out.k4, (ra.cell 5).trans HAC.out.k5, (ra.cell 6).trans HAC.out.k6, (ra.cell 7).trans HAC.out.k7, (ra.cell 8).trans HAC.out.k8, (ra.cell 9).trans HAC.out.k9, (ra.cell 10).trans HAC.out.k10, (ra.cell 11).trans HAC.out.k11⟩ (fun hHeld2 => ?_)
            clear hHeld hK K
            have hHeld := hHeld2
            clear hHeld2
            (try simp only [Act.put, List.setIfInBounds_toArray, List.set_cons_zero, List.set_cons_succ])
            generalize W6.setRow g6 #[.int .u64 (mH cph cpl ch cl), .int .u64 (mL cph cpl ch cl)] = W7 at hHeld ra rr rs r6 r5 hB ⊢
            refine wpAnyH_done (by kernel_rfl) ?_ _
            go_wp2_with fail
            go_meet
            exact ⟨g5, g6, rfl, rfl, ne_r6_r5.symm, ne_rr_r5, ne_rr_r6, ne_ra_r5, ne_ra_r6, hge_r5, hge_r6, r5, r6, ra, rr, hB⟩
        refine AllReadyH.cons rfl (fun K hK => ?_) AllReadyH.nil
        · skip
          go_simp
          have n_ra := ra.alloc (.cells #[.int .u64 0, .int .u64 0] 24)
          have n_rr := rr.alloc (.cells #[.int .u64 0, .int .u64 0] 24)
          have n_rs := rs.alloc (.cells #[.int .u64 0, .int .u64 0] 24)
          have n_r6 := r6.alloc (.cells #[.int .u64 0, .int .u64 0] 24)
          have ne_ra_r5 := Nat.ne_of_lt ra.lt
          have ne_rr_r5 := Nat.ne_of_lt rr.lt
          have ne_rs_r5 := Nat.ne_of_lt rs.lt
          have ne_r6_r5 := Nat.ne_of_lt r6.lt
          have n_r5 := Row.new W3 24 #[.int .u64 0, .int .u64 0]
          have n_hB := hB.alloc hB.size (.cells #[.int .u64 0, .int .u64 0] 24)
          have hge_r5 := hB.size
          clear ra rr rs r6 hB
          have ra := n_ra
          have rr := n_rr
          have rs := n_rs
          have r6 := n_r6
          have r5 := n_r5
          have hB := n_hB
          clear n_ra n_rr n_rs n_r6 n_r5 n_hB
          refine hK.out _ _ ⟨(ra.cell 4).trans HAC.out.k4, (ra.cell 5).trans HAC.out.k5, (ra.cell 6).trans HAC.out.k6, (ra.cell 7).trans HAC.out.k7, (ra.cell 8).trans HAC.out.k8, (ra.cell 9).trans HAC.out.k9, (ra.cell 10).trans HAC.out.k10, (ra.cell 11).trans HAC.out.k11⟩ (fun hHeld2 => ?_)
          clear hHeld hK K
          have hHeld := hHeld2
          clear hHeld2
          (try simp only [Act.put, List.setIfInBounds_toArray, List.set_cons_zero, List.set_cons_succ])
          generalize (W3.alloc (.cells #[.int .u64 0, .int .u64 0] 24)) = W4 at hHeld ra rr rs r6 r5 hB ⊢
          generalize W3.heap.size = g5 at ne_ra_r5 ne_rr_r5 ne_rs_r5 ne_r6_r5 hge_r5 r5 ⊢
          refine wpAnyH_ready (rs := [7]) (by kernel_rfl) (by simp) ?_
          refine AllReadyH.cons rfl (fun K hK => ?_) AllReadyH.nil
          · skip
            go_simp
            go_at_call 25
            refine (sum_any cph cpl ch cl HAC.out.b8 HAC.out.b9 HAC.out.b10 HAC.out.b11 _ _ ⟨(rs.cell 0).trans rfl, (rs.cell 1).trans rfl, (rs.cell 2).trans rfl, (rs.cell 3).trans rfl⟩).mono ?_
            rintro e W5 ⟨rfl, hb⟩
            have n_ra := ra.below hb ra.lt
            have n_rr := rr.below hb rr.lt
            have n_rs := rs.below hb rs.lt
            have n_r6 := r6.below hb r6.lt
            have n_r5 := r5.below hb r5.lt
            have n_hB := hB.trans (hb.mono hB.size)
            clear ra rr rs r6 r5 hB hb
            have ra := n_ra
            have rr := n_rr
            have rs := n_rs
            have r6 := n_r6
            have r5 := n_r5
            have hB := n_hB
            clear n_ra n_rr n_rs n_r6 n_r5 n_hB
            refine hK.out _ _ ⟨(ra.cell 4).trans HAC.out.k4, (ra.cell 5).trans HAC.out.k5, (ra.cell 6).trans HAC.out.k6, (ra.cell 7).trans HAC.out.k7, (ra.cell 8).trans HAC.out.k8, (ra.cell 9).trans HAC.out.k9, (ra.cell 10).trans HAC.out.k10, (ra.cell 11).trans HAC.out.k11⟩ (fun hHeld2 => ?_)
            clear hHeld hK K
            have hHeld := hHeld2
            clear hHeld2
            (try simp only [Act.put, List.setIfInBounds_toArray, List.set_cons_zero, List.set_cons_succ])
            refine wpAnyH_ready (rs := [10]) (by kernel_rfl) (by simp) ?_
            refine AllReadyH.cons rfl (fun K hK => ?_) AllReadyH.nil
            rw [if_pos (by rfl)]
            refine wp_store_row 24 _ _ rfl g5 #[.int .u64 dh, .int .u64 dl] rfl rfl 24 _ r5 (by rw [info24]; rfl) rfl (by simp [Value.oneCell']) ?_
            have n_ra := ra.apart ne_ra_r5 #[.int .u64 dh, .int .u64 dl]
            have n_rr := rr.apart ne_rr_r5 #[.int .u64 dh, .int .u64 dl]
            have n_rs := rs.apart ne_rs_r5 #[.int .u64 dh, .int .u64 dl]
            have n_r6 := r6.apart ne_r6_r5 #[.int .u64 dh, .int .u64 dl]
            have n_r5 := r5.whole #[.int .u64 dh, .int .u64 dl]
            have n_hB := below_setRow hB hge_r5 #[.int .u64 dh, .int .u64 dl]
            clear ra rr rs r6 r5 hB
            have ra := n_ra
            have rr := n_rr
            have rs := n_rs
            have r6 := n_r6
            have r5 := n_r5
            have hB := n_hB
            clear n_ra n_rr n_rs n_r6 n_r5 n_hB
            refine hK.out _ _ ⟨(ra.cell 4).trans HAC.out.k4, (ra.cell 5).trans HAC.out.k5, (ra.cell 6).trans HAC.out.k6, (ra.cell 7).trans HAC.out.k7, (ra.cell 8).trans HAC.out.k8, (ra.cell 9).trans HAC.out.k9, (ra.cell 10).trans HAC.out.k10, (ra.cell 11).trans HAC.out.k11⟩ (fun hHeld2 => ?_)
            clear hHeld hK K
            have hHeld := hHeld2
            clear hHeld2
            (try simp only [Act.put, List.setIfInBounds_toArray, List.set_cons_zero, List.set_cons_succ])
            generalize W5.setRow g5 #[.int .u64 dh, .int .u64 dl] = W6 at hHeld ra rr rs r6 r5 hB ⊢
            refine wpAnyH_ready (rs := [11]) (by kernel_rfl) (by simp) ?_
            refine AllReadyH.cons rfl (fun K hK => ?_) AllReadyH.nil
            rw [if_pos (by rfl)]
            refine wp_store_row 24 _ _ rfl g6 #[.int .u64 (mH cph cpl ch cl), .int .u64 (mL cph cpl ch cl)] rfl rfl 24 _ r6 (by rw [info24]; rfl) rfl (by simp [Value.oneCell']) ?_
            have n_ra := ra.apart ne_ra_r6 #[.int .u64 (mH cph cpl ch cl), .int .u64 (mL cph cpl ch cl)]
            have n_rr := rr.apart ne_rr_r6 #[.int .u64 (mH cph cpl ch cl), .int .u64 (mL cph cpl ch cl)]
            have n_rs := rs.apart ne_rs_r6 #[.int .u64 (mH cph cpl ch cl), .int .u64 (mL cph cpl ch cl)]
            have n_r6 := r6.whole #[.int .u64 (mH cph cpl ch cl), .int .u64 (mL cph cpl ch cl)]
            have n_r5 := r5.apart ne_r6_r5.symm #[.int .u64 (mH cph cpl ch cl), .int .u64 (mL cph cpl ch cl)]
            have n_hB := below_setRow hB hge_r6 #[.int .u64 (mH cph cpl ch cl), .int .u64 (mL cph cpl ch cl)]
            clear ra rr rs r6 r5 hB
            have ra := n_ra
            have rr := n_rr
            have rs := n_rs
            have r6 := n_r6
            have r5 := n_r5
            have hB := n_hB
            clear n_ra n_rr n_rs n_r6 n_r5 n_hB
            refine hK.out _ _ ⟨(ra.cell 4).trans HAC.out.k4, (ra.cell 5).trans HAC.out.k5, (ra.cell 6).trans HAC.out.k6, (ra.cell 7).trans HAC.out.k7, (ra.cell 8).trans HAC.out.k8, (ra.cell 9).trans HAC.out.k9, (ra.cell 10).trans HAC.out.k10, (ra.cell 11).trans HAC.out.k11⟩ (fun hHeld2 => ?_)
            clear hHeld hK K
            have hHeld := hHeld2
            clear hHeld2
            (try simp only [Act.put, List.setIfInBounds_toArray, List.set_cons_zero, List.set_cons_succ])
            generalize W6.setRow g6 #[.int .u64 (mH cph cpl ch cl), .int .u64 (mL cph cpl ch cl)] = W7 at hHeld ra rr rs r6 r5 hB ⊢
            refine wpAnyH_done (by kernel_rfl) ?_ _
            go_wp2_with fail
            go_meet
            exact ⟨g5, g6, rfl, rfl, ne_r6_r5.symm, ne_rr_r5, ne_rr_r6, ne_ra_r5, ne_ra_r6, hge_r5, hge_r6, r5, r6, ra, rr, hB⟩
    refine AllReadyH.cons rfl (fun K hK => ?_) ?_
    · skip
      go_simp
      have n_ra := ra.alloc (.cells #[.int .u64 0, .int .u64 0] 24)
      have n_rr := rr.alloc (.cells #[.int .u64 0, .int .u64 0] 24)
      have ne_ra_r5 := Nat.ne_of_lt ra.lt
      have ne_rr_r5 := Nat.ne_of_lt rr.lt
      have n_r5 := Row.new W1 24 #[.int .u64 0, .int .u64 0]
      have n_hB := hB.alloc hB.size (.cells #[.int .u64 0, .int .u64 0] 24)
      have hge_r5 := hB.size
      clear ra rr hB
      have ra := n_ra
      have rr := n_rr
      have r5 := n_r5
      have hB := n_hB
      clear n_ra n_rr n_r5 n_hB
      refine hK.out _ _ ⟨(ra.cell 4).trans HAC.out.k4, (ra.cell 5).trans HAC.out.k5, (ra.cell 6).trans HAC.out.k6, (ra.cell 7).trans HAC.out.k7, (ra.cell 8).trans HAC.out.k8, (ra.cell 9).trans HAC.out.k9, (ra.cell 10).trans HAC.out.k10, (ra.cell 11).trans HAC.out.k11⟩ (fun hHeld2 => ?_)
      clear hHeld hK K
      have hHeld := hHeld2
      clear hHeld2
      (try simp only [Act.put, List.setIfInBounds_toArray, List.set_cons_zero, List.set_cons_succ])
      generalize (W1.alloc (.cells #[.int .u64 0, .int .u64 0] 24)) = W2 at hHeld ra rr r5 hB ⊢
      generalize W1.heap.size = g5 at ne_ra_r5 ne_rr_r5 hge_r5 r5 ⊢
      refine wpAnyH_ready (rs := [6, 9]) (by kernel_rfl) (by simp) ?_
      refine AllReadyH.cons rfl (fun K hK => ?_) ?_
      · skip
        go_simp
        have n_ra := ra.alloc (.cells #[.int .u64 cph, .int .u64 cpl, .int .u64 ch, .int .u64 cl] 24)
        have n_rr := rr.alloc (.cells #[.int .u64 cph, .int .u64 cpl, .int .u64 ch, .int .u64 cl] 24)
        have n_r5 := r5.alloc (.cells #[.int .u64 cph, .int .u64 cpl, .int .u64 ch, .int .u64 cl] 24)
        have ne_ra_rs := Nat.ne_of_lt ra.lt
        have ne_rr_rs := Nat.ne_of_lt rr.lt
        have ne_r5_rs := Nat.ne_of_lt r5.lt
        have n_rs := Row.new W2 24 #[.int .u64 cph, .int .u64 cpl, .int .u64 ch, .int .u64 cl]
        have n_hB := hB.alloc hB.size (.cells #[.int .u64 cph, .int .u64 cpl, .int .u64 ch, .int .u64 cl] 24)
        have hge_rs := hB.size
        clear ra rr r5 hB
        have ra := n_ra
        have rr := n_rr
        have r5 := n_r5
        have rs := n_rs
        have hB := n_hB
        clear n_ra n_rr n_r5 n_rs n_hB
        refine hK.out _ _ ⟨(ra.cell 4).trans HAC.out.k4, (ra.cell 5).trans HAC.out.k5, (ra.cell 6).trans HAC.out.k6, (ra.cell 7).trans HAC.out.k7, (ra.cell 8).trans HAC.out.k8, (ra.cell 9).trans HAC.out.k9, (ra.cell 10).trans HAC.out.k10, (ra.cell 11).trans HAC.out.k11⟩ (fun hHeld2 => ?_)
        clear hHeld hK K
        have hHeld := hHeld2
        clear hHeld2
        (try simp only [Act.put, List.setIfInBounds_toArray, List.set_cons_zero, List.set_cons_succ])
        generalize (W2.alloc (.cells #[.int .u64 cph, .int .u64 cpl, .int .u64 ch, .int .u64 cl] 24)) = W3 at hHeld ra rr r5 rs hB ⊢
        generalize W2.heap.size = gs at ne_ra_rs ne_rr_rs ne_r5_rs hge_rs rs ⊢
        refine wpAnyH_ready (rs := [7, 9]) (by kernel_rfl) (by simp) ?_
        refine AllReadyH.cons rfl (fun K hK => ?_) ?_
        · skip
          go_simp
          go_at_call 25
          refine (sum_any cph cpl ch cl HAC.out.b8 HAC.out.b9 HAC.out.b10 HAC.out.b11 _ _ ⟨(rs.cell 0).trans rfl, (rs.cell 1).trans rfl, (rs.cell 2).trans rfl, (rs.cell 3).trans rfl⟩).mono ?_
          rintro e W4 ⟨rfl, hb⟩
          have n_ra := ra.below hb ra.lt
          have n_rr := rr.below hb rr.lt
          have n_r5 := r5.below hb r5.lt
          have n_rs := rs.below hb rs.lt
          have n_hB := hB.trans (hb.mono hB.size)
          clear ra rr r5 rs hB hb
          have ra := n_ra
          have rr := n_rr
          have r5 := n_r5
          have rs := n_rs
          have hB := n_hB
          clear n_ra n_rr n_r5 n_rs n_hB
          refine hK.out _ _ ⟨(ra.cell 4).trans HAC.out.k4, (ra.cell 5).trans HAC.out.k5, (ra.cell 6).trans HAC.out.k6, (ra.cell 7).trans HAC.out.k7, (ra.cell 8).trans HAC.out.k8, (ra.cell 9).trans HAC.out.k9, (ra.cell 10).trans HAC.out.k10, (ra.cell 11).trans HAC.out.k11⟩ (fun hHeld2 => ?_)
          clear hHeld hK K
          have hHeld := hHeld2
          clear hHeld2
          (try simp only [Act.put, List.setIfInBounds_toArray, List.set_cons_zero, List.set_cons_succ])
          refine wpAnyH_ready (rs := [9]) (by kernel_rfl) (by simp) ?_
          refine AllReadyH.cons rfl (fun K hK => ?_) AllReadyH.nil
          · skip
            go_simp
            have n_ra := ra.alloc (.cells #[.int .u64 0, .int .u64 0] 24)
            have n_rr := rr.alloc (.cells #[.int .u64 0, .int .u64 0] 24)
            have n_r5 := r5.alloc (.cells #[.int .u64 0, .int .u64 0] 24)
            have n_rs := rs.alloc (.cells #[.int .u64 0, .int .u64 0] 24)
            have ne_ra_r6 := Nat.ne_of_lt ra.lt
            have ne_rr_r6 := Nat.ne_of_lt rr.lt
            have ne_r5_r6 := Nat.ne_of_lt r5.lt
            have ne_rs_r6 := Nat.ne_of_lt rs.lt
            have n_r6 := Row.new W4 24 #[.int .u64 0, .int .u64 0]
            have n_hB := hB.alloc hB.size (.cells #[.int .u64 0, .int .u64 0] 24)
            have hge_r6 := hB.size
            clear ra rr r5 rs hB
            have ra := n_ra
            have rr := n_rr
            have r5 := n_r5
            have rs := n_rs
            have r6 := n_r6
            have hB := n_hB
            clear n_ra n_rr n_r5 n_rs n_r6 n_hB
            refine hK.out _ _ ⟨(ra.cell 4).trans HAC.out.k4, (ra.cell 5).trans HAC.out.k5, (ra.cell 6).trans HAC.out.k6, (ra.cell 7).trans HAC.out.k7, (ra.cell 8).trans HAC.out.k8, (ra.cell 9).trans HAC.out.k9, (ra.cell 10).trans HAC.out.k10, (ra.cell 11).trans HAC.out.k11⟩ (fun hHeld2 => ?_)
            clear hHeld hK K
            have hHeld := hHeld2
            clear hHeld2
            (try simp only [Act.put, List.setIfInBounds_toArray, List.set_cons_zero, List.set_cons_succ])
            generalize (W4.alloc (.cells #[.int .u64 0, .int .u64 0] 24)) = W5 at hHeld ra rr r5 rs r6 hB ⊢
            generalize W4.heap.size = g6 at ne_ra_r6 ne_rr_r6 ne_r5_r6 ne_rs_r6 hge_r6 r6 ⊢
            refine wpAnyH_ready (rs := [10]) (by kernel_rfl) (by simp) ?_
            refine AllReadyH.cons rfl (fun K hK => ?_) AllReadyH.nil
            rw [if_pos (by rfl)]
            refine wp_store_row 24 _ _ rfl g5 #[.int .u64 dh, .int .u64 dl] rfl rfl 24 _ r5 (by rw [info24]; rfl) rfl (by simp [Value.oneCell']) ?_
            have n_ra := ra.apart ne_ra_r5 #[.int .u64 dh, .int .u64 dl]
            have n_rr := rr.apart ne_rr_r5 #[.int .u64 dh, .int .u64 dl]
            have n_r5 := r5.whole #[.int .u64 dh, .int .u64 dl]
            have n_rs := rs.apart ne_r5_rs.symm #[.int .u64 dh, .int .u64 dl]
            have n_r6 := r6.apart ne_r5_r6.symm #[.int .u64 dh, .int .u64 dl]
            have n_hB := below_setRow hB hge_r5 #[.int .u64 dh, .int .u64 dl]
            clear ra rr r5 rs r6 hB
            have ra := n_ra
            have rr := n_rr
            have r5 := n_r5
            have rs := n_rs
            have r6 := n_r6
            have hB := n_hB
            clear n_ra n_rr n_r5 n_rs n_r6 n_hB
            refine hK.out _ _ ⟨(ra.cell 4).trans HAC.out.k4, (ra.cell 5).trans HAC.out.k5, (ra.cell 6).trans HAC.out.k6, (ra.cell 7).trans HAC.out.k7, (ra.cell 8).trans HAC.out.k8, (ra.cell 9).trans HAC.out.k9, (ra.cell 10).trans HAC.out.k10, (ra.cell 11).trans HAC.out.k11⟩ (fun hHeld2 => ?_)
            clear hHeld hK K
            have hHeld := hHeld2
            clear hHeld2
            (try simp only [Act.put, List.setIfInBounds_toArray, List.set_cons_zero, List.set_cons_succ])
            generalize W5.setRow g5 #[.int .u64 dh, .int .u64 dl] = W6 at hHeld ra rr r5 rs r6 hB ⊢
            refine wpAnyH_ready (rs := [11]) (by kernel_rfl) (by simp) ?_
            refine AllReadyH.cons rfl (fun K hK => ?_) AllReadyH.nil
            rw [if_pos (by rfl)]
            refine wp_store_row 24 _ _ rfl g6 #[.int .u64 (mH cph cpl ch cl), .int .u64 (mL cph cpl ch cl)] rfl rfl 24 _ r6 (by rw [info24]; rfl) rfl (by simp [Value.oneCell']) ?_
            have n_ra := ra.apart ne_ra_r6 #[.int .u64 (mH cph cpl ch cl), .int .u64 (mL cph cpl ch cl)]
            have n_rr := rr.apart ne_rr_r6 #[.int .u64 (mH cph cpl ch cl), .int .u64 (mL cph cpl ch cl)]
            have n_r5 := r5.apart ne_r5_r6 #[.int .u64 (mH cph cpl ch cl), .int .u64 (mL cph cpl ch cl)]
            have n_rs := rs.apart ne_rs_r6 #[.int .u64 (mH cph cpl ch cl), .int .u64 (mL cph cpl ch cl)]
            have n_r6 := r6.whole #[.int .u64 (mH cph cpl ch cl), .int .u64 (mL cph cpl ch cl)]
            have n_hB := below_setRow hB hge_r6 #[.int .u64 (mH cph cpl ch cl), .int .u64 (mL cph cpl ch cl)]
            clear ra rr r5 rs r6 hB
            have ra := n_ra
            have rr := n_rr
            have r5 := n_r5
            have rs := n_rs
            have r6 := n_r6
            have hB := n_hB
            clear n_ra n_rr n_r5 n_rs n_r6 n_hB
            refine hK.out _ _ ⟨(ra.cell 4).trans HAC.out.k4, (ra.cell 5).trans HAC.out.k5, (ra.cell 6).trans HAC.out.k6, (ra.cell 7).trans HAC.out.k7, (ra.cell 8).trans HAC.out.k8, (ra.cell 9).trans HAC.out.k9, (ra.cell 10).trans HAC.out.k10, (ra.cell 11).trans HAC.out.k11⟩ (fun hHeld2 => ?_)
            clear hHeld hK K
            have hHeld := hHeld2
            clear hHeld2
            (try simp only [Act.put, List.setIfInBounds_toArray, List.set_cons_zero, List.set_cons_succ])
            generalize W6.setRow g6 #[.int .u64 (mH cph cpl ch cl), .int .u64 (mL cph cpl ch cl)] = W7 at hHeld ra rr r5 rs r6 hB ⊢
            refine wpAnyH_done (by kernel_rfl) ?_ _
            go_wp2_with fail
            go_meet
            exact ⟨g5, g6, rfl, rfl, ne_r5_r6, ne_rr_r5, ne_rr_r6, ne_ra_r5, ne_ra_r6, hge_r5, hge_r6, r5, r6, ra, rr, hB⟩
        refine AllReadyH.cons rfl (fun K hK => ?_) AllReadyH.nil
        · skip
          go_simp
          have n_ra := ra.alloc (.cells #[.int .u64 0, .int .u64 0] 24)
          have n_rr := rr.alloc (.cells #[.int .u64 0, .int .u64 0] 24)
          have n_r5 := r5.alloc (.cells #[.int .u64 0, .int .u64 0] 24)
          have n_rs := rs.alloc (.cells #[.int .u64 0, .int .u64 0] 24)
          have ne_ra_r6 := Nat.ne_of_lt ra.lt
          have ne_rr_r6 := Nat.ne_of_lt rr.lt
          have ne_r5_r6 := Nat.ne_of_lt r5.lt
          have ne_rs_r6 := Nat.ne_of_lt rs.lt
          have n_r6 := Row.new W3 24 #[.int .u64 0, .int .u64 0]
          have n_hB := hB.alloc hB.size (.cells #[.int .u64 0, .int .u64 0] 24)
          have hge_r6 := hB.size
          clear ra rr r5 rs hB
          have ra := n_ra
          have rr := n_rr
          have r5 := n_r5
          have rs := n_rs
          have r6 := n_r6
          have hB := n_hB
          clear n_ra n_rr n_r5 n_rs n_r6 n_hB
          refine hK.out _ _ ⟨(ra.cell 4).trans HAC.out.k4, (ra.cell 5).trans HAC.out.k5, (ra.cell 6).trans HAC.out.k6, (ra.cell 7).trans HAC.out.k7, (ra.cell 8).trans HAC.out.k8, (ra.cell 9).trans HAC.out.k9, (ra.cell 10).trans HAC.out.k10, (ra.cell 11).trans HAC.out.k11⟩ (fun hHeld2 => ?_)
          clear hHeld hK K
          have hHeld := hHeld2
          clear hHeld2
          (try simp only [Act.put, List.setIfInBounds_toArray, List.set_cons_zero, List.set_cons_succ])
          generalize (W3.alloc (.cells #[.int .u64 0, .int .u64 0] 24)) = W4 at hHeld ra rr r5 rs r6 hB ⊢
          generalize W3.heap.size = g6 at ne_ra_r6 ne_rr_r6 ne_r5_r6 ne_rs_r6 hge_r6 r6 ⊢
          refine wpAnyH_ready (rs := [7]) (by kernel_rfl) (by simp) ?_
          refine AllReadyH.cons rfl (fun K hK => ?_) AllReadyH.nil
          · skip
            go_simp
            go_at_call 25
            refine (sum_any cph cpl ch cl HAC.out.b8 HAC.out.b9 HAC.out.b10 HAC.out.b11 _ _ ⟨(rs.cell 0).trans rfl, (rs.cell 1).trans rfl, (rs.cell 2).trans rfl, (rs.cell 3).trans rfl⟩).mono ?_
            rintro e W5 ⟨rfl, hb⟩
            have n_ra := ra.below hb ra.lt
            have n_rr := rr.below hb rr.lt
            have n_r5 := r5.below hb r5.lt
            have n_rs := rs.below hb rs.lt
            have n_r6 := r6.below hb r6.lt
            have n_hB := hB.trans (hb.mono hB.size)
            clear ra rr r5 rs r6 hB hb
            have ra := n_ra
            have rr := n_rr
            have r5 := n_r5
            have rs := n_rs
            have r6 := n_r6
            have hB := n_hB
            clear n_ra n_rr n_r5 n_rs n_r6 n_hB
            refine hK.out _ _ ⟨(ra.cell 4).trans HAC.out.k4, (ra.cell 5).trans HAC.out.k5, (ra.cell 6).trans HAC.out.k6, (ra.cell 7).trans HAC.out.k7, (ra.cell 8).trans HAC.out.k8, (ra.cell 9).trans HAC.out.k9, (ra.cell 10).trans HAC.out.k10, (ra.cell 11).trans HAC.out.k11⟩ (fun hHeld2 => ?_)
            clear hHeld hK K
            have hHeld := hHeld2
            clear hHeld2
            (try simp only [Act.put, List.setIfInBounds_toArray, List.set_cons_zero, List.set_cons_succ])
            refine wpAnyH_ready (rs := [10]) (by kernel_rfl) (by simp) ?_
            refine AllReadyH.cons rfl (fun K hK => ?_) AllReadyH.nil
            rw [if_pos (by rfl)]
            refine wp_store_row 24 _ _ rfl g5 #[.int .u64 dh, .int .u64 dl] rfl rfl 24 _ r5 (by rw [info24]; rfl) rfl (by simp [Value.oneCell']) ?_
            have n_ra := ra.apart ne_ra_r5 #[.int .u64 dh, .int .u64 dl]
            have n_rr := rr.apart ne_rr_r5 #[.int .u64 dh, .int .u64 dl]
            have n_r5 := r5.whole #[.int .u64 dh, .int .u64 dl]
            have n_rs := rs.apart ne_r5_rs.symm #[.int .u64 dh, .int .u64 dl]
            have n_r6 := r6.apart ne_r5_r6.symm #[.int .u64 dh, .int .u64 dl]
            have n_hB := below_setRow hB hge_r5 #[.int .u64 dh, .int .u64 dl]
            clear ra rr r5 rs r6 hB
            have ra := n_ra
            have rr := n_rr
            have r5 := n_r5
            have rs := n_rs
            have r6 := n_r6
            have hB := n_hB
            clear n_ra n_rr n_r5 n_rs n_r6 n_hB
            refine hK.out _ _ ⟨(ra.cell 4).trans HAC.out.k4, (ra.cell 5).trans HAC.out.k5, (ra.cell 6).trans HAC.out.k6, (ra.cell 7).trans HAC.out.k7, (ra.cell 8).trans HAC.out.k8, (ra.cell 9).trans HAC.out.k9, (ra.cell 10).trans HAC.out.k10, (ra.cell 11).trans HAC.out.k11⟩ (fun hHeld2 => ?_)
            clear hHeld hK K
            have hHeld := hHeld2
            clear hHeld2
            (try simp only [Act.put, List.setIfInBounds_toArray, List.set_cons_zero, List.set_cons_succ])
            generalize W5.setRow g5 #[.int .u64 dh, .int .u64 dl] = W6 at hHeld ra rr r5 rs r6 hB ⊢
            refine wpAnyH_ready (rs := [11]) (by kernel_rfl) (by simp) ?_
            refine AllReadyH.cons rfl (fun K hK => ?_) AllReadyH.nil
            rw [if_pos (by rfl)]
            refine wp_store_row 24 _ _ rfl g6 #[.int .u64 (mH cph cpl ch cl), .int .u64 (mL cph cpl ch cl)] rfl rfl 24 _ r6 (by rw [info24]; rfl) rfl (by simp [Value.oneCell']) ?_
            have n_ra := ra.apart ne_ra_r6 #[.int .u64 (mH cph cpl ch cl), .int .u64 (mL cph cpl ch cl)]
            have n_rr := rr.apart ne_rr_r6 #[.int .u64 (mH cph cpl ch cl), .int .u64 (mL cph cpl ch cl)]
            have n_r5 := r5.apart ne_r5_r6 #[.int .u64 (mH cph cpl ch cl), .int .u64 (mL cph cpl ch cl)]
            have n_rs := rs.apart ne_rs_r6 #[.int .u64 (mH cph cpl ch cl), .int .u64 (mL cph cpl ch cl)]
            have n_r6 := r6.whole #[.int .u64 (mH cph cpl ch cl), .int .u64 (mL cph cpl ch cl)]
            have n_hB := below_setRow hB hge_r6 #[.int .u64 (mH cph cpl ch cl), .int .u64 (mL cph cpl ch cl)]
            clear ra rr r5 rs r6 hB
            have ra := n_ra
            have rr := n_rr
            have r5 := n_r5
            have rs := n_rs
            have r6 := n_r6
            have hB := n_hB
            clear n_ra n_rr n_r5 n_rs n_r6 n_hB
            refine hK.out _ _ ⟨(ra.cell 4).trans HAC.out.k4, (ra.cell 5).trans HAC.out.k5, (ra.cell 6).trans HAC.out.k6, (ra.cell 7).trans HAC.out.k7, (ra.cell 8).trans HAC.out.k8, (ra.cell 9).trans HAC.out.k9, (ra.cell 10).trans HAC.out.k10, (ra.cell 11).trans HAC.out.k11⟩ (fun hHeld2 => ?_)
            clear hHeld hK K
            have hHeld := hHeld2
            clear hHeld2
            (try simp only [Act.put, List.setIfInBounds_toArray, List.set_cons_zero, List.set_cons_succ])
            generalize W6.setRow g6 #[.int .u64 (mH cph cpl ch cl), .int .u64 (mL cph cpl ch cl)] = W7 at hHeld ra rr r5 rs r6 hB ⊢
            refine wpAnyH_done (by kernel_rfl) ?_ _
            go_wp2_with fail
            go_meet
            exact ⟨g5, g6, rfl, rfl, ne_r5_r6, ne_rr_r5, ne_rr_r6, ne_ra_r5, ne_ra_r6, hge_r5, hge_r6, r5, r6, ra, rr, hB⟩
      refine AllReadyH.cons rfl (fun K hK => ?_) AllReadyH.nil
      · skip
        go_simp
        have n_ra := ra.alloc (.cells #[.int .u64 0, .int .u64 0] 24)
        have n_rr := rr.alloc (.cells #[.int .u64 0, .int .u64 0] 24)
        have n_r5 := r5.alloc (.cells #[.int .u64 0, .int .u64 0] 24)
        have ne_ra_r6 := Nat.ne_of_lt ra.lt
        have ne_rr_r6 := Nat.ne_of_lt rr.lt
        have ne_r5_r6 := Nat.ne_of_lt r5.lt
        have n_r6 := Row.new W2 24 #[.int .u64 0, .int .u64 0]
        have n_hB := hB.alloc hB.size (.cells #[.int .u64 0, .int .u64 0] 24)
        have hge_r6 := hB.size
        clear ra rr r5 hB
        have ra := n_ra
        have rr := n_rr
        have r5 := n_r5
        have r6 := n_r6
        have hB := n_hB
        clear n_ra n_rr n_r5 n_r6 n_hB
        refine hK.out _ _ ⟨(ra.cell 4).trans HAC.out.k4, (ra.cell 5).trans HAC.out.k5, (ra.cell 6).trans HAC.out.k6, (ra.cell 7).trans HAC.out.k7, (ra.cell 8).trans HAC.out.k8, (ra.cell 9).trans HAC.out.k9, (ra.cell 10).trans HAC.out.k10, (ra.cell 11).trans HAC.out.k11⟩ (fun hHeld2 => ?_)
        clear hHeld hK K
        have hHeld := hHeld2
        clear hHeld2
        (try simp only [Act.put, List.setIfInBounds_toArray, List.set_cons_zero, List.set_cons_succ])
        generalize (W2.alloc (.cells #[.int .u64 0, .int .u64 0] 24)) = W3 at hHeld ra rr r5 r6 hB ⊢
        generalize W2.heap.size = g6 at ne_ra_r6 ne_rr_r6 ne_r5_r6 hge_r6 r6 ⊢
        refine wpAnyH_ready (rs := [6]) (by kernel_rfl) (by simp) ?_
        refine AllReadyH.cons rfl (fun K hK => ?_) AllReadyH.nil
        · skip
          go_simp
          have n_ra := ra.alloc (.cells #[.int .u64 cph, .int .u64 cpl, .int .u64 ch, .int .u64 cl] 24)
          have n_rr := rr.alloc (.cells #[.int .u64 cph, .int .u64 cpl, .int .u64 ch, .int .u64 cl] 24)
          have n_r5 := r5.alloc (.cells #[.int .u64 cph, .int .u64 cpl, .int .u64 ch, .int .u64 cl] 24)
          have n_r6 := r6.alloc (.cells #[.int .u64 cph, .int .u64 cpl, .int .u64 ch, .int .u64 cl] 24)
          have ne_ra_rs := Nat.ne_of_lt ra.lt
          have ne_rr_rs := Nat.ne_of_lt rr.lt
          have ne_r5_rs := Nat.ne_of_lt r5.lt
          have ne_r6_rs := Nat.ne_of_lt r6.lt
          have n_rs := Row.new W3 24 #[.int .u64 cph, .int .u64 cpl, .int .u64 ch, .int .u64 cl]
          have n_hB := hB.alloc hB.size (.cells #[.int .u64 cph, .int .u64 cpl, .int .u64 ch, .int .u64 cl] 24)
          have hge_rs := hB.size
          clear ra rr r5 r6 hB
          have ra := n_ra
          have rr := n_rr
          have r5 := n_r5
          have r6 := n_r6
          have rs := n_rs
          have hB := n_hB
          clear n_ra n_rr n_r5 n_r6 n_rs n_hB
          refine hK.out _ _ ⟨(ra.cell 4).trans HAC.out.k4, (ra.cell 5).trans HAC.out.k5, (ra.cell 6).trans HAC.out.k6, (ra.cell 7).trans HAC.out.k7, (ra.cell 8).trans HAC.out.k8, (ra.cell 9).trans HAC.out.k9, (ra.cell 10).trans HAC.out.k10, (ra.cell 11).trans HAC.out.k11⟩ (fun hHeld2 => ?_)
          clear hHeld hK K
          have hHeld := hHeld2
          clear hHeld2
          (try simp only [Act.put, List.setIfInBounds_toArray, List.set_cons_zero, List.set_cons_succ])
          generalize (W3.alloc (.cells #[.int .u64 cph, .int .u64 cpl, .int .u64 ch, .int .u64 cl] 24)) = W4 at hHeld ra rr r5 r6 rs hB ⊢
          generalize W3.heap.size = gs at ne_ra_rs ne_rr_rs ne_r5_rs ne_r6_rs hge_rs rs ⊢
          refine wpAnyH_ready (rs := [7]) (by kernel_rfl) (by simp) ?_
          refine AllReadyH.cons rfl (fun K hK => ?_) AllReadyH.nil
          · skip
            go_simp
            go_at_call 25
            refine (sum_any cph cpl ch cl HAC.out.b8 HAC.out.b9 HAC.out.b10 HAC.out.b11 _ _ ⟨(rs.cell 0).trans rfl, (rs.cell 1).trans rfl, (rs.cell 2).trans rfl, (rs.cell 3).trans rfl⟩).mono ?_
            rintro e W5 ⟨rfl, hb⟩
            have n_ra := ra.below hb ra.lt
            have n_rr := rr.below hb rr.lt
            have n_r5 := r5.below hb r5.lt
            have n_r6 := r6.below hb r6.lt
            have n_rs := rs.below hb rs.lt
            have n_hB := hB.trans (hb.mono hB.size)
            clear ra rr r5 r6 rs hB hb
            have ra := n_ra
            have rr := n_rr
            have r5 := n_r5
            have r6 := n_r6
            have rs := n_rs
            have hB := n_hB
            clear n_ra n_rr n_r5 n_r6 n_rs n_hB
            refine hK.out _ _ ⟨(ra.cell 4).trans HAC.out.k4, (ra.cell 5).trans HAC.out.k5, (ra.cell 6).trans HAC.out.k6, (ra.cell 7).trans HAC.out.k7, (ra.cell 8).trans HAC.out.k8, (ra.cell 9).trans HAC.out.k9, (ra.cell 10).trans HAC.out.k10, (ra.cell 11).trans HAC.out.k11⟩ (fun hHeld2 => ?_)
            clear hHeld hK K
            have hHeld := hHeld2
            clear hHeld2
            (try simp only [Act.put, List.setIfInBounds_toArray, List.set_cons_zero, List.set_cons_succ])
            refine wpAnyH_ready (rs := [10]) (by kernel_rfl) (by simp) ?_
            refine AllReadyH.cons rfl (fun K hK => ?_) AllReadyH.nil
            rw [if_pos (by rfl)]
            refine wp_store_row 24 _ _ rfl g5 #[.int .u64 dh, .int .u64 dl] rfl rfl 24 _ r5 (by rw [info24]; rfl) rfl (by simp [Value.oneCell']) ?_
            have n_ra := ra.apart ne_ra_r5 #[.int .u64 dh, .int .u64 dl]
            have n_rr := rr.apart ne_rr_r5 #[.int .u64 dh, .int .u64 dl]
            have n_r5 := r5.whole #[.int .u64 dh, .int .u64 dl]
            have n_r6 := r6.apart ne_r5_r6.symm #[.int .u64 dh, .int .u64 dl]
            have n_rs := rs.apart ne_r5_rs.symm #[.int .u64 dh, .int .u64 dl]
            have n_hB := below_setRow hB hge_r5 #[.int .u64 dh, .int .u64 dl]
            clear ra rr r5 r6 rs hB
            have ra := n_ra
            have rr := n_rr
            have r5 := n_r5
            have r6 := n_r6
            have rs := n_rs
            have hB := n_hB
            clear n_ra n_rr n_r5 n_r6 n_rs n_hB
            refine hK.out _ _ ⟨(ra.cell 4).trans HAC.out.k4, (ra.cell 5).trans HAC.out.k5, (ra.cell 6).trans HAC.out.k6, (ra.cell 7).trans HAC.out.k7, (ra.cell 8).trans HAC.out.k8, (ra.cell 9).trans HAC.out.k9, (ra.cell 10).trans HAC.out.k10, (ra.cell 11).trans HAC.out.k11⟩ (fun hHeld2 => ?_)
            clear hHeld hK K
            have hHeld := hHeld2
            clear hHeld2
            (try simp only [Act.put, List.setIfInBounds_toArray, List.set_cons_zero, List.set_cons_succ])
            generalize W5.setRow g5 #[.int .u64 dh, .int .u64 dl] = W6 at hHeld ra rr r5 r6 rs hB ⊢
            refine wpAnyH_ready (rs := [11]) (by kernel_rfl) (by simp) ?_
            refine AllReadyH.cons rfl (fun K hK => ?_) AllReadyH.nil
            rw [if_pos (by rfl)]
            refine wp_store_row 24 _ _ rfl g6 #[.int .u64 (mH cph cpl ch cl), .int .u64 (mL cph cpl ch cl)] rfl rfl 24 _ r6 (by rw [info24]; rfl) rfl (by simp [Value.oneCell']) ?_
            have n_ra := ra.apart ne_ra_r6 #[.int .u64 (mH cph cpl ch cl), .int .u64 (mL cph cpl ch cl)]
            have n_rr := rr.apart ne_rr_r6 #[.int .u64 (mH cph cpl ch cl), .int .u64 (mL cph cpl ch cl)]
            have n_r5 := r5.apart ne_r5_r6 #[.int .u64 (mH cph cpl ch cl), .int .u64 (mL cph cpl ch cl)]
            have n_r6 := r6.whole #[.int .u64 (mH cph cpl ch cl), .int .u64 (mL cph cpl ch cl)]
            have n_rs := rs.apart ne_r6_rs.symm #[.int .u64 (mH cph cpl ch cl), .int .u64 (mL cph cpl ch cl)]
            have n_hB := below_setRow hB hge_r6 #[.int .u64 (mH cph cpl ch cl), .int .u64 (mL cph cpl ch cl)]
            clear ra rr r5 r6 rs hB
            have ra := n_ra
            have rr := n_rr
            have r5 := n_r5
            have r6 := n_r6
            have rs := n_rs
            have hB := n_hB
            clear n_ra n_rr n_r5 n_r6 n_rs n_hB
            refine hK.out _ _ ⟨(ra.cell 4).trans HAC.out.k4, (ra.cell 5).trans HAC.out.k5, (ra.cell 6).trans HAC.out.k6, (ra.cell 7).trans HAC.out.k7, (ra.cell 8).trans HAC.out.k8, (ra.cell 9).trans HAC.out.k9, (ra.cell 10).trans HAC.out.k10, (ra.cell 11).trans HAC.out.k11⟩ (fun hHeld2 => ?_)
            clear hHeld hK K
            have hHeld := hHeld2
            clear hHeld2
            (try simp only [Act.put, List.setIfInBounds_toArray, List.set_cons_zero, List.set_cons_succ])
            generalize W6.setRow g6 #[.int .u64 (mH cph cpl ch cl), .int .u64 (mL cph cpl ch cl)] = W7 at hHeld ra rr r5 r6 rs hB ⊢
            refine wpAnyH_done (by kernel_rfl) ?_ _
            go_wp2_with fail
            go_meet
            exact ⟨g5, g6, rfl, rfl, ne_r5_r6, ne_rr_r5, ne_rr_r6, ne_ra_r5, ne_ra_r6, hge_r5, hge_r6, r5, r6, ra, rr, hB⟩
    refine AllReadyH.cons rfl (fun K hK => ?_) AllReadyH.nil
    · skip
      go_simp
      have n_ra := ra.alloc (.cells #[.int .u64 0, .int .u64 0] 24)
      have n_rr := rr.alloc (.cells #[.int .u64 0, .int .u64 0] 24)
      have ne_ra_r6 := Nat.ne_of_lt ra.lt
      have ne_rr_r6 := Nat.ne_of_lt rr.lt
      have n_r6 := Row.new W1 24 #[.int .u64 0, .int .u64 0]
      have n_hB := hB.alloc hB.size (.cells #[.int .u64 0, .int .u64 0] 24)
      have hge_r6 := hB.size
      clear ra rr hB
      have ra := n_ra
      have rr := n_rr
      have r6 := n_r6
      have hB := n_hB
      clear n_ra n_rr n_r6 n_hB
      refine hK.out _ _ ⟨(ra.cell 4).trans HAC.out.k4, (ra.cell 5).trans HAC.out.k5, (ra.cell 6).trans HAC.out.k6, (ra.cell 7).trans HAC.out.k7, (ra.cell 8).trans HAC.out.k8, (ra.cell 9).trans HAC.out.k9, (ra.cell 10).trans HAC.out.k10, (ra.cell 11).trans HAC.out.k11⟩ (fun hHeld2 => ?_)
      clear hHeld hK K
      have hHeld := hHeld2
      clear hHeld2
      (try simp only [Act.put, List.setIfInBounds_toArray, List.set_cons_zero, List.set_cons_succ])
      generalize (W1.alloc (.cells #[.int .u64 0, .int .u64 0] 24)) = W2 at hHeld ra rr r6 hB ⊢
      generalize W1.heap.size = g6 at ne_ra_r6 ne_rr_r6 hge_r6 r6 ⊢
      refine wpAnyH_ready (rs := [6, 8]) (by kernel_rfl) (by simp) ?_
      refine AllReadyH.cons rfl (fun K hK => ?_) ?_
      · skip
        go_simp
        have n_ra := ra.alloc (.cells #[.int .u64 cph, .int .u64 cpl, .int .u64 ch, .int .u64 cl] 24)
        have n_rr := rr.alloc (.cells #[.int .u64 cph, .int .u64 cpl, .int .u64 ch, .int .u64 cl] 24)
        have n_r6 := r6.alloc (.cells #[.int .u64 cph, .int .u64 cpl, .int .u64 ch, .int .u64 cl] 24)
        have ne_ra_rs := Nat.ne_of_lt ra.lt
        have ne_rr_rs := Nat.ne_of_lt rr.lt
        have ne_r6_rs := Nat.ne_of_lt r6.lt
        have n_rs := Row.new W2 24 #[.int .u64 cph, .int .u64 cpl, .int .u64 ch, .int .u64 cl]
        have n_hB := hB.alloc hB.size (.cells #[.int .u64 cph, .int .u64 cpl, .int .u64 ch, .int .u64 cl] 24)
        have hge_rs := hB.size
        clear ra rr r6 hB
        have ra := n_ra
        have rr := n_rr
        have r6 := n_r6
        have rs := n_rs
        have hB := n_hB
        clear n_ra n_rr n_r6 n_rs n_hB
        refine hK.out _ _ ⟨(ra.cell 4).trans HAC.out.k4, (ra.cell 5).trans HAC.out.k5, (ra.cell 6).trans HAC.out.k6, (ra.cell 7).trans HAC.out.k7, (ra.cell 8).trans HAC.out.k8, (ra.cell 9).trans HAC.out.k9, (ra.cell 10).trans HAC.out.k10, (ra.cell 11).trans HAC.out.k11⟩ (fun hHeld2 => ?_)
        clear hHeld hK K
        have hHeld := hHeld2
        clear hHeld2
        (try simp only [Act.put, List.setIfInBounds_toArray, List.set_cons_zero, List.set_cons_succ])
        generalize (W2.alloc (.cells #[.int .u64 cph, .int .u64 cpl, .int .u64 ch, .int .u64 cl] 24)) = W3 at hHeld ra rr r6 rs hB ⊢
        generalize W2.heap.size = gs at ne_ra_rs ne_rr_rs ne_r6_rs hge_rs rs ⊢
        refine wpAnyH_ready (rs := [7, 8]) (by kernel_rfl) (by simp) ?_
        refine AllReadyH.cons rfl (fun K hK => ?_) ?_
        · skip
          go_simp
          go_at_call 25
          refine (sum_any cph cpl ch cl HAC.out.b8 HAC.out.b9 HAC.out.b10 HAC.out.b11 _ _ ⟨(rs.cell 0).trans rfl, (rs.cell 1).trans rfl, (rs.cell 2).trans rfl, (rs.cell 3).trans rfl⟩).mono ?_
          rintro e W4 ⟨rfl, hb⟩
          have n_ra := ra.below hb ra.lt
          have n_rr := rr.below hb rr.lt
          have n_r6 := r6.below hb r6.lt
          have n_rs := rs.below hb rs.lt
          have n_hB := hB.trans (hb.mono hB.size)
          clear ra rr r6 rs hB hb
          have ra := n_ra
          have rr := n_rr
          have r6 := n_r6
          have rs := n_rs
          have hB := n_hB
          clear n_ra n_rr n_r6 n_rs n_hB
          refine hK.out _ _ ⟨(ra.cell 4).trans HAC.out.k4, (ra.cell 5).trans HAC.out.k5, (ra.cell 6).trans HAC.out.k6, (ra.cell 7).trans HAC.out.k7, (ra.cell 8).trans HAC.out.k8, (ra.cell 9).trans HAC.out.k9, (ra.cell 10).trans HAC.out.k10, (ra.cell 11).trans HAC.out.k11⟩ (fun hHeld2 => ?_)
          clear hHeld hK K
          have hHeld := hHeld2
          clear hHeld2
          (try simp only [Act.put, List.setIfInBounds_toArray, List.set_cons_zero, List.set_cons_succ])
          refine wpAnyH_ready (rs := [8]) (by kernel_rfl) (by simp) ?_
          refine AllReadyH.cons rfl (fun K hK => ?_) AllReadyH.nil
          · skip
            go_simp
            have n_ra := ra.alloc (.cells #[.int .u64 0, .int .u64 0] 24)
            have n_rr := rr.alloc (.cells #[.int .u64 0, .int .u64 0] 24)
            have n_r6 := r6.alloc (.cells #[.int .u64 0, .int .u64 0] 24)
            have n_rs := rs.alloc (.cells #[.int .u64 0, .int .u64 0] 24)
            have ne_ra_r5 := Nat.ne_of_lt ra.lt
            have ne_rr_r5 := Nat.ne_of_lt rr.lt
            have ne_r6_r5 := Nat.ne_of_lt r6.lt
            have ne_rs_r5 := Nat.ne_of_lt rs.lt
            have n_r5 := Row.new W4 24 #[.int .u64 0, .int .u64 0]
            have n_hB := hB.alloc hB.size (.cells #[.int .u64 0, .int .u64 0] 24)
            have hge_r5 := hB.size
            clear ra rr r6 rs hB
            have ra := n_ra
            have rr := n_rr
            have r6 := n_r6
            have rs := n_rs
            have r5 := n_r5
            have hB := n_hB
            clear n_ra n_rr n_r6 n_rs n_r5 n_hB
            refine hK.out _ _ ⟨(ra.cell 4).trans HAC.out.k4, (ra.cell 5).trans HAC.out.k5, (ra.cell 6).trans HAC.out.k6, (ra.cell 7).trans HAC.out.k7, (ra.cell 8).trans HAC.out.k8, (ra.cell 9).trans HAC.out.k9, (ra.cell 10).trans HAC.out.k10, (ra.cell 11).trans HAC.out.k11⟩ (fun hHeld2 => ?_)
            clear hHeld hK K
            have hHeld := hHeld2
            clear hHeld2
            (try simp only [Act.put, List.setIfInBounds_toArray, List.set_cons_zero, List.set_cons_succ])
            generalize (W4.alloc (.cells #[.int .u64 0, .int .u64 0] 24)) = W5 at hHeld ra rr r6 rs r5 hB ⊢
            generalize W4.heap.size = g5 at ne_ra_r5 ne_rr_r5 ne_r6_r5 ne_rs_r5 hge_r5 r5 ⊢
            refine wpAnyH_ready (rs := [10]) (by kernel_rfl) (by simp) ?_
            refine AllReadyH.cons rfl (fun K hK => ?_) AllReadyH.nil
            rw [if_pos (by rfl)]
            refine wp_store_row 24 _ _ rfl g5 #[.int .u64 dh, .int .u64 dl] rfl rfl 24 _ r5 (by rw [info24]; rfl) rfl (by simp [Value.oneCell']) ?_
            have n_ra := ra.apart ne_ra_r5 #[.int .u64 dh, .int .u64 dl]
            have n_rr := rr.apart ne_rr_r5 #[.int .u64 dh, .int .u64 dl]
            have n_r6 := r6.apart ne_r6_r5 #[.int .u64 dh, .int .u64 dl]
            have n_rs := rs.apart ne_rs_r5 #[.int .u64 dh, .int .u64 dl]
            have n_r5 := r5.whole #[.int .u64 dh, .int .u64 dl]
            have n_hB := below_setRow hB hge_r5 #[.int .u64 dh, .int .u64 dl]
            clear ra rr r6 rs r5 hB
            have ra := n_ra
            have rr := n_rr
            have r6 := n_r6
            have rs := n_rs
            have r5 := n_r5
            have hB := n_hB
            clear n_ra n_rr n_r6 n_rs n_r5 n_hB
            refine hK.out _ _ ⟨(ra.cell 4).trans HAC.out.k4, (ra.cell 5).trans HAC.out.k5, (ra.cell 6).trans HAC.out.k6, (ra.cell 7).trans HAC.out.k7, (ra.cell 8).trans HAC.out.k8, (ra.cell 9).trans HAC.out.k9, (ra.cell 10).trans HAC.out.k10, (ra.cell 11).trans HAC.out.k11⟩ (fun hHeld2 => ?_)
            clear hHeld hK K
            have hHeld := hHeld2
            clear hHeld2
            (try simp only [Act.put, List.setIfInBounds_toArray, List.set_cons_zero, List.set_cons_succ])
            generalize W5.setRow g5 #[.int .u64 dh, .int .u64 dl] = W6 at hHeld ra rr r6 rs r5 hB ⊢
            refine wpAnyH_ready (rs := [11]) (by kernel_rfl) (by simp) ?_
            refine AllReadyH.cons rfl (fun K hK => ?_) AllReadyH.nil
            rw [if_pos (by rfl)]
            refine wp_store_row 24 _ _ rfl g6 #[.int .u64 (mH cph cpl ch cl), .int .u64 (mL cph cpl ch cl)] rfl rfl 24 _ r6 (by rw [info24]; rfl) rfl (by simp [Value.oneCell']) ?_
            have n_ra := ra.apart ne_ra_r6 #[.int .u64 (mH cph cpl ch cl), .int .u64 (mL cph cpl ch cl)]
            have n_rr := rr.apart ne_rr_r6 #[.int .u64 (mH cph cpl ch cl), .int .u64 (mL cph cpl ch cl)]
            have n_r6 := r6.whole #[.int .u64 (mH cph cpl ch cl), .int .u64 (mL cph cpl ch cl)]
            have n_rs := rs.apart ne_r6_rs.symm #[.int .u64 (mH cph cpl ch cl), .int .u64 (mL cph cpl ch cl)]
            have n_r5 := r5.apart ne_r6_r5.symm #[.int .u64 (mH cph cpl ch cl), .int .u64 (mL cph cpl ch cl)]
            have n_hB := below_setRow hB hge_r6 #[.int .u64 (mH cph cpl ch cl), .int .u64 (mL cph cpl ch cl)]
            clear ra rr r6 rs r5 hB
            have ra := n_ra
            have rr := n_rr
            have r6 := n_r6
            have rs := n_rs
            have r5 := n_r5
            have hB := n_hB
            clear n_ra n_rr n_r6 n_rs n_r5 n_hB
            refine hK.out _ _ ⟨(ra.cell 4).trans HAC.out.k4, (ra.cell 5).trans HAC.out.k5, (ra.cell 6).trans HAC.out.k6, (ra.cell 7).trans HAC.out.k7, (ra.cell 8).trans HAC.out.k8, (ra.cell 9).trans HAC.out.k9, (ra.cell 10).trans HAC.out.k10, (ra.cell 11).trans HAC.out.k11⟩ (fun hHeld2 => ?_)
            clear hHeld hK K
            have hHeld := hHeld2
            clear hHeld2
            (try simp only [Act.put, List.setIfInBounds_toArray, List.set_cons_zero, List.set_cons_succ])
            generalize W6.setRow g6 #[.int .u64 (mH cph cpl ch cl), .int .u64 (mL cph cpl ch cl)] = W7 at hHeld ra rr r6 rs r5 hB ⊢
            refine wpAnyH_done (by kernel_rfl) ?_ _
            go_wp2_with fail
            go_meet
            exact ⟨g5, g6, rfl, rfl, ne_r6_r5.symm, ne_rr_r5, ne_rr_r6, ne_ra_r5, ne_ra_r6, hge_r5, hge_r6, r5, r6, ra, rr, hB⟩
        refine AllReadyH.cons rfl (fun K hK => ?_) AllReadyH.nil
        · skip
          go_simp
          have n_ra := ra.alloc (.cells #[.int .u64 0, .int .u64 0] 24)
          have n_rr := rr.alloc (.cells #[.int .u64 0, .int .u64 0] 24)
          have n_r6 := r6.alloc (.cells #[.int .u64 0, .int .u64 0] 24)
          have n_rs := rs.alloc (.cells #[.int .u64 0, .int .u64 0] 24)
          have ne_ra_r5 := Nat.ne_of_lt ra.lt
          have ne_rr_r5 := Nat.ne_of_lt rr.lt
          have ne_r6_r5 := Nat.ne_of_lt r6.lt
          have ne_rs_r5 := Nat.ne_of_lt rs.lt
          have n_r5 := Row.new W3 24 #[.int .u64 0, .int .u64 0]
          have n_hB := hB.alloc hB.size (.cells #[.int .u64 0, .int .u64 0] 24)
          have hge_r5 := hB.size
          clear ra rr r6 rs hB
          have ra := n_ra
          have rr := n_rr
          have r6 := n_r6
          have rs := n_rs
          have r5 := n_r5
          have hB := n_hB
          clear n_ra n_rr n_r6 n_rs n_r5 n_hB
          refine hK.out _ _ ⟨(ra.cell 4).trans HAC.out.k4, (ra.cell 5).trans HAC.out.k5, (ra.cell 6).trans HAC.out.k6, (ra.cell 7).trans HAC.out.k7, (ra.cell 8).trans HAC.out.k8, (ra.cell 9).trans HAC.out.k9, (ra.cell 10).trans HAC.out.k10, (ra.cell 11).trans HAC.out.k11⟩ (fun hHeld2 => ?_)
          clear hHeld hK K
          have hHeld := hHeld2
          clear hHeld2
          (try simp only [Act.put, List.setIfInBounds_toArray, List.set_cons_zero, List.set_cons_succ])
          generalize (W3.alloc (.cells #[.int .u64 0, .int .u64 0] 24)) = W4 at hHeld ra rr r6 rs r5 hB ⊢
          generalize W3.heap.size = g5 at ne_ra_r5 ne_rr_r5 ne_r6_r5 ne_rs_r5 hge_r5 r5 ⊢
          refine wpAnyH_ready (rs := [7]) (by kernel_rfl) (by simp) ?_
          refine AllReadyH.cons rfl (fun K hK => ?_) AllReadyH.nil
          · skip
            go_simp
            go_at_call 25
            refine (sum_any cph cpl ch cl HAC.out.b8 HAC.out.b9 HAC.out.b10 HAC.out.b11 _ _ ⟨(rs.cell 0).trans rfl, (rs.cell 1).trans rfl, (rs.cell 2).trans rfl, (rs.cell 3).trans rfl⟩).mono ?_
            rintro e W5 ⟨rfl, hb⟩
            have n_ra := ra.below hb ra.lt
            have n_rr := rr.below hb rr.lt
            have n_r6 := r6.below hb r6.lt
            have n_rs := rs.below hb rs.lt
            have n_r5 := r5.below hb r5.lt
            have n_hB := hB.trans (hb.mono hB.size)
            clear ra rr r6 rs r5 hB hb
            have ra := n_ra
            have rr := n_rr
            have r6 := n_r6
            have rs := n_rs
            have r5 := n_r5
            have hB := n_hB
            clear n_ra n_rr n_r6 n_rs n_r5 n_hB
            refine hK.out _ _ ⟨(ra.cell 4).trans HAC.out.k4, (ra.cell 5).trans HAC.out.k5, (ra.cell 6).trans HAC.out.k6, (ra.cell 7).trans HAC.out.k7, (ra.cell 8).trans HAC.out.k8, (ra.cell 9).trans HAC.out.k9, (ra.cell 10).trans HAC.out.k10, (ra.cell 11).trans HAC.out.k11⟩ (fun hHeld2 => ?_)
            clear hHeld hK K
            have hHeld := hHeld2
            clear hHeld2
            (try simp only [Act.put, List.setIfInBounds_toArray, List.set_cons_zero, List.set_cons_succ])
            refine wpAnyH_ready (rs := [10]) (by kernel_rfl) (by simp) ?_
            refine AllReadyH.cons rfl (fun K hK => ?_) AllReadyH.nil
            rw [if_pos (by rfl)]
            refine wp_store_row 24 _ _ rfl g5 #[.int .u64 dh, .int .u64 dl] rfl rfl 24 _ r5 (by rw [info24]; rfl) rfl (by simp [Value.oneCell']) ?_
            have n_ra := ra.apart ne_ra_r5 #[.int .u64 dh, .int .u64 dl]
            have n_rr := rr.apart ne_rr_r5 #[.int .u64 dh, .int .u64 dl]
            have n_r6 := r6.apart ne_r6_r5 #[.int .u64 dh, .int .u64 dl]
            have n_rs := rs.apart ne_rs_r5 #[.int .u64 dh, .int .u64 dl]
            have n_r5 := r5.whole #[.int .u64 dh, .int .u64 dl]
            have n_hB := below_setRow hB hge_r5 #[.int .u64 dh, .int .u64 dl]
            clear ra rr r6 rs r5 hB
            have ra := n_ra
            have rr := n_rr
            have r6 := n_r6
            have rs := n_rs
            have r5 := n_r5
            have hB := n_hB
            clear n_ra n_rr n_r6 n_rs n_r5 n_hB
            refine hK.out _ _ ⟨(ra.cell 4).trans HAC.out.k4, (ra.cell 5).trans HAC.out.k5, (ra.cell 6).trans HAC.out.k6, (ra.cell 7).trans HAC.out.k7, (ra.cell 8).trans HAC.out.k8, (ra.cell 9).trans HAC.out.k9, (ra.cell 10).trans HAC.out.k10, (ra.cell 11).trans HAC.out.k11⟩ (fun hHeld2 => ?_)
            clear hHeld hK K
            have hHeld := hHeld2
            clear hHeld2
            (try simp only [Act.put, List.setIfInBounds_toArray, List.set_cons_zero, List.set_cons_succ])
            generalize W5.setRow g5 #[.int .u64 dh, .int .u64 dl] = W6 at hHeld ra rr r6 rs r5 hB ⊢
            refine wpAnyH_ready (rs := [11]) (by kernel_rfl) (by simp) ?_
            refine AllReadyH.cons rfl (fun K hK => ?_) AllReadyH.nil
            rw [if_pos (by rfl)]
            refine wp_store_row 24 _ _ rfl g6 #[.int .u64 (mH cph cpl ch cl), .int .u64 (mL cph cpl ch cl)] rfl rfl 24 _ r6 (by rw [info24]; rfl) rfl (by simp [Value.oneCell']) ?_
            have n_ra := ra.apart ne_ra_r6 #[.int .u64 (mH cph cpl ch cl), .int .u64 (mL cph cpl ch cl)]
            have n_rr := rr.apart ne_rr_r6 #[.int .u64 (mH cph cpl ch cl), .int .u64 (mL cph cpl ch cl)]
            have n_r6 := r6.whole #[.int .u64 (mH cph cpl ch cl), .int .u64 (mL cph cpl ch cl)]
            have n_rs := rs.apart ne_r6_rs.symm #[.int .u64 (mH cph cpl ch cl), .int .u64 (mL cph cpl ch cl)]
            have n_r5 := r5.apart ne_r6_r5.symm #[.int .u64 (mH cph cpl ch cl), .int .u64 (mL cph cpl ch cl)]
            have n_hB := below_setRow hB hge_r6 #[.int .u64 (mH cph cpl ch cl), .int .u64 (mL cph cpl ch cl)]
            clear ra rr r6 rs r5 hB
            have ra := n_ra
            have rr := n_rr
            have r6 := n_r6
            have rs := n_rs
            have r5 := n_r5
            have hB := n_hB
            clear n_ra n_rr n_r6 n_rs n_r5 n_hB
            refine hK.out _ _ ⟨(ra.cell 4).trans HAC.out.k4, (ra.cell 5).trans HAC.out.k5, (ra.cell 6).trans HAC.out.k6, (ra.cell 7).trans HAC.out.k7, (ra.cell 8).trans HAC.out.k8, (ra.cell 9).trans HAC.out.k9, (ra.cell 10).trans HAC.out.k10, (ra.cell 11).trans HAC.out.k11⟩ (fun hHeld2 => ?_)
            clear hHeld hK K
            have hHeld := hHeld2
            clear hHeld2
            (try simp only [Act.put, List.setIfInBounds_toArray, List.set_cons_zero, List.set_cons_succ])
            generalize W6.setRow g6 #[.int .u64 (mH cph cpl ch cl), .int .u64 (mL cph cpl ch cl)] = W7 at hHeld ra rr r6 rs r5 hB ⊢
            refine wpAnyH_done (by kernel_rfl) ?_ _
            go_wp2_with fail
            go_meet
            exact ⟨g5, g6, rfl, rfl, ne_r6_r5.symm, ne_rr_r5, ne_rr_r6, ne_ra_r5, ne_ra_r6, hge_r5, hge_r6, r5, r6, ra, rr, hB⟩
      refine AllReadyH.cons rfl (fun K hK => ?_) AllReadyH.nil
      · skip
        go_simp
        have n_ra := ra.alloc (.cells #[.int .u64 0, .int .u64 0] 24)
        have n_rr := rr.alloc (.cells #[.int .u64 0, .int .u64 0] 24)
        have n_r6 := r6.alloc (.cells #[.int .u64 0, .int .u64 0] 24)
        have ne_ra_r5 := Nat.ne_of_lt ra.lt
        have ne_rr_r5 := Nat.ne_of_lt rr.lt
        have ne_r6_r5 := Nat.ne_of_lt r6.lt
        have n_r5 := Row.new W2 24 #[.int .u64 0, .int .u64 0]
        have n_hB := hB.alloc hB.size (.cells #[.int .u64 0, .int .u64 0] 24)
        have hge_r5 := hB.size
        clear ra rr r6 hB
        have ra := n_ra
        have rr := n_rr
        have r6 := n_r6
        have r5 := n_r5
        have hB := n_hB
        clear n_ra n_rr n_r6 n_r5 n_hB
        refine hK.out _ _ ⟨(ra.cell 4).trans HAC.out.k4, (ra.cell 5).trans HAC.out.k5, (ra.cell 6).trans HAC.out.k6, (ra.cell 7).trans HAC.out.k7, (ra.cell 8).trans HAC.out.k8, (ra.cell 9).trans HAC.out.k9, (ra.cell 10).trans HAC.out.k10, (ra.cell 11).trans HAC.out.k11⟩ (fun hHeld2 => ?_)
        clear hHeld hK K
        have hHeld := hHeld2
        clear hHeld2
        (try simp only [Act.put, List.setIfInBounds_toArray, List.set_cons_zero, List.set_cons_succ])
        generalize (W2.alloc (.cells #[.int .u64 0, .int .u64 0] 24)) = W3 at hHeld ra rr r6 r5 hB ⊢
        generalize W2.heap.size = g5 at ne_ra_r5 ne_rr_r5 ne_r6_r5 hge_r5 r5 ⊢
        refine wpAnyH_ready (rs := [6]) (by kernel_rfl) (by simp) ?_
        refine AllReadyH.cons rfl (fun K hK => ?_) AllReadyH.nil
        · skip
          go_simp
          have n_ra := ra.alloc (.cells #[.int .u64 cph, .int .u64 cpl, .int .u64 ch, .int .u64 cl] 24)
          have n_rr := rr.alloc (.cells #[.int .u64 cph, .int .u64 cpl, .int .u64 ch, .int .u64 cl] 24)
          have n_r6 := r6.alloc (.cells #[.int .u64 cph, .int .u64 cpl, .int .u64 ch, .int .u64 cl] 24)
          have n_r5 := r5.alloc (.cells #[.int .u64 cph, .int .u64 cpl, .int .u64 ch, .int .u64 cl] 24)
          have ne_ra_rs := Nat.ne_of_lt ra.lt
          have ne_rr_rs := Nat.ne_of_lt rr.lt
          have ne_r6_rs := Nat.ne_of_lt r6.lt
          have ne_r5_rs := Nat.ne_of_lt r5.lt
          have n_rs := Row.new W3 24 #[.int .u64 cph, .int .u64 cpl, .int .u64 ch, .int .u64 cl]
          have n_hB := hB.alloc hB.size (.cells #[.int .u64 cph, .int .u64 cpl, .int .u64 ch, .int .u64 cl] 24)
          have hge_rs := hB.size
          clear ra rr r6 r5 hB
          have ra := n_ra
          have rr := n_rr
          have r6 := n_r6
          have r5 := n_r5
          have rs := n_rs
          have hB := n_hB
          clear n_ra n_rr n_r6 n_r5 n_rs n_hB
          refine hK.out _ _ ⟨(ra.cell 4).trans HAC.out.k4, (ra.cell 5).trans HAC.out.k5, (ra.cell 6).trans HAC.out.k6, (ra.cell 7).trans HAC.out.k7, (ra.cell 8).trans HAC.out.k8, (ra.cell 9).trans HAC.out.k9, (ra.cell 10).trans HAC.out.k10, (ra.cell 11).trans HAC.out.k11⟩ (fun hHeld2 => ?_)
          clear hHeld hK K
          have hHeld := hHeld2
          clear hHeld2
          (try simp only [Act.put, List.setIfInBounds_toArray, List.set_cons_zero, List.set_cons_succ])
          generalize (W3.alloc (.cells #[.int .u64 cph, .int .u64 cpl, .int .u64 ch, .int .u64 cl] 24)) = W4 at hHeld ra rr r6 r5 rs hB ⊢
          generalize W3.heap.size = gs at ne_ra_rs ne_rr_rs ne_r6_rs ne_r5_rs hge_rs rs ⊢
          refine wpAnyH_ready (rs := [7]) (by kernel_rfl) (by simp) ?_
          refine AllReadyH.cons rfl (fun K hK => ?_) AllReadyH.nil
          · skip
            go_simp
            go_at_call 25
            refine (sum_any cph cpl ch cl HAC.out.b8 HAC.out.b9 HAC.out.b10 HAC.out.b11 _ _ ⟨(rs.cell 0).trans rfl, (rs.cell 1).trans rfl, (rs.cell 2).trans rfl, (rs.cell 3).trans rfl⟩).mono ?_
            rintro e W5 ⟨rfl, hb⟩
            have n_ra := ra.below hb ra.lt
            have n_rr := rr.below hb rr.lt
            have n_r6 := r6.below hb r6.lt
            have n_r5 := r5.below hb r5.lt
            have n_rs := rs.below hb rs.lt
            have n_hB := hB.trans (hb.mono hB.size)
            clear ra rr r6 r5 rs hB hb
            have ra := n_ra
            have rr := n_rr
            have r6 := n_r6
            have r5 := n_r5
            have rs := n_rs
            have hB := n_hB
            clear n_ra n_rr n_r6 n_r5 n_rs n_hB
            refine hK.out _ _ ⟨(ra.cell 4).trans HAC.out.k4, (ra.cell 5).trans HAC.out.k5, (ra.cell 6).trans HAC.out.k6, (ra.cell 7).trans HAC.out.k7, (ra.cell 8).trans HAC.out.k8, (ra.cell 9).trans HAC.out.k9, (ra.cell 10).trans HAC.out.k10, (ra.cell 11).trans HAC.out.k11⟩ (fun hHeld2 => ?_)
            clear hHeld hK K
            have hHeld := hHeld2
            clear hHeld2
            (try simp only [Act.put, List.setIfInBounds_toArray, List.set_cons_zero, List.set_cons_succ])
            refine wpAnyH_ready (rs := [10]) (by kernel_rfl) (by simp) ?_
            refine AllReadyH.cons rfl (fun K hK => ?_) AllReadyH.nil
            rw [if_pos (by rfl)]
            refine wp_store_row 24 _ _ rfl g5 #[.int .u64 dh, .int .u64 dl] rfl rfl 24 _ r5 (by rw [info24]; rfl) rfl (by simp [Value.oneCell']) ?_
            have n_ra := ra.apart ne_ra_r5 #[.int .u64 dh, .int .u64 dl]
            have n_rr := rr.apart ne_rr_r5 #[.int .u64 dh, .int .u64 dl]
            have n_r6 := r6.apart ne_r6_r5 #[.int .u64 dh, .int .u64 dl]
            have n_r5 := r5.whole #[.int .u64 dh, .int .u64 dl]
            have n_rs := rs.apart ne_r5_rs.symm #[.int .u64 dh, .int .u64 dl]
            have n_hB := below_setRow hB hge_r5 #[.int .u64 dh, .int .u64 dl]
            clear ra rr r6 r5 rs hB
            have ra := n_ra
            have rr := n_rr
            have r6 := n_r6
            have r5 := n_r5
            have rs := n_rs
            have hB := n_hB
            clear n_ra n_rr n_r6 n_r5 n_rs n_hB
            refine hK.out _ _ ⟨(ra.cell 4).trans HAC.out.k4, (ra.cell 5).trans HAC.out.k5, (ra.cell 6).trans HAC.out.k6, (ra.cell 7).trans HAC.out.k7, (ra.cell 8).trans HAC.out.k8, (ra.cell 9).trans HAC.out.k9, (ra.cell 10).trans HAC.out.k10, (ra.cell 11).trans HAC.out.k11⟩ (fun hHeld2 => ?_)
            clear hHeld hK K
            have hHeld := hHeld2
            clear hHeld2
            (try simp only [Act.put, List.setIfInBounds_toArray, List.set_cons_zero, List.set_cons_succ])
            generalize W5.setRow g5 #[.int .u64 dh, .int .u64 dl] = W6 at hHeld ra rr r6 r5 rs hB ⊢
            refine wpAnyH_ready (rs := [11]) (by kernel_rfl) (by simp) ?_
            refine AllReadyH.cons rfl (fun K hK => ?_) AllReadyH.nil
            rw [if_pos (by rfl)]
            refine wp_store_row 24 _ _ rfl g6 #[.int .u64 (mH cph cpl ch cl), .int .u64 (mL cph cpl ch cl)] rfl rfl 24 _ r6 (by rw [info24]; rfl) rfl (by simp [Value.oneCell']) ?_
            have n_ra := ra.apart ne_ra_r6 #[.int .u64 (mH cph cpl ch cl), .int .u64 (mL cph cpl ch cl)]
            have n_rr := rr.apart ne_rr_r6 #[.int .u64 (mH cph cpl ch cl), .int .u64 (mL cph cpl ch cl)]
            have n_r6 := r6.whole #[.int .u64 (mH cph cpl ch cl), .int .u64 (mL cph cpl ch cl)]
            have n_r5 := r5.apart ne_r6_r5.symm #[.int .u64 (mH cph cpl ch cl), .int .u64 (mL cph cpl ch cl)]
            have n_rs := rs.apart ne_r6_rs.symm #[.int .u64 (mH cph cpl ch cl), .int .u64 (mL cph cpl ch cl)]
            have n_hB := below_setRow hB hge_r6 #[.int .u64 (mH cph cpl ch cl), .int .u64 (mL cph cpl ch cl)]
            clear ra rr r6 r5 rs hB
            have ra := n_ra
            have rr := n_rr
            have r6 := n_r6
            have r5 := n_r5
            have rs := n_rs
            have hB := n_hB
            clear n_ra n_rr n_r6 n_r5 n_rs n_hB
            refine hK.out _ _ ⟨(ra.cell 4).trans HAC.out.k4, (ra.cell 5).trans HAC.out.k5, (ra.cell 6).trans HAC.out.k6, (ra.cell 7).trans HAC.out.k7, (ra.cell 8).trans HAC.out.k8, (ra.cell 9).trans HAC.out.k9, (ra.cell 10).trans HAC.out.k10, (ra.cell 11).trans HAC.out.k11⟩ (fun hHeld2 => ?_)
            clear hHeld hK K
            have hHeld := hHeld2
            clear hHeld2
            (try simp only [Act.put, List.setIfInBounds_toArray, List.set_cons_zero, List.set_cons_succ])
            generalize W6.setRow g6 #[.int .u64 (mH cph cpl ch cl), .int .u64 (mL cph cpl ch cl)] = W7 at hHeld ra rr r6 r5 rs hB ⊢
            refine wpAnyH_done (by kernel_rfl) ?_ _
            go_wp2_with fail
            go_meet
            exact ⟨g5, g6, rfl, rfl, ne_r6_r5.symm, ne_rr_r5, ne_rr_r6, ne_ra_r5, ne_ra_r6, hge_r5, hge_r6, r5, r6, ra, rr, hB⟩
  case rest =>
    obtain ⟨g5, g6, rfl, rfl, n56, nR5, nR6, nA5, nA6, l5, l6, r5, r6, ra, rr, hB⟩ := hcut
    cases debit
    · skip
      have c0 := (r5.cell 0).trans (rfl : (#[.int .u64 dh, .int .u64 dl] : Array Value)[0]? = some (.int .u64 dh))
      have c1 := (r5.cell 1).trans (rfl : (#[.int .u64 dh, .int .u64 dl] : Array Value)[1]? = some (.int .u64 dl))
      have d0 := (r6.cell 0).trans (rfl : (#[.int .u64 (mH cph cpl ch cl), .int .u64 (mL cph cpl ch cl)] : Array Value)[0]? = some (.int .u64 (mH cph cpl ch cl)))
      have d1 := (r6.cell 1).trans (rfl : (#[.int .u64 (mH cph cpl ch cl), .int .u64 (mL cph cpl ch cl)] : Array Value)[1]? = some (.int .u64 (mL cph cpl ch cl)))
      have HM := hide (m_word cph cpl ch cl HAC.out.b8 HAC.out.b9 HAC.out.b10 HAC.out.b11)
      have RR := hide rr; clear r5 r6 ra rr
      go_wp2_with fail
      refine (sub_any _ _ _ _ HAC.out.b6 HAC.out.b7 HM.out.1 HM.out.2 _).mono ?_
      rintro e v ⟨rfl, hb⟩
      have rr := RR.out.below hb RR.out.lt
      have hBv := hB.trans (hb.mono hB.size)
      clear c0 c1 d0 d1 RR hB hb
      have hlr := rr.lt
      have c0 : v.cell? ⟨w.heap.size + 1, 0, none⟩ = some (.int .u64 0) := (rr.cell 0).trans rfl
      have c1 : v.cell? ⟨w.heap.size + 1, 1, none⟩ = some (.int .u64 0) := (rr.cell 1).trans rfl
      have z0 := rr.frozen 0
      have z1 := rr.frozen 1
      have RR := hide rr; clear rr
      go_wp2
      refine bodyPost_ret (results_cell_row rfl _ _ (w.heap.size + 1) 24 #[.int .u64 (qH dh dl (mH cph cpl ch cl) (mL cph cpl ch cl)), .int .u64 (qL dh dl (mH cph cpl ch cl) (mL cph cpl ch cl))] (0, 0) _ rfl (((RR.out.set_ 0 _).set_ 1 _).alloc _) Try.underlying24 rfl (by kernel_rfl)) rfl ⟨rfl, ?_⟩
      exact ((hBv.setCell (p := ⟨w.heap.size + 1, 0, none⟩) (Nat.le_succ _) _).setCell (p := ⟨w.heap.size + 1, 1, none⟩) (Nat.le_succ _) _).alloc (by have := hBv.size; simp; omega) _
    · skip
      go_upto_region 3 with fail
      go_cut [24] (fun _ wx => Row wx g5 24 #[.int .u64 ch, .int .u64 cl] ∧ Row wx g6 24 #[.int .u64 (mH dph dpl dh dl), .int .u64 (mL dph dpl dh dl)] ∧ Row wx w.heap.size 39 cs ∧ Row wx (w.heap.size + 1) 24 #[.int .u64 0, .int .u64 0] ∧ Below w.heap.size w wx)
      case first =>
        have n_ra := ra.drew
        have n_rr := rr.drew
        have n_r5 := r5.drew
        have n_r6 := r6.drew
        have n_hB := hB.drew
        refine wp_region_held_drew (S := fun w' => w'.cell? ⟨w.heap.size, 4, none⟩ = some (.int .u64 dph) ∧ w'.cell? ⟨w.heap.size, 5, none⟩ = some (.int .u64 dpl) ∧ w'.cell? ⟨w.heap.size, 6, none⟩ = some (.int .u64 dh) ∧ w'.cell? ⟨w.heap.size, 7, none⟩ = some (.int .u64 dl) ∧ w'.cell? ⟨w.heap.size, 8, none⟩ = some (.int .u64 cph) ∧ w'.cell? ⟨w.heap.size, 9, none⟩ = some (.int .u64 cpl) ∧ w'.cell? ⟨w.heap.size, 10, none⟩ = some (.int .u64 ch) ∧ w'.cell? ⟨w.heap.size, 11, none⟩ = some (.int .u64 cl)) (by kernel_rfl) ?_ (fun hHeld => ?_)
        · exact ⟨(ra.cell 4).trans HAC.out.k4, (ra.cell 5).trans HAC.out.k5, (ra.cell 6).trans HAC.out.k6, (ra.cell 7).trans HAC.out.k7, (ra.cell 8).trans HAC.out.k8, (ra.cell 9).trans HAC.out.k9, (ra.cell 10).trans HAC.out.k10, (ra.cell 11).trans HAC.out.k11⟩
        clear ra rr r5 r6 hB
        have ra := n_ra; have rr := n_rr; have r5 := n_r5; have r6 := n_r6; have hB := n_hB; clear n_ra n_rr n_r5 n_r6 n_hB
        have ne_r5_r6 := n56; have ne_rr_r5 := nR5; have ne_rr_r6 := nR6; have ne_ra_r5 := nA5; have ne_ra_r6 := nA6; have hge_r5 := l5; have hge_r6 := l6
        generalize wc.drew = W1 at hHeld ra rr r5 r6 hB ⊢
        refine take_yes (i := 0) (v := ?_) (some 18) rfl rfl (by kernel_rfl) (by kernel_rfl) (by kernel_rfl) (fun _ _ _ h => h) (by rfl) hHeld ?_ ?_
        rotate_left
        · intro w hSw; (try dsimp only at hSw); go_simp; (try with_reducible rfl)
        (try simp only [Act.put, List.setIfInBounds_toArray, List.set_cons_zero, List.set_cons_succ])
        refine take_yes (i := 1) (v := ?_) (some 19) rfl rfl (by kernel_rfl) (by kernel_rfl) (by kernel_rfl) (fun _ _ _ h => h) (by rfl) hHeld ?_ ?_
        rotate_left
        · intro w hSw; (try dsimp only at hSw); go_simp; (try with_reducible rfl)
        (try simp only [Act.put, List.setIfInBounds_toArray, List.set_cons_zero, List.set_cons_succ])
        refine take_yes (i := 2) (v := ?_) (some 20) rfl rfl (by kernel_rfl) (by kernel_rfl) (by kernel_rfl) (fun _ _ _ h => h) (by rfl) hHeld ?_ ?_
        rotate_left
        · intro w hSw; (try dsimp only at hSw); go_simp; (try with_reducible rfl)
        (try simp only [Act.put, List.setIfInBounds_toArray, List.set_cons_zero, List.set_cons_succ])
        refine take_yes (i := 3) (v := ?_) (some 21) rfl rfl (by kernel_rfl) (by kernel_rfl) (by kernel_rfl) (fun _ _ _ h => h) (by rfl) hHeld ?_ ?_
        rotate_left
        · intro w hSw; (try dsimp only at hSw); go_simp; (try with_reducible rfl)
        (try simp only [Act.put, List.setIfInBounds_toArray, List.set_cons_zero, List.set_cons_succ])
        refine take_yes (i := 4) (v := ?_) (some 22) rfl rfl (by kernel_rfl) (by kernel_rfl) (by kernel_rfl) (fun _ _ _ h => h) (by rfl) hHeld ?_ ?_
        rotate_left
        · intro w hSw; (try dsimp only at hSw); go_simp; (try with_reducible rfl)
        (try simp only [Act.put, List.setIfInBounds_toArray, List.set_cons_zero, List.set_cons_succ])
        refine take_yes (i := 5) (v := ?_) (some 23) rfl rfl (by kernel_rfl) (by kernel_rfl) (by kernel_rfl) (fun _ _ _ h => h) (by rfl) hHeld ?_ ?_
        rotate_left
        · intro w hSw; (try dsimp only at hSw); go_simp; (try with_reducible rfl)
        (try simp only [Act.put, List.setIfInBounds_toArray, List.set_cons_zero, List.set_cons_succ])
        refine wpAnyH_ready (rs := [6]) (by kernel_rfl) (by simp) ?_
        refine AllReadyH.cons rfl (fun K hK => ?_) AllReadyH.nil
        go_simp
        have n_ra := ra.alloc (.cells #[.int .u64 dph, .int .u64 dpl, .int .u64 dh, .int .u64 dl] 24)
        have n_rr := rr.alloc (.cells #[.int .u64 dph, .int .u64 dpl, .int .u64 dh, .int .u64 dl] 24)
        have n_r5 := r5.alloc (.cells #[.int .u64 dph, .int .u64 dpl, .int .u64 dh, .int .u64 dl] 24)
        have n_r6 := r6.alloc (.cells #[.int .u64 dph, .int .u64 dpl, .int .u64 dh, .int .u64 dl] 24)
        have ne_ra_rs := Nat.ne_of_lt ra.lt
        have ne_rr_rs := Nat.ne_of_lt rr.lt
        have ne_r5_rs := Nat.ne_of_lt r5.lt
        have ne_r6_rs := Nat.ne_of_lt r6.lt
        have n_rs := Row.new W1 24 #[.int .u64 dph, .int .u64 dpl, .int .u64 dh, .int .u64 dl]
        have n_hB := hB.alloc hB.size (.cells #[.int .u64 dph, .int .u64 dpl, .int .u64 dh, .int .u64 dl] 24)
        have hge_rs := hB.size
        clear ra rr r5 r6 hB
        have ra := n_ra
        have rr := n_rr
        have r5 := n_r5
        have r6 := n_r6
        have rs := n_rs
        have hB := n_hB
        clear n_ra n_rr n_r5 n_r6 n_rs n_hB
        refine hK.out _ _ ⟨(ra.cell 4).trans HAC.out.k4, (ra.cell 5).trans HAC.out.k5, (ra.cell 6).trans HAC.out.k6, (ra.cell 7).trans HAC.out.k7, (ra.cell 8).trans HAC.out.k8, (ra.cell 9).trans HAC.out.k9, (ra.cell 10).trans HAC.out.k10, (ra.cell 11).trans HAC.out.k11⟩ (fun hHeld2 => ?_)
        clear hHeld hK K
        have hHeld := hHeld2
        clear hHeld2
        (try simp only [Act.put, List.setIfInBounds_toArray, List.set_cons_zero, List.set_cons_succ])
        generalize (W1.alloc (.cells #[.int .u64 dph, .int .u64 dpl, .int .u64 dh, .int .u64 dl] 24)) = W2 at hHeld ra rr r5 r6 rs hB ⊢
        generalize W1.heap.size = gs at ne_ra_rs ne_rr_rs ne_r5_rs ne_r6_rs hge_rs rs ⊢
        refine wpAnyH_ready (rs := [7]) (by kernel_rfl) (by simp) ?_
        refine AllReadyH.cons rfl (fun K hK => ?_) AllReadyH.nil
        go_simp
        go_at_call 25
        refine (sum_any dph dpl dh dl HAC.out.b4 HAC.out.b5 HAC.out.b6 HAC.out.b7 _ _ ⟨(rs.cell 0).trans rfl, (rs.cell 1).trans rfl, (rs.cell 2).trans rfl, (rs.cell 3).trans rfl⟩).mono ?_
        rintro e W3 ⟨rfl, hb⟩
        have n_ra := ra.below hb ra.lt
        have n_rr := rr.below hb rr.lt
        have n_r5 := r5.below hb r5.lt
        have n_r6 := r6.below hb r6.lt
        have n_rs := rs.below hb rs.lt
        have n_hB := hB.trans (hb.mono hB.size)
        clear ra rr r5 r6 rs hB hb
        have ra := n_ra
        have rr := n_rr
        have r5 := n_r5
        have r6 := n_r6
        have rs := n_rs
        have hB := n_hB
        clear n_ra n_rr n_r5 n_r6 n_rs n_hB
        refine hK.out _ _ ⟨(ra.cell 4).trans HAC.out.k4, (ra.cell 5).trans HAC.out.k5, (ra.cell 6).trans HAC.out.k6, (ra.cell 7).trans HAC.out.k7, (ra.cell 8).trans HAC.out.k8, (ra.cell 9).trans HAC.out.k9, (ra.cell 10).trans HAC.out.k10, (ra.cell 11).trans HAC.out.k11⟩ (fun hHeld2 => ?_)
        clear hHeld hK K
        have hHeld := hHeld2
        clear hHeld2
        (try simp only [Act.put, List.setIfInBounds_toArray, List.set_cons_zero, List.set_cons_succ])
        refine wpAnyH_ready (rs := [8]) (by kernel_rfl) (by simp) ?_
        refine AllReadyH.cons rfl (fun K hK => ?_) AllReadyH.nil
        rw [if_pos (by rfl)]
        refine wp_store_row 24 _ _ rfl g5 #[.int .u64 ch, .int .u64 cl] rfl rfl 24 _ r5 (by rw [info24]; rfl) rfl (by simp [Value.oneCell']) ?_
        have n_ra := ra.apart ne_ra_r5 #[.int .u64 ch, .int .u64 cl]
        have n_rr := rr.apart ne_rr_r5 #[.int .u64 ch, .int .u64 cl]
        have n_r5 := r5.whole #[.int .u64 ch, .int .u64 cl]
        have n_r6 := r6.apart ne_r5_r6.symm #[.int .u64 ch, .int .u64 cl]
        have n_rs := rs.apart ne_r5_rs.symm #[.int .u64 ch, .int .u64 cl]
        have n_hB := below_setRow hB hge_r5 #[.int .u64 ch, .int .u64 cl]
        clear ra rr r5 r6 rs hB
        have ra := n_ra
        have rr := n_rr
        have r5 := n_r5
        have r6 := n_r6
        have rs := n_rs
        have hB := n_hB
        clear n_ra n_rr n_r5 n_r6 n_rs n_hB
        refine hK.out _ _ ⟨(ra.cell 4).trans HAC.out.k4, (ra.cell 5).trans HAC.out.k5, (ra.cell 6).trans HAC.out.k6, (ra.cell 7).trans HAC.out.k7, (ra.cell 8).trans HAC.out.k8, (ra.cell 9).trans HAC.out.k9, (ra.cell 10).trans HAC.out.k10, (ra.cell 11).trans HAC.out.k11⟩ (fun hHeld2 => ?_)
        clear hHeld hK K
        have hHeld := hHeld2
        clear hHeld2
        (try simp only [Act.put, List.setIfInBounds_toArray, List.set_cons_zero, List.set_cons_succ])
        generalize W3.setRow g5 #[.int .u64 ch, .int .u64 cl] = W4 at hHeld ra rr r5 r6 rs hB ⊢
        refine wpAnyH_ready (rs := [9]) (by kernel_rfl) (by simp) ?_
        refine AllReadyH.cons rfl (fun K hK => ?_) AllReadyH.nil
        rw [if_pos (by rfl)]
        refine wp_store_row 24 _ _ rfl g6 #[.int .u64 (mH dph dpl dh dl), .int .u64 (mL dph dpl dh dl)] rfl rfl 24 _ r6 (by rw [info24]; rfl) rfl (by simp [Value.oneCell']) ?_
        have n_ra := ra.apart ne_ra_r6 #[.int .u64 (mH dph dpl dh dl), .int .u64 (mL dph dpl dh dl)]
        have n_rr := rr.apart ne_rr_r6 #[.int .u64 (mH dph dpl dh dl), .int .u64 (mL dph dpl dh dl)]
        have n_r5 := r5.apart ne_r5_r6 #[.int .u64 (mH dph dpl dh dl), .int .u64 (mL dph dpl dh dl)]
        have n_r6 := r6.whole #[.int .u64 (mH dph dpl dh dl), .int .u64 (mL dph dpl dh dl)]
        have n_rs := rs.apart ne_r6_rs.symm #[.int .u64 (mH dph dpl dh dl), .int .u64 (mL dph dpl dh dl)]
        have n_hB := below_setRow hB hge_r6 #[.int .u64 (mH dph dpl dh dl), .int .u64 (mL dph dpl dh dl)]
        clear ra rr r5 r6 rs hB
        have ra := n_ra
        have rr := n_rr
        have r5 := n_r5
        have r6 := n_r6
        have rs := n_rs
        have hB := n_hB
        clear n_ra n_rr n_r5 n_r6 n_rs n_hB
        refine hK.out _ _ ⟨(ra.cell 4).trans HAC.out.k4, (ra.cell 5).trans HAC.out.k5, (ra.cell 6).trans HAC.out.k6, (ra.cell 7).trans HAC.out.k7, (ra.cell 8).trans HAC.out.k8, (ra.cell 9).trans HAC.out.k9, (ra.cell 10).trans HAC.out.k10, (ra.cell 11).trans HAC.out.k11⟩ (fun hHeld2 => ?_)
        clear hHeld hK K
        have hHeld := hHeld2
        clear hHeld2
        (try simp only [Act.put, List.setIfInBounds_toArray, List.set_cons_zero, List.set_cons_succ])
        generalize W4.setRow g6 #[.int .u64 (mH dph dpl dh dl), .int .u64 (mL dph dpl dh dl)] = W5 at hHeld ra rr r5 r6 rs hB ⊢
        refine wpAnyH_done (by kernel_rfl) ?_ _
        go_wp2_with fail
        go_meet
        exact ⟨r5, r6, ra, rr, hB⟩
      case rest =>
        clear r5 r6 ra rr hB
        obtain ⟨r5, r6, ra, rr, hB⟩ := hcut
        have c0 := (r5.cell 0).trans (rfl : (#[.int .u64 ch, .int .u64 cl] : Array Value)[0]? = some (.int .u64 ch))
        have c1 := (r5.cell 1).trans (rfl : (#[.int .u64 ch, .int .u64 cl] : Array Value)[1]? = some (.int .u64 cl))
        have d0 := (r6.cell 0).trans (rfl : (#[.int .u64 (mH dph dpl dh dl), .int .u64 (mL dph dpl dh dl)] : Array Value)[0]? = some (.int .u64 (mH dph dpl dh dl)))
        have d1 := (r6.cell 1).trans (rfl : (#[.int .u64 (mH dph dpl dh dl), .int .u64 (mL dph dpl dh dl)] : Array Value)[1]? = some (.int .u64 (mL dph dpl dh dl)))
        have HM := hide (m_word dph dpl dh dl HAC.out.b4 HAC.out.b5 HAC.out.b6 HAC.out.b7)
        have RR := hide rr; clear r5 r6 ra rr
        go_wp2_with fail
        refine (sub_any _ _ _ _ HAC.out.b10 HAC.out.b11 HM.out.1 HM.out.2 _).mono ?_
        rintro e v ⟨rfl, hb⟩
        have rr := RR.out.below hb RR.out.lt
        have hBv := hB.trans (hb.mono hB.size)
        clear c0 c1 d0 d1 RR hB hb
        have hlr := rr.lt
        have c0 : v.cell? ⟨w.heap.size + 1, 0, none⟩ = some (.int .u64 0) := (rr.cell 0).trans rfl
        have c1 : v.cell? ⟨w.heap.size + 1, 1, none⟩ = some (.int .u64 0) := (rr.cell 1).trans rfl
        have z0 := rr.frozen 0
        have z1 := rr.frozen 1
        have RR := hide rr; clear rr
        go_wp2
        refine bodyPost_ret (results_cell_row rfl _ _ (w.heap.size + 1) 24 #[.int .u64 (qH ch cl (mH dph dpl dh dl) (mL dph dpl dh dl)), .int .u64 (qL ch cl (mH dph dpl dh dl) (mL dph dpl dh dl))] (0, 0) _ rfl (((RR.out.set_ 0 _).set_ 1 _).alloc _) Try.underlying24 rfl (by kernel_rfl)) rfl ⟨rfl, ?_⟩
        exact ((hBv.setCell (p := ⟨w.heap.size + 1, 0, none⟩) (Nat.le_succ _) _).setCell (p := ⟨w.heap.size + 1, 1, none⟩) (Nat.le_succ _) _).alloc (by have := hBv.size; simp; omega) _

/-- rule.Room, of a credit. -/
theorem room_credit (cs : Array Value) (f dph dpl dh dl cph cpl ch cl : Int) (ac : Acc cs f dph dpl dh dl cph cpl ch cl) (w : World) :
    Calls Try.prog 17 #[.agg cs, .bool false] w fun e w' => e = .returned (.agg #[.int .u64 (qH dh dl (mH cph cpl ch cl) (mL cph cpl ch cl)), .int .u64 (qL dh dl (mH cph cpl ch cl) (mL cph cpl ch cl))]) ∧ Below w.heap.size w w' :=
  room_any false cs f dph dpl dh dl cph cpl ch cl ac w
/-- rule.Room, of a debit. -/
theorem room_debit (cs : Array Value) (f dph dpl dh dl cph cpl ch cl : Int) (ac : Acc cs f dph dpl dh dl cph cpl ch cl) (w : World) :
    Calls Try.prog 17 #[.agg cs, .bool true] w fun e w' => e = .returned (.agg #[.int .u64 (qH ch cl (mH dph dpl dh dl) (mL dph dpl dh dl)), .int .u64 (qL ch cl (mH dph dpl dh dl) (mL dph dpl dh dl))]) ∧ Below w.heap.size w w' :=
  room_any true cs f dph dpl dh dl cph cpl ch cl ac w
end Go.Proofs.Ytedejbanhhonbaa
