/- The walk of the law RuleRooms: it returns true at whatever account and number. -/
import Derived.Test.YtedejbanhhonbaaX3
import Derived.Test.YtedejbanhhonbaaX15
import Derived.Test.YtedejbanhhonbaaX18
namespace Go.Proofs.Ytedejbanhhonbaa
open Go.RowKit
attribute [local go_sem high] eqNum

theorem Acc.pending {cs : Array Value} {f dph dpl dh dl cph cpl ch cl : Int} (h : Acc cs f dph dpl dh dl cph cpl ch cl) {x y : Int} (hx : W2 x y) :
    Acc ((cs.setIfInBounds 4 (.int .u64 x)).setIfInBounds 5 (.int .u64 y)) f x y dh dl cph cpl ch cl where
  size := by simp [h.size]
  k3 := by simp [h.k3]
  k4 := by simp [h.size]
  k5 := by simp [h.size]
  k6 := by simp [h.k6]
  k7 := by simp [h.k7]
  k8 := by simp [h.k8]
  k9 := by simp [h.k9]
  k10 := by simp [h.k10]
  k11 := by simp [h.k11]
  b6 := h.b6
  b7 := h.b7
  b8 := h.b8
  b9 := h.b9
  b10 := h.b10
  b11 := h.b11
  b4 := hx.1
  b5 := hx.2
theorem nEq_refl (a b : Int) : nEq a b a b = true := by simp [nEq]

set_option maxRecDepth 100000 in
set_option maxHeartbeats 16000000 in
/-- RuleRooms, walked. -/
theorem rooms_walk (cs : Array Value) (f dph dpl dh dl cph cpl ch cl nh nl : Int) (ac : Acc cs f dph dpl dh dl cph cpl ch cl) (hone : cs.all (·.oneCell') = true) (nw : W2 nh nl) (w : World) :
    Calls Try.prog 7 #[.agg cs, .agg #[.int .u64 nh, .int .u64 nl]] w fun e w' => e = .returned (.bool true) ∧ Below w.heap.size w w' := by
  have WD := hide (p_spec dph dpl dh dl ⟨ac.b4, ac.b5⟩ ⟨ac.b6, ac.b7⟩).1
  have WC := hide (p_spec cph cpl ch cl ⟨ac.b8, ac.b9⟩ ⟨ac.b10, ac.b11⟩).1
  have HD := hide (fun h : pO dph dpl dh dl = false => room_no (ch := ch) (cl := cl) ⟨ac.b4, ac.b5⟩ ⟨ac.b6, ac.b7⟩ ⟨ac.b10, ac.b11⟩ h)
  have HC := hide (fun h : pO cph cpl ch cl = false => room_no (ch := dh) (cl := dl) ⟨ac.b8, ac.b9⟩ ⟨ac.b10, ac.b11⟩ ⟨ac.b6, ac.b7⟩ h)
  have YD := hide (fun h : pO dph dpl dh dl = true => room_yes h)
  have YC := hide (fun h : pO cph cpl ch cl = true => room_yes h)
  have NW := hide nw
  have HAC := hide ac
  clear ac nw
  go_enter Try.func7, Try.ntmps7
  go_wp2_with fail
  refine (fit_any _).mono ?_
  rintro e w1 ⟨rfl, hb1⟩
  have ra : Row w1 w.heap.size 39 cs := ((Row.new w 39 cs).alloc _).below hb1 (by simp; omega)
  have rn : Row w1 (w.heap.size + 1) 24 #[.int .u64 nh, .int .u64 nl] := by
    have h := Row.new (w.alloc (.cells cs 39)) 24 #[.int .u64 nh, .int .u64 nl]
    simp only [World.size_alloc] at h
    exact h.below hb1 (by simp)
  have hB : Below w.heap.size w w1 := (((Below.refl _ _).alloc (Nat.le_refl _) _).alloc (by simp) _).trans (hb1.mono (by simp; omega))
  have ne_ra_rn : w.heap.size ≠ w.heap.size + 1 := by omega
  clear hb1
  have c4 := (ra.cell 4).trans HAC.out.k4
  have c5 := (ra.cell 5).trans HAC.out.k5
  have c6 := (ra.cell 6).trans HAC.out.k6
  have c7 := (ra.cell 7).trans HAC.out.k7
  have hlA := ra.lt
  go_wp2_with fail
  refine (add2_any dph dpl dh dl HAC.out.b4 HAC.out.b5 HAC.out.b6 HAC.out.b7 _ _ ⟨by simp [go_sem], by simp [go_sem], by simp [go_sem], by simp [go_sem]⟩).mono ?_
  rintro e V1 ⟨rfl, hb⟩
  clear c4 c5 c6 c7 hlA
  have n_ra := (ra.alloc _).below hb (by have := ra.lt; simp; omega)
  have n_rn := (rn.alloc _).below hb (by have := rn.lt; simp; omega)
  have n_hB := (hB.alloc hB.size _).trans (hb.mono (by have := hB.size; simp; omega))
  clear hb
  clear ra rn hB
  have ra := n_ra
  have rn := n_rn
  have hB := n_hB
  clear n_ra n_rn n_hB
  go_upto_region 4 with fail
  have n_ra := ra.alloc (.cells #[.int .u64 (pH dph dpl dh dl), .int .u64 (pL dph dpl dh dl)] 24)
  have ne_ra_rd := Nat.ne_of_lt ra.lt
  have n_rn := rn.alloc (.cells #[.int .u64 (pH dph dpl dh dl), .int .u64 (pL dph dpl dh dl)] 24)
  have ne_rn_rd := Nat.ne_of_lt rn.lt
  have n_rd := Row.new V1 24 #[.int .u64 (pH dph dpl dh dl), .int .u64 (pL dph dpl dh dl)]
  have n_hB := hB.alloc hB.size (.cells #[.int .u64 (pH dph dpl dh dl), .int .u64 (pL dph dpl dh dl)] 24)
  have hge_rd := hB.size
  clear ra rn hB
  have ra := n_ra
  have rn := n_rn
  have hB := n_hB
  clear n_ra n_rn n_hB
  have rd := n_rd
  clear n_rd
  generalize V1.alloc (.cells #[.int .u64 (pH dph dpl dh dl), .int .u64 (pL dph dpl dh dl)] 24) = A1 at ra rn rd hB ⊢
  generalize V1.heap.size = gd at ne_ra_rd ne_rn_rd hge_rd rd ⊢
  have c8 := (ra.cell 8).trans HAC.out.k8
  have c9 := (ra.cell 9).trans HAC.out.k9
  have c10 := (ra.cell 10).trans HAC.out.k10
  have c11 := (ra.cell 11).trans HAC.out.k11
  have hlA := ra.lt
  go_wp2_with fail
  refine (add2_any cph cpl ch cl HAC.out.b8 HAC.out.b9 HAC.out.b10 HAC.out.b11 _ _ ⟨by simp [go_sem], by simp [go_sem], by simp [go_sem], by simp [go_sem]⟩).mono ?_
  rintro e V2 ⟨rfl, hb⟩
  clear c8 c9 c10 c11 hlA
  have n_ra := (ra.alloc _).below hb (by have := ra.lt; simp; omega)
  have n_rn := (rn.alloc _).below hb (by have := rn.lt; simp; omega)
  have n_rd := (rd.alloc _).below hb (by have := rd.lt; simp; omega)
  have n_hB := (hB.alloc hB.size _).trans (hb.mono (by have := hB.size; simp; omega))
  clear hb
  clear ra rn rd hB
  have ra := n_ra
  have rn := n_rn
  have rd := n_rd
  have hB := n_hB
  clear n_ra n_rn n_rd n_hB
  go_upto_region 5 with fail
  have n_ra := ra.alloc (.cells #[.int .u64 (pH cph cpl ch cl), .int .u64 (pL cph cpl ch cl)] 24)
  have ne_ra_rc := Nat.ne_of_lt ra.lt
  have n_rn := rn.alloc (.cells #[.int .u64 (pH cph cpl ch cl), .int .u64 (pL cph cpl ch cl)] 24)
  have ne_rn_rc := Nat.ne_of_lt rn.lt
  have n_rd := rd.alloc (.cells #[.int .u64 (pH cph cpl ch cl), .int .u64 (pL cph cpl ch cl)] 24)
  have ne_rd_rc := Nat.ne_of_lt rd.lt
  have n_rc := Row.new V2 24 #[.int .u64 (pH cph cpl ch cl), .int .u64 (pL cph cpl ch cl)]
  have n_hB := hB.alloc hB.size (.cells #[.int .u64 (pH cph cpl ch cl), .int .u64 (pL cph cpl ch cl)] 24)
  have hge_rc := hB.size
  clear ra rn rd hB
  have ra := n_ra
  have rn := n_rn
  have rd := n_rd
  have hB := n_hB
  clear n_ra n_rn n_rd n_hB
  have rc := n_rc
  clear n_rc
  generalize V2.alloc (.cells #[.int .u64 (pH cph cpl ch cl), .int .u64 (pL cph cpl ch cl)] 24) = A2 at ra rn rd rc hB ⊢
  generalize V2.heap.size = gc at ne_ra_rc ne_rn_rc ne_rd_rc hge_rc rc ⊢
  have c10 := (ra.cell 10).trans HAC.out.k10
  have c11 := (ra.cell 11).trans HAC.out.k11
  have d0 := (rd.cell 0).trans (rfl : (#[.int .u64 (pH dph dpl dh dl), .int .u64 (pL dph dpl dh dl)] : Array Value)[0]? = some (.int .u64 (pH dph dpl dh dl)))
  have d1 := (rd.cell 1).trans (rfl : (#[.int .u64 (pH dph dpl dh dl), .int .u64 (pL dph dpl dh dl)] : Array Value)[1]? = some (.int .u64 (pL dph dpl dh dl)))
  go_wp2_with fail
  refine (sub_any _ _ _ _ HAC.out.b10 HAC.out.b11 WD.out.1 WD.out.2 _).mono ?_
  rintro e V3 ⟨rfl, hb⟩
  clear c10 c11 d0 d1
  have n_ra := ra.below hb ra.lt
  have n_rn := rn.below hb rn.lt
  have n_rd := rd.below hb rd.lt
  have n_rc := rc.below hb rc.lt
  have n_hB := hB.trans (hb.mono hB.size)
  clear hb
  clear ra rn rd rc hB
  have ra := n_ra
  have rn := n_rn
  have rd := n_rd
  have rc := n_rc
  have hB := n_hB
  clear n_ra n_rn n_rd n_rc n_hB
  go_upto_region 6 with fail
  have n_ra := ra.alloc (.cells #[.int .u64 (qH ch cl (pH dph dpl dh dl) (pL dph dpl dh dl)), .int .u64 (qL ch cl (pH dph dpl dh dl) (pL dph dpl dh dl))] 24)
  have ne_ra_rx := Nat.ne_of_lt ra.lt
  have n_rn := rn.alloc (.cells #[.int .u64 (qH ch cl (pH dph dpl dh dl) (pL dph dpl dh dl)), .int .u64 (qL ch cl (pH dph dpl dh dl) (pL dph dpl dh dl))] 24)
  have ne_rn_rx := Nat.ne_of_lt rn.lt
  have n_rd := rd.alloc (.cells #[.int .u64 (qH ch cl (pH dph dpl dh dl) (pL dph dpl dh dl)), .int .u64 (qL ch cl (pH dph dpl dh dl) (pL dph dpl dh dl))] 24)
  have ne_rd_rx := Nat.ne_of_lt rd.lt
  have n_rc := rc.alloc (.cells #[.int .u64 (qH ch cl (pH dph dpl dh dl) (pL dph dpl dh dl)), .int .u64 (qL ch cl (pH dph dpl dh dl) (pL dph dpl dh dl))] 24)
  have ne_rc_rx := Nat.ne_of_lt rc.lt
  have n_rx := Row.new V3 24 #[.int .u64 (qH ch cl (pH dph dpl dh dl) (pL dph dpl dh dl)), .int .u64 (qL ch cl (pH dph dpl dh dl) (pL dph dpl dh dl))]
  have n_hB := hB.alloc hB.size (.cells #[.int .u64 (qH ch cl (pH dph dpl dh dl) (pL dph dpl dh dl)), .int .u64 (qL ch cl (pH dph dpl dh dl) (pL dph dpl dh dl))] 24)
  have hge_rx := hB.size
  clear ra rn rd rc hB
  have ra := n_ra
  have rn := n_rn
  have rd := n_rd
  have rc := n_rc
  have hB := n_hB
  clear n_ra n_rn n_rd n_rc n_hB
  have rx := n_rx
  clear n_rx
  generalize V3.alloc (.cells #[.int .u64 (qH ch cl (pH dph dpl dh dl) (pL dph dpl dh dl)), .int .u64 (qL ch cl (pH dph dpl dh dl) (pL dph dpl dh dl))] 24) = A3 at ra rn rd rc rx hB ⊢
  generalize V3.heap.size = gx at ne_ra_rx ne_rn_rx ne_rd_rx ne_rc_rx hge_rx rx ⊢
  have c6 := (ra.cell 6).trans HAC.out.k6
  have c7 := (ra.cell 7).trans HAC.out.k7
  have d0 := (rc.cell 0).trans (rfl : (#[.int .u64 (pH cph cpl ch cl), .int .u64 (pL cph cpl ch cl)] : Array Value)[0]? = some (.int .u64 (pH cph cpl ch cl)))
  have d1 := (rc.cell 1).trans (rfl : (#[.int .u64 (pH cph cpl ch cl), .int .u64 (pL cph cpl ch cl)] : Array Value)[1]? = some (.int .u64 (pL cph cpl ch cl)))
  go_wp2_with fail
  refine (sub_any _ _ _ _ HAC.out.b6 HAC.out.b7 WC.out.1 WC.out.2 _).mono ?_
  rintro e V4 ⟨rfl, hb⟩
  clear c6 c7 d0 d1
  have n_ra := ra.below hb ra.lt
  have n_rn := rn.below hb rn.lt
  have n_rd := rd.below hb rd.lt
  have n_rc := rc.below hb rc.lt
  have n_rx := rx.below hb rx.lt
  have n_hB := hB.trans (hb.mono hB.size)
  clear hb
  clear ra rn rd rc rx hB
  have ra := n_ra
  have rn := n_rn
  have rd := n_rd
  have rc := n_rc
  have rx := n_rx
  have hB := n_hB
  clear n_ra n_rn n_rd n_rc n_rx n_hB
  go_upto_if 50 with fail
  have n_ra := ra.alloc (.cells #[.int .u64 (qH dh dl (pH cph cpl ch cl) (pL cph cpl ch cl)), .int .u64 (qL dh dl (pH cph cpl ch cl) (pL cph cpl ch cl))] 24)
  have ne_ra_ry := Nat.ne_of_lt ra.lt
  have n_rn := rn.alloc (.cells #[.int .u64 (qH dh dl (pH cph cpl ch cl) (pL cph cpl ch cl)), .int .u64 (qL dh dl (pH cph cpl ch cl) (pL cph cpl ch cl))] 24)
  have ne_rn_ry := Nat.ne_of_lt rn.lt
  have n_rd := rd.alloc (.cells #[.int .u64 (qH dh dl (pH cph cpl ch cl) (pL cph cpl ch cl)), .int .u64 (qL dh dl (pH cph cpl ch cl) (pL cph cpl ch cl))] 24)
  have ne_rd_ry := Nat.ne_of_lt rd.lt
  have n_rc := rc.alloc (.cells #[.int .u64 (qH dh dl (pH cph cpl ch cl) (pL cph cpl ch cl)), .int .u64 (qL dh dl (pH cph cpl ch cl) (pL cph cpl ch cl))] 24)
  have ne_rc_ry := Nat.ne_of_lt rc.lt
  have n_rx := rx.alloc (.cells #[.int .u64 (qH dh dl (pH cph cpl ch cl) (pL cph cpl ch cl)), .int .u64 (qL dh dl (pH cph cpl ch cl) (pL cph cpl ch cl))] 24)
  have ne_rx_ry := Nat.ne_of_lt rx.lt
  have n_ry := Row.new V4 24 #[.int .u64 (qH dh dl (pH cph cpl ch cl) (pL cph cpl ch cl)), .int .u64 (qL dh dl (pH cph cpl ch cl) (pL cph cpl ch cl))]
  have n_hB := hB.alloc hB.size (.cells #[.int .u64 (qH dh dl (pH cph cpl ch cl) (pL cph cpl ch cl)), .int .u64 (qL dh dl (pH cph cpl ch cl) (pL cph cpl ch cl))] 24)
  have hge_ry := hB.size
  clear ra rn rd rc rx hB
  have ra := n_ra
  have rn := n_rn
  have rd := n_rd
  have rc := n_rc
  have rx := n_rx
  have hB := n_hB
  clear n_ra n_rn n_rd n_rc n_rx n_hB
  have ry := n_ry
  clear n_ry
  generalize V4.alloc (.cells #[.int .u64 (qH dh dl (pH cph cpl ch cl) (pL cph cpl ch cl)), .int .u64 (qL dh dl (pH cph cpl ch cl) (pL cph cpl ch cl))] 24) = A4 at ra rn rd rc rx ry hB ⊢
  generalize V4.heap.size = gy at ne_ra_ry ne_rn_ry ne_rd_ry ne_rc_ry ne_rx_ry hge_ry ry ⊢
  generalize hoD : pO dph dpl dh dl = oD at *
  generalize hoC : pO cph cpl ch cl = oC at *
  have HoD := hide hoD; have HoC := hide hoC; clear hoD hoC
  go_upto_if 50 with fail
  go_cut [51] (fun _ wx => Row wx w.heap.size 39 cs ∧ Row wx (w.heap.size + 1) 24 #[.int .u64 nh, .int .u64 nl] ∧ Row wx gd 24 #[.int .u64 (pH dph dpl dh dl), .int .u64 (pL dph dpl dh dl)] ∧ Row wx gc 24 #[.int .u64 (pH cph cpl ch cl), .int .u64 (pL cph cpl ch cl)] ∧ Row wx gx 24 #[.int .u64 (qH ch cl (mH dph dpl dh dl) (mL dph dpl dh dl)), .int .u64 (qL ch cl (mH dph dpl dh dl) (mL dph dpl dh dl))] ∧ Row wx gy 24 #[.int .u64 (qH dh dl (pH cph cpl ch cl) (pL cph cpl ch cl)), .int .u64 (qL dh dl (pH cph cpl ch cl) (pL cph cpl ch cl))] ∧ Below w.heap.size w wx)
  case first =>
    have x0 := (rx.cell 0).trans (rfl : (#[.int .u64 (qH ch cl (pH dph dpl dh dl) (pL dph dpl dh dl)), .int .u64 (qL ch cl (pH dph dpl dh dl) (pL dph dpl dh dl))] : Array Value)[0]? = some (.int .u64 (qH ch cl (pH dph dpl dh dl) (pL dph dpl dh dl))))
    have x1 := (rx.cell 1).trans (rfl : (#[.int .u64 (qH ch cl (pH dph dpl dh dl) (pL dph dpl dh dl)), .int .u64 (qL ch cl (pH dph dpl dh dl) (pL dph dpl dh dl))] : Array Value)[1]? = some (.int .u64 (qL ch cl (pH dph dpl dh dl) (pL dph dpl dh dl))))
    have z0 := rx.frozen 0
    have z1 := rx.frozen 1
    cases oD
    · go_wp2_with fail
      go_meet
      exact ⟨((ra.far (p := ⟨gx, 0, none⟩) ne_ra_rx _).far (p := ⟨gx, 1, none⟩) ne_ra_rx _), ((rn.far (p := ⟨gx, 0, none⟩) ne_rn_rx _).far (p := ⟨gx, 1, none⟩) ne_rn_rx _), ((rd.far (p := ⟨gx, 0, none⟩) ne_rd_rx _).far (p := ⟨gx, 1, none⟩) ne_rd_rx _), ((rc.far (p := ⟨gx, 0, none⟩) ne_rc_rx _).far (p := ⟨gx, 1, none⟩) ne_rc_rx _), (by rw [(HD.out (by first | rfl | trivial)).1, (HD.out (by first | rfl | trivial)).2]; exact ((rx.set_ 0 _).set_ 1 _)), ((ry.far (p := ⟨gx, 0, none⟩) ne_rx_ry.symm _).far (p := ⟨gx, 1, none⟩) ne_rx_ry.symm _), (hB.setCell (p := ⟨gx, 0, none⟩) hge_rx _).setCell (p := ⟨gx, 1, none⟩) hge_rx _⟩
    · go_wp2_with fail
      go_meet
      exact ⟨ra, rn, rd, rc, (by rw [(YD.out (by first | rfl | trivial)).1, (YD.out (by first | rfl | trivial)).2]; exact rx), ry, hB⟩
  clear ra rn rd rc rx ry hB
  obtain ⟨ra, rn, rd, rc, rx, ry, hB⟩ := hcut
  go_upto_if 53 with fail
  go_cut [54] (fun _ wx => Row wx w.heap.size 39 cs ∧ Row wx (w.heap.size + 1) 24 #[.int .u64 nh, .int .u64 nl] ∧ Row wx gd 24 #[.int .u64 (pH dph dpl dh dl), .int .u64 (pL dph dpl dh dl)] ∧ Row wx gc 24 #[.int .u64 (pH cph cpl ch cl), .int .u64 (pL cph cpl ch cl)] ∧ Row wx gx 24 #[.int .u64 (qH ch cl (mH dph dpl dh dl) (mL dph dpl dh dl)), .int .u64 (qL ch cl (mH dph dpl dh dl) (mL dph dpl dh dl))] ∧ Row wx gy 24 #[.int .u64 (qH dh dl (mH cph cpl ch cl) (mL cph cpl ch cl)), .int .u64 (qL dh dl (mH cph cpl ch cl) (mL cph cpl ch cl))] ∧ Below w.heap.size w wx)
  case first =>
    have x0 := (ry.cell 0).trans (rfl : (#[.int .u64 (qH dh dl (pH cph cpl ch cl) (pL cph cpl ch cl)), .int .u64 (qL dh dl (pH cph cpl ch cl) (pL cph cpl ch cl))] : Array Value)[0]? = some (.int .u64 (qH dh dl (pH cph cpl ch cl) (pL cph cpl ch cl))))
    have x1 := (ry.cell 1).trans (rfl : (#[.int .u64 (qH dh dl (pH cph cpl ch cl) (pL cph cpl ch cl)), .int .u64 (qL dh dl (pH cph cpl ch cl) (pL cph cpl ch cl))] : Array Value)[1]? = some (.int .u64 (qL dh dl (pH cph cpl ch cl) (pL cph cpl ch cl))))
    have z0 := ry.frozen 0
    have z1 := ry.frozen 1
    cases oC
    · go_wp2_with fail
      go_meet
      exact ⟨((ra.far (p := ⟨gy, 0, none⟩) ne_ra_ry _).far (p := ⟨gy, 1, none⟩) ne_ra_ry _), ((rn.far (p := ⟨gy, 0, none⟩) ne_rn_ry _).far (p := ⟨gy, 1, none⟩) ne_rn_ry _), ((rd.far (p := ⟨gy, 0, none⟩) ne_rd_ry _).far (p := ⟨gy, 1, none⟩) ne_rd_ry _), ((rc.far (p := ⟨gy, 0, none⟩) ne_rc_ry _).far (p := ⟨gy, 1, none⟩) ne_rc_ry _), ((rx.far (p := ⟨gy, 0, none⟩) ne_rx_ry _).far (p := ⟨gy, 1, none⟩) ne_rx_ry _), (by rw [(HC.out (by first | rfl | trivial)).1, (HC.out (by first | rfl | trivial)).2]; exact ((ry.set_ 0 _).set_ 1 _)), (hB.setCell (p := ⟨gy, 0, none⟩) hge_ry _).setCell (p := ⟨gy, 1, none⟩) hge_ry _⟩
    · go_wp2_with fail
      go_meet
      exact ⟨ra, rn, rd, rc, rx, (by rw [(YC.out (by first | rfl | trivial)).1, (YC.out (by first | rfl | trivial)).2]; exact ry), hB⟩
  clear ra rn rd rc rx ry hB
  obtain ⟨ra, rn, rd, rc, rx, ry, hB⟩ := hcut
  go_upto_region 11 with fail
  go_cut [64] (fun s wx => s = .bool false ∧ Row wx w.heap.size 39 cs ∧ Row wx (w.heap.size + 1) 24 #[.int .u64 nh, .int .u64 nl] ∧ Row wx gd 24 #[.int .u64 (pH dph dpl dh dl), .int .u64 (pL dph dpl dh dl)] ∧ Row wx gc 24 #[.int .u64 (pH cph cpl ch cl), .int .u64 (pL cph cpl ch cl)] ∧ Row wx gx 24 #[.int .u64 (qH ch cl (mH dph dpl dh dl) (mL dph dpl dh dl)), .int .u64 (qL ch cl (mH dph dpl dh dl) (mL dph dpl dh dl))] ∧ Row wx gy 24 #[.int .u64 (qH dh dl (mH cph cpl ch cl) (mL cph cpl ch cl)), .int .u64 (qL dh dl (mH cph cpl ch cl) (mL cph cpl ch cl))] ∧ Below w.heap.size w wx)
  case first =>
    have ex := nEq_refl (qH ch cl (mH dph dpl dh dl) (mL dph dpl dh dl)) (qL ch cl (mH dph dpl dh dl) (mL dph dpl dh dl))
    have ey := nEq_refl (qH dh dl (mH cph cpl ch cl) (mL cph cpl ch cl)) (qL dh dl (mH cph cpl ch cl) (mL cph cpl ch cl))
    have n_ra := ra.drew
    have n_rn := rn.drew
    have n_rd := rd.drew
    have n_rc := rc.drew
    have n_rx := rx.drew
    have n_ry := ry.drew
    have n_hB := hB.drew
    refine wp_region_held_drew (S := fun w' => Row w' w.heap.size 39 cs ∧ w'.cell? ⟨gx, 0, none⟩ = some (.int .u64 (qH ch cl (mH dph dpl dh dl) (mL dph dpl dh dl))) ∧ w'.cell? ⟨gx, 1, none⟩ = some (.int .u64 (qL ch cl (mH dph dpl dh dl) (mL dph dpl dh dl))) ∧ w'.cell? ⟨gy, 0, none⟩ = some (.int .u64 (qH dh dl (mH cph cpl ch cl) (mL cph cpl ch cl))) ∧ w'.cell? ⟨gy, 1, none⟩ = some (.int .u64 (qL dh dl (mH cph cpl ch cl) (mL cph cpl ch cl)))) (by kernel_rfl) ?_ (fun hHeld => ?_)
    · exact ⟨ra, (rx.cell 0).trans rfl, (rx.cell 1).trans rfl, (ry.cell 0).trans rfl, (ry.cell 1).trans rfl⟩
    clear ra rn rd rc rx ry hB
    have ra := n_ra
    have rn := n_rn
    have rd := n_rd
    have rc := n_rc
    have rx := n_rx
    have ry := n_ry
    have hB := n_hB
    clear n_ra n_rn n_rd n_rc n_rx n_ry n_hB
    generalize wc.drew = B1 at hHeld ra rn rd rc rx ry hB ⊢
    refine take_yes (i := 0) (v := .agg cs) (some 55) rfl rfl (by kernel_rfl) (by kernel_rfl) (by kernel_rfl) (fun _ _ _ h => h) (by rfl) hHeld (fun _ hSw => exec_A hSw.1 rfl rfl HAC.out.size) ?_
    (try simp only [Act.put, List.setIfInBounds_toArray, List.set_cons_zero, List.set_cons_succ])
    refine take_yes (i := 2) (v := ?_) (some 57) rfl rfl (by kernel_rfl) (by kernel_rfl) (by kernel_rfl) (fun _ _ _ h => h) (by rfl) hHeld ?_ ?_
    rotate_left
    · intro w hSw; (try dsimp only at hSw); obtain ⟨_, hSw⟩ := hSw; go_simp; (try with_reducible rfl)
    (try simp only [Act.put, List.setIfInBounds_toArray, List.set_cons_zero, List.set_cons_succ])
    refine wpAnyH_ready (rs := [1]) (by kernel_rfl) (by simp) ?_
    refine AllReadyH.cons rfl (fun K hK => ?_) AllReadyH.nil
    go_simp
    go_at_call 17
    refine (room_debit cs f dph dpl dh dl cph cpl ch cl HAC.out _).mono ?_
    rintro e B2 ⟨rfl, hb⟩
    have n_ra := ra.below hb ra.lt
    have n_rn := rn.below hb rn.lt
    have n_rd := rd.below hb rd.lt
    have n_rc := rc.below hb rc.lt
    have n_rx := rx.below hb rx.lt
    have n_ry := ry.below hb ry.lt
    have n_hB := hB.trans (hb.mono hB.size)
    clear hb
    clear ra rn rd rc rx ry hB
    have ra := n_ra
    have rn := n_rn
    have rd := n_rd
    have rc := n_rc
    have rx := n_rx
    have ry := n_ry
    have hB := n_hB
    clear n_ra n_rn n_rd n_rc n_rx n_ry n_hB
    refine hK.out _ _ ⟨ra, (rx.cell 0).trans rfl, (rx.cell 1).trans rfl, (ry.cell 0).trans rfl, (ry.cell 1).trans rfl⟩ (fun hHeld2 => ?_)
    clear hHeld hK K
    have hHeld := hHeld2
    clear hHeld2
    (try simp only [Act.put, List.setIfInBounds_toArray, List.set_cons_zero, List.set_cons_succ])
    refine take_yes (i := 3) (v := ?_) (some 58) rfl rfl (by kernel_rfl) (by kernel_rfl) (by kernel_rfl) (fun _ _ _ h => h) (by rfl) hHeld ?_ ?_
    rotate_left
    · intro w hSw; (try dsimp only at hSw); obtain ⟨_, hSw⟩ := hSw; go_simp; (try with_reducible rfl)
    (try simp only [Act.put, List.setIfInBounds_toArray, List.set_cons_zero, List.set_cons_succ])
    refine take_yes (i := 4) (v := ?_) (some 59) rfl rfl (by kernel_rfl) (by kernel_rfl) (by kernel_rfl) (fun _ _ _ h => h) (by rfl) hHeld ?_ ?_
    rotate_left
    · intro w hSw; (try dsimp only at hSw); obtain ⟨_, hSw⟩ := hSw; go_simp; (try with_reducible rfl)
    (try simp only [Act.put, List.setIfInBounds_toArray, List.set_cons_zero, List.set_cons_succ])
    refine take_yes (i := 5) (v := .agg cs) (some 60) rfl rfl (by kernel_rfl) (by kernel_rfl) (by kernel_rfl) (fun _ _ _ h => h) (by rfl) hHeld (fun _ hSw => exec_A hSw.1 rfl rfl HAC.out.size) ?_
    (try simp only [Act.put, List.setIfInBounds_toArray, List.set_cons_zero, List.set_cons_succ])
    refine take_yes (i := 7) (v := ?_) (some 62) rfl rfl (by kernel_rfl) (by kernel_rfl) (by kernel_rfl) (fun _ _ _ h => h) (by rfl) hHeld ?_ ?_
    rotate_left
    · intro w hSw; (try dsimp only at hSw); obtain ⟨_, hSw⟩ := hSw; go_simp; (try with_reducible rfl)
    (try simp only [Act.put, List.setIfInBounds_toArray, List.set_cons_zero, List.set_cons_succ])
    refine wpAnyH_ready (rs := [6]) (by kernel_rfl) (by simp) ?_
    refine AllReadyH.cons rfl (fun K hK => ?_) AllReadyH.nil
    go_simp
    go_at_call 17
    refine (room_credit cs f dph dpl dh dl cph cpl ch cl HAC.out _).mono ?_
    rintro e B3 ⟨rfl, hb⟩
    have n_ra := ra.below hb ra.lt
    have n_rn := rn.below hb rn.lt
    have n_rd := rd.below hb rd.lt
    have n_rc := rc.below hb rc.lt
    have n_rx := rx.below hb rx.lt
    have n_ry := ry.below hb ry.lt
    have n_hB := hB.trans (hb.mono hB.size)
    clear hb
    clear ra rn rd rc rx ry hB
    have ra := n_ra
    have rn := n_rn
    have rd := n_rd
    have rc := n_rc
    have rx := n_rx
    have ry := n_ry
    have hB := n_hB
    clear n_ra n_rn n_rd n_rc n_rx n_ry n_hB
    refine hK.out _ _ ⟨ra, (rx.cell 0).trans rfl, (rx.cell 1).trans rfl, (ry.cell 0).trans rfl, (ry.cell 1).trans rfl⟩ (fun hHeld2 => ?_)
    clear hHeld hK K
    have hHeld := hHeld2
    clear hHeld2
    (try simp only [Act.put, List.setIfInBounds_toArray, List.set_cons_zero, List.set_cons_succ])
    refine take_yes (i := 8) (v := ?_) (some 63) rfl rfl (by kernel_rfl) (by kernel_rfl) (by kernel_rfl) (fun _ _ _ h => h) (by rfl) hHeld ?_ ?_
    rotate_left
    · intro w hSw; (try dsimp only at hSw); obtain ⟨_, hSw⟩ := hSw; go_simp; (try with_reducible rfl)
    (try simp only [Act.put, List.setIfInBounds_toArray, List.set_cons_zero, List.set_cons_succ])
    refine take_yes (i := 9) (v := ?_) (some 64) rfl rfl (by kernel_rfl) (by kernel_rfl) (by kernel_rfl) (fun _ _ _ h => h) (by rfl) hHeld ?_ ?_
    rotate_left
    · intro w hSw; (try dsimp only at hSw); obtain ⟨_, hSw⟩ := hSw; go_simp; (try with_reducible rfl)
    (try simp only [Act.put, List.setIfInBounds_toArray, List.set_cons_zero, List.set_cons_succ])
    refine wpAnyH_done (by kernel_rfl) ?_ _
    go_wp2_with fail
    go_meet
    exact ⟨rfl, ra, rn, rd, rc, rx, ry, hB⟩
  clear ra rn rd rc rx ry hB
  obtain ⟨rfl, ra, rn, rd, rc, rx, ry, hB⟩ := hcut
  go_upto_region 13 with fail
  go_cut [13] (fun s wx => s = .bool (winB f dph dpl dh dl cph cpl ch cl) ∧ Row wx w.heap.size 39 cs ∧ Row wx (w.heap.size + 1) 24 #[.int .u64 nh, .int .u64 nl] ∧ Row wx gx 24 #[.int .u64 (qH ch cl (mH dph dpl dh dl) (mL dph dpl dh dl)), .int .u64 (qL ch cl (mH dph dpl dh dl) (mL dph dpl dh dl))] ∧ Below w.heap.size w wx)
  case first =>
    have c3 := (ra.cell 3).trans HAC.out.k3
    have c6 := (ra.cell 6).trans HAC.out.k6
    have c7 := (ra.cell 7).trans HAC.out.k7
    have c10 := (ra.cell 10).trans HAC.out.k10
    have c11 := (ra.cell 11).trans HAC.out.k11
    have d0 := (rd.cell 0).trans (rfl : (#[.int .u64 (pH dph dpl dh dl), .int .u64 (pL dph dpl dh dl)] : Array Value)[0]? = some (.int .u64 (pH dph dpl dh dl)))
    have d1 := (rd.cell 1).trans (rfl : (#[.int .u64 (pH dph dpl dh dl), .int .u64 (pL dph dpl dh dl)] : Array Value)[1]? = some (.int .u64 (pL dph dpl dh dl)))
    have k0 := (rc.cell 0).trans (rfl : (#[.int .u64 (pH cph cpl ch cl), .int .u64 (pL cph cpl ch cl)] : Array Value)[0]? = some (.int .u64 (pH cph cpl ch cl)))
    have k1 := (rc.cell 1).trans (rfl : (#[.int .u64 (pH cph cpl ch cl), .int .u64 (pL cph cpl ch cl)] : Array Value)[1]? = some (.int .u64 (pL cph cpl ch cl)))
    rcases Bool.eq_false_or_eq_true (bits .and .i64 f 2 == 0) with h2 | h2
    · skip
      rcases Bool.eq_false_or_eq_true (bits .and .i64 f 4 == 0) with h4 | h4
      · skip
        have e : winB f dph dpl dh dl cph cpl ch cl = true := by simp [winB, side, h2, h4]
        have E := hide e; clear e
        have hz := hB.size
        go_wp2_with fail
        go_meet
        exact ⟨by rw [E.out] <;> (simp; omega), ra, rn, rx, hB⟩
      cases oC
      · have oc := HoC.out
        have e : winB f dph dpl dh dl cph cpl ch cl = false := by simp [winB, side, h2, h4, oc]
        have E := hide e; clear e oc
        have hz := hB.size
        go_wp2_with fail
        go_meet
        exact ⟨by rw [E.out] <;> (simp; omega), ra, rn, rx, hB⟩
      have oc := HoC.out
      by_cases hcB : cmp (pH cph cpl ch cl) (pL cph cpl ch cl) dh dl ≤ 0
      · skip
        have e : winB f dph dpl dh dl cph cpl ch cl = true := by simp [winB, side, h2, h4, oc, hcB]
        have E := hide e; clear e oc
        have hz := hB.size
        go_wp2_with fail
        refine (compare_any _ _ _ _ _).mono ?_
        rintro e U1 ⟨rfl, hb1⟩
        have n_ra := ra.below hb1 ra.lt
        have n_rn := rn.below hb1 rn.lt
        have n_rx := rx.below hb1 rx.lt
        have n_rd := rd.below hb1 rd.lt
        have n_rc := rc.below hb1 rc.lt
        have n_hB := hB.trans (hb1.mono hB.size)
        clear c3 c6 c7 c10 c11 d0 d1 k0 k1 hb1
        clear ra rn rx rd rc hB
        have ra := n_ra
        have rn := n_rn
        have rx := n_rx
        have rd := n_rd
        have rc := n_rc
        have hB := n_hB
        clear n_ra n_rn n_rx n_rd n_rc n_hB
        have c3 := (ra.cell 3).trans HAC.out.k3
        have c6 := (ra.cell 6).trans HAC.out.k6
        have c7 := (ra.cell 7).trans HAC.out.k7
        have c10 := (ra.cell 10).trans HAC.out.k10
        have c11 := (ra.cell 11).trans HAC.out.k11
        have d0 := (rd.cell 0).trans (rfl : (#[.int .u64 (pH dph dpl dh dl), .int .u64 (pL dph dpl dh dl)] : Array Value)[0]? = some (.int .u64 (pH dph dpl dh dl)))
        have d1 := (rd.cell 1).trans (rfl : (#[.int .u64 (pH dph dpl dh dl), .int .u64 (pL dph dpl dh dl)] : Array Value)[1]? = some (.int .u64 (pL dph dpl dh dl)))
        have k0 := (rc.cell 0).trans (rfl : (#[.int .u64 (pH cph cpl ch cl), .int .u64 (pL cph cpl ch cl)] : Array Value)[0]? = some (.int .u64 (pH cph cpl ch cl)))
        have k1 := (rc.cell 1).trans (rfl : (#[.int .u64 (pH cph cpl ch cl), .int .u64 (pL cph cpl ch cl)] : Array Value)[1]? = some (.int .u64 (pL cph cpl ch cl)))
        go_wp2_with fail
        go_meet
        exact ⟨by rw [E.out] <;> (simp; omega), ra, rn, rx, hB⟩
      · skip
        have e : winB f dph dpl dh dl cph cpl ch cl = false := by simp [winB, side, h2, h4, oc, hcB]
        have E := hide e; clear e oc
        have hz := hB.size
        go_wp2_with fail
        refine (compare_any _ _ _ _ _).mono ?_
        rintro e U1 ⟨rfl, hb1⟩
        have n_ra := ra.below hb1 ra.lt
        have n_rn := rn.below hb1 rn.lt
        have n_rx := rx.below hb1 rx.lt
        have n_rd := rd.below hb1 rd.lt
        have n_rc := rc.below hb1 rc.lt
        have n_hB := hB.trans (hb1.mono hB.size)
        clear c3 c6 c7 c10 c11 d0 d1 k0 k1 hb1
        clear ra rn rx rd rc hB
        have ra := n_ra
        have rn := n_rn
        have rx := n_rx
        have rd := n_rd
        have rc := n_rc
        have hB := n_hB
        clear n_ra n_rn n_rx n_rd n_rc n_hB
        have c3 := (ra.cell 3).trans HAC.out.k3
        have c6 := (ra.cell 6).trans HAC.out.k6
        have c7 := (ra.cell 7).trans HAC.out.k7
        have c10 := (ra.cell 10).trans HAC.out.k10
        have c11 := (ra.cell 11).trans HAC.out.k11
        have d0 := (rd.cell 0).trans (rfl : (#[.int .u64 (pH dph dpl dh dl), .int .u64 (pL dph dpl dh dl)] : Array Value)[0]? = some (.int .u64 (pH dph dpl dh dl)))
        have d1 := (rd.cell 1).trans (rfl : (#[.int .u64 (pH dph dpl dh dl), .int .u64 (pL dph dpl dh dl)] : Array Value)[1]? = some (.int .u64 (pL dph dpl dh dl)))
        have k0 := (rc.cell 0).trans (rfl : (#[.int .u64 (pH cph cpl ch cl), .int .u64 (pL cph cpl ch cl)] : Array Value)[0]? = some (.int .u64 (pH cph cpl ch cl)))
        have k1 := (rc.cell 1).trans (rfl : (#[.int .u64 (pH cph cpl ch cl), .int .u64 (pL cph cpl ch cl)] : Array Value)[1]? = some (.int .u64 (pL cph cpl ch cl)))
        go_wp2_with fail
        go_meet
        exact ⟨by rw [E.out] <;> (simp; omega), ra, rn, rx, hB⟩
    cases oD
    · have od := HoD.out
      have e : winB f dph dpl dh dl cph cpl ch cl = false := by simp [winB, side, h2, od]
      have E := hide e; clear e od
      have hz := hB.size
      go_wp2_with fail
      go_meet
      exact ⟨by rw [E.out] <;> (simp; omega), ra, rn, rx, hB⟩
    have od := HoD.out
    by_cases hcA : cmp (pH dph dpl dh dl) (pL dph dpl dh dl) ch cl ≤ 0
    · skip
      rcases Bool.eq_false_or_eq_true (bits .and .i64 f 4 == 0) with h4 | h4
      · skip
        have e : winB f dph dpl dh dl cph cpl ch cl = true := by simp [winB, side, h2, od, hcA, h4]
        have E := hide e; clear e od
        have hz := hB.size
        go_wp2_with fail
        refine (compare_any _ _ _ _ _).mono ?_
        rintro e U1 ⟨rfl, hb1⟩
        have n_ra := ra.below hb1 ra.lt
        have n_rn := rn.below hb1 rn.lt
        have n_rx := rx.below hb1 rx.lt
        have n_rd := rd.below hb1 rd.lt
        have n_rc := rc.below hb1 rc.lt
        have n_hB := hB.trans (hb1.mono hB.size)
        clear c3 c6 c7 c10 c11 d0 d1 k0 k1 hb1
        clear ra rn rx rd rc hB
        have ra := n_ra
        have rn := n_rn
        have rx := n_rx
        have rd := n_rd
        have rc := n_rc
        have hB := n_hB
        clear n_ra n_rn n_rx n_rd n_rc n_hB
        have c3 := (ra.cell 3).trans HAC.out.k3
        have c6 := (ra.cell 6).trans HAC.out.k6
        have c7 := (ra.cell 7).trans HAC.out.k7
        have c10 := (ra.cell 10).trans HAC.out.k10
        have c11 := (ra.cell 11).trans HAC.out.k11
        have d0 := (rd.cell 0).trans (rfl : (#[.int .u64 (pH dph dpl dh dl), .int .u64 (pL dph dpl dh dl)] : Array Value)[0]? = some (.int .u64 (pH dph dpl dh dl)))
        have d1 := (rd.cell 1).trans (rfl : (#[.int .u64 (pH dph dpl dh dl), .int .u64 (pL dph dpl dh dl)] : Array Value)[1]? = some (.int .u64 (pL dph dpl dh dl)))
        have k0 := (rc.cell 0).trans (rfl : (#[.int .u64 (pH cph cpl ch cl), .int .u64 (pL cph cpl ch cl)] : Array Value)[0]? = some (.int .u64 (pH cph cpl ch cl)))
        have k1 := (rc.cell 1).trans (rfl : (#[.int .u64 (pH cph cpl ch cl), .int .u64 (pL cph cpl ch cl)] : Array Value)[1]? = some (.int .u64 (pL cph cpl ch cl)))
        go_wp2_with fail
        go_meet
        exact ⟨by rw [E.out] <;> (simp; omega), ra, rn, rx, hB⟩
      cases oC
      · have oc := HoC.out
        have e : winB f dph dpl dh dl cph cpl ch cl = false := by simp [winB, side, h2, od, hcA, h4, oc]
        have E := hide e; clear e oc od
        have hz := hB.size
        go_wp2_with fail
        refine (compare_any _ _ _ _ _).mono ?_
        rintro e U1 ⟨rfl, hb1⟩
        have n_ra := ra.below hb1 ra.lt
        have n_rn := rn.below hb1 rn.lt
        have n_rx := rx.below hb1 rx.lt
        have n_rd := rd.below hb1 rd.lt
        have n_rc := rc.below hb1 rc.lt
        have n_hB := hB.trans (hb1.mono hB.size)
        clear c3 c6 c7 c10 c11 d0 d1 k0 k1 hb1
        clear ra rn rx rd rc hB
        have ra := n_ra
        have rn := n_rn
        have rx := n_rx
        have rd := n_rd
        have rc := n_rc
        have hB := n_hB
        clear n_ra n_rn n_rx n_rd n_rc n_hB
        have c3 := (ra.cell 3).trans HAC.out.k3
        have c6 := (ra.cell 6).trans HAC.out.k6
        have c7 := (ra.cell 7).trans HAC.out.k7
        have c10 := (ra.cell 10).trans HAC.out.k10
        have c11 := (ra.cell 11).trans HAC.out.k11
        have d0 := (rd.cell 0).trans (rfl : (#[.int .u64 (pH dph dpl dh dl), .int .u64 (pL dph dpl dh dl)] : Array Value)[0]? = some (.int .u64 (pH dph dpl dh dl)))
        have d1 := (rd.cell 1).trans (rfl : (#[.int .u64 (pH dph dpl dh dl), .int .u64 (pL dph dpl dh dl)] : Array Value)[1]? = some (.int .u64 (pL dph dpl dh dl)))
        have k0 := (rc.cell 0).trans (rfl : (#[.int .u64 (pH cph cpl ch cl), .int .u64 (pL cph cpl ch cl)] : Array Value)[0]? = some (.int .u64 (pH cph cpl ch cl)))
        have k1 := (rc.cell 1).trans (rfl : (#[.int .u64 (pH cph cpl ch cl), .int .u64 (pL cph cpl ch cl)] : Array Value)[1]? = some (.int .u64 (pL cph cpl ch cl)))
        go_wp2_with fail
        go_meet
        exact ⟨by rw [E.out] <;> (simp; omega), ra, rn, rx, hB⟩
      have oc := HoC.out
      by_cases hcB : cmp (pH cph cpl ch cl) (pL cph cpl ch cl) dh dl ≤ 0
      · skip
        have e : winB f dph dpl dh dl cph cpl ch cl = true := by simp [winB, side, h2, od, hcA, h4, oc, hcB]
        have E := hide e; clear e oc od
        have hz := hB.size
        go_wp2_with fail
        refine (compare_any _ _ _ _ _).mono ?_
        rintro e U1 ⟨rfl, hb1⟩
        have n_ra := ra.below hb1 ra.lt
        have n_rn := rn.below hb1 rn.lt
        have n_rx := rx.below hb1 rx.lt
        have n_rd := rd.below hb1 rd.lt
        have n_rc := rc.below hb1 rc.lt
        have n_hB := hB.trans (hb1.mono hB.size)
        clear c3 c6 c7 c10 c11 d0 d1 k0 k1 hb1
        clear ra rn rx rd rc hB
        have ra := n_ra
        have rn := n_rn
        have rx := n_rx
        have rd := n_rd
        have rc := n_rc
        have hB := n_hB
        clear n_ra n_rn n_rx n_rd n_rc n_hB
        have c3 := (ra.cell 3).trans HAC.out.k3
        have c6 := (ra.cell 6).trans HAC.out.k6
        have c7 := (ra.cell 7).trans HAC.out.k7
        have c10 := (ra.cell 10).trans HAC.out.k10
        have c11 := (ra.cell 11).trans HAC.out.k11
        have d0 := (rd.cell 0).trans (rfl : (#[.int .u64 (pH dph dpl dh dl), .int .u64 (pL dph dpl dh dl)] : Array Value)[0]? = some (.int .u64 (pH dph dpl dh dl)))
        have d1 := (rd.cell 1).trans (rfl : (#[.int .u64 (pH dph dpl dh dl), .int .u64 (pL dph dpl dh dl)] : Array Value)[1]? = some (.int .u64 (pL dph dpl dh dl)))
        have k0 := (rc.cell 0).trans (rfl : (#[.int .u64 (pH cph cpl ch cl), .int .u64 (pL cph cpl ch cl)] : Array Value)[0]? = some (.int .u64 (pH cph cpl ch cl)))
        have k1 := (rc.cell 1).trans (rfl : (#[.int .u64 (pH cph cpl ch cl), .int .u64 (pL cph cpl ch cl)] : Array Value)[1]? = some (.int .u64 (pL cph cpl ch cl)))
        go_wp2_with fail
        refine (compare_any _ _ _ _ _).mono ?_
        rintro e U2 ⟨rfl, hb2⟩
        have n_ra := ra.below hb2 ra.lt
        have n_rn := rn.below hb2 rn.lt
        have n_rx := rx.below hb2 rx.lt
        have n_rd := rd.below hb2 rd.lt
        have n_rc := rc.below hb2 rc.lt
        have n_hB := hB.trans (hb2.mono hB.size)
        clear c3 c6 c7 c10 c11 d0 d1 k0 k1 hb2
        clear ra rn rx rd rc hB
        have ra := n_ra
        have rn := n_rn
        have rx := n_rx
        have rd := n_rd
        have rc := n_rc
        have hB := n_hB
        clear n_ra n_rn n_rx n_rd n_rc n_hB
        have c3 := (ra.cell 3).trans HAC.out.k3
        have c6 := (ra.cell 6).trans HAC.out.k6
        have c7 := (ra.cell 7).trans HAC.out.k7
        have c10 := (ra.cell 10).trans HAC.out.k10
        have c11 := (ra.cell 11).trans HAC.out.k11
        have d0 := (rd.cell 0).trans (rfl : (#[.int .u64 (pH dph dpl dh dl), .int .u64 (pL dph dpl dh dl)] : Array Value)[0]? = some (.int .u64 (pH dph dpl dh dl)))
        have d1 := (rd.cell 1).trans (rfl : (#[.int .u64 (pH dph dpl dh dl), .int .u64 (pL dph dpl dh dl)] : Array Value)[1]? = some (.int .u64 (pL dph dpl dh dl)))
        have k0 := (rc.cell 0).trans (rfl : (#[.int .u64 (pH cph cpl ch cl), .int .u64 (pL cph cpl ch cl)] : Array Value)[0]? = some (.int .u64 (pH cph cpl ch cl)))
        have k1 := (rc.cell 1).trans (rfl : (#[.int .u64 (pH cph cpl ch cl), .int .u64 (pL cph cpl ch cl)] : Array Value)[1]? = some (.int .u64 (pL cph cpl ch cl)))
        go_wp2_with fail
        go_meet
        exact ⟨by rw [E.out] <;> (simp; omega), ra, rn, rx, hB⟩
      · skip
        have e : winB f dph dpl dh dl cph cpl ch cl = false := by simp [winB, side, h2, od, hcA, h4, oc, hcB]
        have E := hide e; clear e oc od
        have hz := hB.size
        go_wp2_with fail
        refine (compare_any _ _ _ _ _).mono ?_
        rintro e U1 ⟨rfl, hb1⟩
        have n_ra := ra.below hb1 ra.lt
        have n_rn := rn.below hb1 rn.lt
        have n_rx := rx.below hb1 rx.lt
        have n_rd := rd.below hb1 rd.lt
        have n_rc := rc.below hb1 rc.lt
        have n_hB := hB.trans (hb1.mono hB.size)
        clear c3 c6 c7 c10 c11 d0 d1 k0 k1 hb1
        clear ra rn rx rd rc hB
        have ra := n_ra
        have rn := n_rn
        have rx := n_rx
        have rd := n_rd
        have rc := n_rc
        have hB := n_hB
        clear n_ra n_rn n_rx n_rd n_rc n_hB
        have c3 := (ra.cell 3).trans HAC.out.k3
        have c6 := (ra.cell 6).trans HAC.out.k6
        have c7 := (ra.cell 7).trans HAC.out.k7
        have c10 := (ra.cell 10).trans HAC.out.k10
        have c11 := (ra.cell 11).trans HAC.out.k11
        have d0 := (rd.cell 0).trans (rfl : (#[.int .u64 (pH dph dpl dh dl), .int .u64 (pL dph dpl dh dl)] : Array Value)[0]? = some (.int .u64 (pH dph dpl dh dl)))
        have d1 := (rd.cell 1).trans (rfl : (#[.int .u64 (pH dph dpl dh dl), .int .u64 (pL dph dpl dh dl)] : Array Value)[1]? = some (.int .u64 (pL dph dpl dh dl)))
        have k0 := (rc.cell 0).trans (rfl : (#[.int .u64 (pH cph cpl ch cl), .int .u64 (pL cph cpl ch cl)] : Array Value)[0]? = some (.int .u64 (pH cph cpl ch cl)))
        have k1 := (rc.cell 1).trans (rfl : (#[.int .u64 (pH cph cpl ch cl), .int .u64 (pL cph cpl ch cl)] : Array Value)[1]? = some (.int .u64 (pL cph cpl ch cl)))
        go_wp2_with fail
        refine (compare_any _ _ _ _ _).mono ?_
        rintro e U2 ⟨rfl, hb2⟩
        have n_ra := ra.below hb2 ra.lt
        have n_rn := rn.below hb2 rn.lt
        have n_rx := rx.below hb2 rx.lt
        have n_rd := rd.below hb2 rd.lt
        have n_rc := rc.below hb2 rc.lt
        have n_hB := hB.trans (hb2.mono hB.size)
        clear c3 c6 c7 c10 c11 d0 d1 k0 k1 hb2
        clear ra rn rx rd rc hB
        have ra := n_ra
        have rn := n_rn
        have rx := n_rx
        have rd := n_rd
        have rc := n_rc
        have hB := n_hB
        clear n_ra n_rn n_rx n_rd n_rc n_hB
        have c3 := (ra.cell 3).trans HAC.out.k3
        have c6 := (ra.cell 6).trans HAC.out.k6
        have c7 := (ra.cell 7).trans HAC.out.k7
        have c10 := (ra.cell 10).trans HAC.out.k10
        have c11 := (ra.cell 11).trans HAC.out.k11
        have d0 := (rd.cell 0).trans (rfl : (#[.int .u64 (pH dph dpl dh dl), .int .u64 (pL dph dpl dh dl)] : Array Value)[0]? = some (.int .u64 (pH dph dpl dh dl)))
        have d1 := (rd.cell 1).trans (rfl : (#[.int .u64 (pH dph dpl dh dl), .int .u64 (pL dph dpl dh dl)] : Array Value)[1]? = some (.int .u64 (pL dph dpl dh dl)))
        have k0 := (rc.cell 0).trans (rfl : (#[.int .u64 (pH cph cpl ch cl), .int .u64 (pL cph cpl ch cl)] : Array Value)[0]? = some (.int .u64 (pH cph cpl ch cl)))
        have k1 := (rc.cell 1).trans (rfl : (#[.int .u64 (pH cph cpl ch cl), .int .u64 (pL cph cpl ch cl)] : Array Value)[1]? = some (.int .u64 (pL cph cpl ch cl)))
        go_wp2_with fail
        go_meet
        exact ⟨by rw [E.out] <;> (simp; omega), ra, rn, rx, hB⟩
    · skip
      have e : winB f dph dpl dh dl cph cpl ch cl = false := by simp [winB, side, h2, od, hcA]
      have E := hide e; clear e od
      have hz := hB.size
      go_wp2_with fail
      refine (compare_any _ _ _ _ _).mono ?_
      rintro e U1 ⟨rfl, hb1⟩
      have n_ra := ra.below hb1 ra.lt
      have n_rn := rn.below hb1 rn.lt
      have n_rx := rx.below hb1 rx.lt
      have n_rd := rd.below hb1 rd.lt
      have n_rc := rc.below hb1 rc.lt
      have n_hB := hB.trans (hb1.mono hB.size)
      clear c3 c6 c7 c10 c11 d0 d1 k0 k1 hb1
      clear ra rn rx rd rc hB
      have ra := n_ra
      have rn := n_rn
      have rx := n_rx
      have rd := n_rd
      have rc := n_rc
      have hB := n_hB
      clear n_ra n_rn n_rx n_rd n_rc n_hB
      have c3 := (ra.cell 3).trans HAC.out.k3
      have c6 := (ra.cell 6).trans HAC.out.k6
      have c7 := (ra.cell 7).trans HAC.out.k7
      have c10 := (ra.cell 10).trans HAC.out.k10
      have c11 := (ra.cell 11).trans HAC.out.k11
      have d0 := (rd.cell 0).trans (rfl : (#[.int .u64 (pH dph dpl dh dl), .int .u64 (pL dph dpl dh dl)] : Array Value)[0]? = some (.int .u64 (pH dph dpl dh dl)))
      have d1 := (rd.cell 1).trans (rfl : (#[.int .u64 (pH dph dpl dh dl), .int .u64 (pL dph dpl dh dl)] : Array Value)[1]? = some (.int .u64 (pL dph dpl dh dl)))
      have k0 := (rc.cell 0).trans (rfl : (#[.int .u64 (pH cph cpl ch cl), .int .u64 (pL cph cpl ch cl)] : Array Value)[0]? = some (.int .u64 (pH cph cpl ch cl)))
      have k1 := (rc.cell 1).trans (rfl : (#[.int .u64 (pH cph cpl ch cl), .int .u64 (pL cph cpl ch cl)] : Array Value)[1]? = some (.int .u64 (pL cph cpl ch cl)))
      go_wp2_with fail
      go_meet
      exact ⟨by rw [E.out] <;> (simp; omega), ra, rn, rx, hB⟩
  clear ra rn rd rc rx ry hB
  obtain ⟨rfl, ra, rn, rx, hB⟩ := hcut
  generalize hwi : winB f dph dpl dh dl cph cpl ch cl = wi
  have Hwi := hide hwi; clear hwi
  go_upto_region 14 with fail
  go_cut [98] (fun s wx => s = .bool false ∧ Row wx w.heap.size 39 cs ∧ Row wx (w.heap.size + 1) 24 #[.int .u64 nh, .int .u64 nl] ∧ Row wx gx 24 #[.int .u64 (qH ch cl (mH dph dpl dh dl) (mL dph dpl dh dl)), .int .u64 (qL ch cl (mH dph dpl dh dl) (mL dph dpl dh dl))] ∧ Below w.heap.size w wx)
  case first =>
    go_wp2_with (first | (refine load_A ra rfl rfl rfl HAC.out.size ?_) | fail)
    refine (within_any cs f dph dpl dh dl cph cpl ch cl HAC.out _).mono ?_
    rintro e U ⟨rfl, hb⟩
    rw [Hwi.out]
    have n_ra := ra.below hb ra.lt
    have n_rn := rn.below hb rn.lt
    have n_rx := rx.below hb rx.lt
    have n_hB := hB.trans (hb.mono hB.size)
    clear hb
    clear ra rn rx hB
    have ra := n_ra
    have rn := n_rn
    have rx := n_rx
    have hB := n_hB
    clear n_ra n_rn n_rx n_hB
    cases wi
    all_goals
      go_wp2_with fail
      go_meet
      exact ⟨rfl, ra, rn, rx, hB⟩
  clear ra rn rx hB
  obtain ⟨rfl, ra, rn, rx, hB⟩ := hcut
  have c3 := (ra.cell 3).trans HAC.out.k3
  rcases Bool.eq_false_or_eq_true (bits .and .i64 f 6 == 2) with h6 | h6
  rotate_left
  · go_wp2
    go_ret
    exact ⟨rfl, hB⟩
  cases wi
  · go_wp2
    go_ret
    exact ⟨rfl, hB⟩
  have hl := fun h => rooms_last (f := f) (nh := nh) (nl := nl) (cph := cph) (cpl := cpl) ⟨HAC.out.b4, HAC.out.b5⟩ ⟨HAC.out.b6, HAC.out.b7⟩ ⟨HAC.out.b10, HAC.out.b11⟩ NW.out h6 Hwi.out h
  have HL := hide hl; clear hl
  have hge := hB.size
  go_upto_region 18 with (first | (refine load_A ra rfl rfl rfl HAC.out.size ?_) | (refine store_A rfl rfl rfl rfl HAC.out.size rfl hone ?_; (try simp only [Act.put, List.setIfInBounds_toArray, List.set_cons_zero, List.set_cons_succ])) | fail)
  have n_ra := ra.alloc (.cells cs 39)
  have ne_ra_rb := Nat.ne_of_lt ra.lt
  have n_rn := rn.alloc (.cells cs 39)
  have ne_rn_rb := Nat.ne_of_lt rn.lt
  have n_rx := rx.alloc (.cells cs 39)
  have ne_rx_rb := Nat.ne_of_lt rx.lt
  have rb := Row.new wc 39 cs
  have n_hB := hB.alloc hge (.cells cs 39)
  clear c3
  clear ra rn rx hB
  have ra := n_ra
  have rn := n_rn
  have rx := n_rx
  have hB := n_hB
  clear n_ra n_rn n_rx n_hB
  generalize wc.alloc (.cells cs 39) = C1 at ra rn rx rb hB ⊢
  generalize wc.heap.size = gB at rb hge ne_ra_rb ne_rn_rb ne_rx_rb ⊢
  go_cut [6, 107] (fun s6 _ wx => s6 = .bool (pO dph dpl nh nl) ∧ ∃ Vx : World, wx = (Vx.setCell ⟨gB, 4, none⟩ (.int .u64 (pH dph dpl nh nl))).setCell ⟨gB, 5, none⟩ (.int .u64 (pL dph dpl nh nl)) ∧ Row Vx gB 39 cs ∧ Row Vx (w.heap.size + 1) 24 #[.int .u64 nh, .int .u64 nl] ∧ Row Vx gx 24 #[.int .u64 (qH ch cl (mH dph dpl dh dl) (mL dph dpl dh dl)), .int .u64 (qL ch cl (mH dph dpl dh dl) (mL dph dpl dh dl))] ∧ Below w.heap.size w Vx)
  case first =>
    have c4 := (ra.cell 4).trans HAC.out.k4
    have c5 := (ra.cell 5).trans HAC.out.k5
    have d0 := (rn.cell 0).trans (rfl : (#[.int .u64 nh, .int .u64 nl] : Array Value)[0]? = some (.int .u64 nh))
    have d1 := (rn.cell 1).trans (rfl : (#[.int .u64 nh, .int .u64 nl] : Array Value)[1]? = some (.int .u64 nl))
    have hlA := ra.lt
    have hlN := rn.lt
    go_wp2_with fail
    refine (add2_any dph dpl nh nl HAC.out.b4 HAC.out.b5 NW.out.1 NW.out.2 _ _ ⟨by simp [go_sem], by simp [go_sem], by simp [go_sem], by simp [go_sem]⟩).mono ?_
    rintro e U ⟨rfl, hb⟩
    have n_rb := (rb.alloc _).below hb (by have := rb.lt; simp; omega)
    have n_rn := (rn.alloc _).below hb (by have := rn.lt; simp; omega)
    have n_rx := (rx.alloc _).below hb (by have := rx.lt; simp; omega)
    have n_hB := (hB.alloc hB.size _).trans (hb.mono (by have := hB.size; simp; omega))
    clear hb ra c4 c5 d0 d1 hlA hlN
    clear rb rn rx hB
    have rb := n_rb
    have rn := n_rn
    have rx := n_rx
    have hB := n_hB
    clear n_rb n_rn n_rx n_hB
    have c4 := (rb.cell 4).trans HAC.out.k4
    have c5 := (rb.cell 5).trans HAC.out.k5
    have z4 := rb.frozen 4
    have z5 := rb.frozen 5
    go_wp2_with fail
    go_meet
    exact ⟨rfl, U, rfl, rb, rn, rx, hB⟩
  clear ra rn rx rb hB
  obtain ⟨rfl, Vx, rfl, rb0, rn0, rx0, hB0⟩ := hcut
  have rb := (rb0.set_ 4 (.int .u64 (pH dph dpl nh nl))).set_ 5 (.int .u64 (pL dph dpl nh nl))
  have rn := (rn0.far (p := ⟨gB, 4, none⟩) ne_rn_rb (.int .u64 (pH dph dpl nh nl))).far (p := ⟨gB, 5, none⟩) ne_rn_rb (.int .u64 (pL dph dpl nh nl))
  have rx := (rx0.far (p := ⟨gB, 4, none⟩) ne_rx_rb (.int .u64 (pH dph dpl nh nl))).far (p := ⟨gB, 5, none⟩) ne_rx_rb (.int .u64 (pL dph dpl nh nl))
  have hB := (hB0.setCell (p := ⟨gB, 4, none⟩) hge (.int .u64 (pH dph dpl nh nl))).setCell (p := ⟨gB, 5, none⟩) hge (.int .u64 (pL dph dpl nh nl))
  have ac := HAC.out.pending (p_spec dph dpl nh nl ⟨HAC.out.b4, HAC.out.b5⟩ NW.out).1
  clear rb0 rn0 rx0 hB0 HAC
  generalize (Vx.setCell ⟨gB, 4, none⟩ (.int .u64 (pH dph dpl nh nl))).setCell ⟨gB, 5, none⟩ (.int .u64 (pL dph dpl nh nl)) = D1 at rb rn rx hB ⊢
  generalize (cs.setIfInBounds 4 (.int .u64 (pH dph dpl nh nl))).setIfInBounds 5 (.int .u64 (pL dph dpl nh nl)) = bs at rb ac
  have HAC := hide ac; clear ac
  generalize hoN : pO dph dpl nh nl = oN
  have HoN := hide hoN; clear hoN
  cases oN
  · go_wp2
    go_ret
    exact ⟨rfl, hB⟩
  have e := HL.out HoN.out
  have E := hide e; clear e
  go_upto_region 20 with fail
  have n_rb := rb.drew
  have n_rn := rn.drew
  have n_rx := rx.drew
  have n_hB := hB.drew
  refine wp_region_held_drew (S := fun w' => Row w' gB 39 bs ∧ w'.cell? ⟨(w.heap.size + 1), 0, none⟩ = some (.int .u64 nh) ∧ w'.cell? ⟨(w.heap.size + 1), 1, none⟩ = some (.int .u64 nl) ∧ w'.cell? ⟨gx, 0, none⟩ = some (.int .u64 (qH ch cl (mH dph dpl dh dl) (mL dph dpl dh dl))) ∧ w'.cell? ⟨gx, 1, none⟩ = some (.int .u64 (qL ch cl (mH dph dpl dh dl) (mL dph dpl dh dl)))) (by kernel_rfl) ?_ (fun hHeld => ?_)
  · exact ⟨rb, (rn.cell 0).trans rfl, (rn.cell 1).trans rfl, (rx.cell 0).trans rfl, (rx.cell 1).trans rfl⟩
  clear rb rn rx hB
  have rb := n_rb
  have rn := n_rn
  have rx := n_rx
  have hB := n_hB
  clear n_rb n_rn n_rx n_hB
  generalize D1.drew = D2 at hHeld rb rn rx hB ⊢
  refine take_yes (i := 0) (v := .agg bs) (some 117) rfl rfl (by kernel_rfl) (by kernel_rfl) (by kernel_rfl) (fun _ _ _ h => h) (by rfl) hHeld (fun _ hSw => exec_A hSw.1 rfl rfl HAC.out.size) ?_
  (try simp only [Act.put, List.setIfInBounds_toArray, List.set_cons_zero, List.set_cons_succ])
  refine take_yes (i := 2) (v := ?_) (some 119) rfl rfl (by kernel_rfl) (by kernel_rfl) (by kernel_rfl) (fun _ _ _ h => h) (by rfl) hHeld ?_ ?_
  rotate_left
  · intro w hSw; (try dsimp only at hSw); obtain ⟨_, hSw⟩ := hSw; go_simp; (try with_reducible rfl)
  (try simp only [Act.put, List.setIfInBounds_toArray, List.set_cons_zero, List.set_cons_succ])
  refine take_yes (i := 3) (v := ?_) (some 120) rfl rfl (by kernel_rfl) (by kernel_rfl) (by kernel_rfl) (fun _ _ _ h => h) (by rfl) hHeld ?_ ?_
  rotate_left
  · intro w hSw; (try dsimp only at hSw); obtain ⟨_, hSw⟩ := hSw; go_simp; (try with_reducible rfl)
  (try simp only [Act.put, List.setIfInBounds_toArray, List.set_cons_zero, List.set_cons_succ])
  refine wpAnyH_ready (rs := [1]) (by kernel_rfl) (by simp) ?_
  refine AllReadyH.cons rfl (fun K hK => ?_) AllReadyH.nil
  go_simp
  go_at_call 19
  refine (within_any bs f (pH dph dpl nh nl) (pL dph dpl nh nl) dh dl cph cpl ch cl HAC.out _).mono ?_
  rintro e D3 ⟨rfl, hb⟩
  have n_rb := rb.below hb rb.lt
  have n_rn := rn.below hb rn.lt
  have n_rx := rx.below hb rx.lt
  have n_hB := hB.trans (hb.mono hB.size)
  clear hb
  clear rb rn rx hB
  have rb := n_rb
  have rn := n_rn
  have rx := n_rx
  have hB := n_hB
  clear n_rb n_rn n_rx n_hB
  refine hK.out _ _ ⟨rb, (rn.cell 0).trans rfl, (rn.cell 1).trans rfl, (rx.cell 0).trans rfl, (rx.cell 1).trans rfl⟩ (fun hHeld2 => ?_)
  clear hHeld hK K
  have hHeld := hHeld2
  clear hHeld2
  (try simp only [Act.put, List.setIfInBounds_toArray, List.set_cons_zero, List.set_cons_succ])
  refine wpAnyH_ready (rs := [4]) (by kernel_rfl) (by simp) ?_
  refine AllReadyH.cons rfl (fun K hK => ?_) AllReadyH.nil
  go_simp
  go_at_call 18
  refine (compare_any _ _ _ _ _).mono ?_
  rintro e D4 ⟨rfl, hb⟩
  have n_rb := rb.below hb rb.lt
  have n_rn := rn.below hb rn.lt
  have n_rx := rx.below hb rx.lt
  have n_hB := hB.trans (hb.mono hB.size)
  clear hb
  clear rb rn rx hB
  have rb := n_rb
  have rn := n_rn
  have rx := n_rx
  have hB := n_hB
  clear n_rb n_rn n_rx n_hB
  refine hK.out _ _ ⟨rb, (rn.cell 0).trans rfl, (rn.cell 1).trans rfl, (rx.cell 0).trans rfl, (rx.cell 1).trans rfl⟩ (fun hHeld2 => ?_)
  clear hHeld hK K
  have hHeld := hHeld2
  clear hHeld2
  (try simp only [Act.put, List.setIfInBounds_toArray, List.set_cons_zero, List.set_cons_succ])
  refine take_yes (i := 5) (v := ?_) (some 122) rfl rfl (by kernel_rfl) (by kernel_rfl) (by kernel_rfl) (fun _ _ _ h => h) (by rfl) hHeld ?_ ?_
  rotate_left
  · intro w hSw; (try dsimp only at hSw); obtain ⟨_, hSw⟩ := hSw; go_simp; (try with_reducible rfl)
  (try simp only [Act.put, List.setIfInBounds_toArray, List.set_cons_zero, List.set_cons_succ])
  refine take_yes (i := 6) (v := ?_) (some 123) rfl rfl (by kernel_rfl) (by kernel_rfl) (by kernel_rfl) (fun _ _ _ h => h) (by rfl) hHeld ?_ ?_
  rotate_left
  · intro w hSw; (try dsimp only at hSw); obtain ⟨_, hSw⟩ := hSw; go_simp; (try with_reducible rfl)
  (try simp only [Act.put, List.setIfInBounds_toArray, List.set_cons_zero, List.set_cons_succ])
  refine take_yes (i := 7) (v := ?_) (some 4) rfl rfl (by kernel_rfl) (by kernel_rfl) (by kernel_rfl) (fun _ _ _ h => h) (by rfl) hHeld ?_ ?_
  rotate_left
  · intro w hSw; (try dsimp only at hSw); obtain ⟨_, hSw⟩ := hSw; go_simp; (try with_reducible rfl)
  (try simp only [Act.put, List.setIfInBounds_toArray, List.set_cons_zero, List.set_cons_succ])
  refine wpAnyH_done (by kernel_rfl) ?_ _
  go_wp2
  go_ret
  exact ⟨by rw [E.out]; simp, hB⟩
end Go.Proofs.Ytedejbanhhonbaa
