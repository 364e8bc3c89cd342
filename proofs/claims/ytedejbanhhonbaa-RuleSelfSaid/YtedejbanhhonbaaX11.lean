/- The walk of the law RuleSelf: it returns true at whatever transfer and account. -/
import Derived.Test.YtedejbanhhonbaaX3
import Derived.Test.YtedejbanhhonbaaX7
import Derived.Test.YtedejbanhhonbaaX10
import Derived.Test.YtedejbanhhonbaaA3
import Derived.Test.YtedejbanhhonbaaB1
import Derived.Deep.DeepCutAuto
namespace Go.Proofs.Ytedejbanhhonbaa
open Go.RowKit
attribute [local go_sem high] eqNum

set_option maxRecDepth 100000 in
set_option maxHeartbeats 4000000 in
/-- RuleSelf, walked. -/
theorem self_walk (h0 h1 h2 h3 h4 h5 h6 h7 h8 h9 h10 h11 h12 h13 h14 h15 : Int) (cs : Array Value) (l f n : Int) (hs : cs.size = 46) (k2 : cs[2]? = some (.int .i64 l)) (k3 : cs[3]? = some (.int .i64 f)) (k13 : cs[13]? = some (.int .i64 n))
    (hone : cs.all (·.oneCell') = true) (w : World) :
    Calls Try.prog 6 #[.agg #[.int .u64 h0, .int .u64 h1, .int .u64 h2, .int .u64 h3, .int .u64 h4, .int .u64 h5, .int .u64 h6, .int .u64 h7, .int .u64 h8, .int .u64 h9, .int .i64 h10, .int .i64 h11, .int .i64 h12, .int .i64 h13, .int .i64 h14, .int .i64 h15], .agg cs] w fun e w' => e = .returned (.bool true) ∧ Below w.heap.size w w' := by
  go_enter Try.func6, Try.ntmps6
  go_wp2_with fail
  refine (fit_any _).mono ?_
  rintro e w1 ⟨rfl, hb1⟩
  have bt : Row w1 w.heap.size 26 #[.int .u64 h0, .int .u64 h1, .int .u64 h2, .int .u64 h3, .int .u64 h4, .int .u64 h5, .int .u64 h6, .int .u64 h7, .int .u64 h8, .int .u64 h9, .int .i64 h10, .int .i64 h11, .int .i64 h12, .int .i64 h13, .int .i64 h14, .int .i64 h15] := (((Row.new w 26 _).alloc _).below hb1 (by simp; omega))
  have ba : Row w1 (w.heap.size + 1) 39 cs := by
    have h := Row.new (w.alloc (.cells #[.int .u64 h0, .int .u64 h1, .int .u64 h2, .int .u64 h3, .int .u64 h4, .int .u64 h5, .int .u64 h6, .int .u64 h7, .int .u64 h8, .int .u64 h9, .int .i64 h10, .int .i64 h11, .int .i64 h12, .int .i64 h13, .int .i64 h14, .int .i64 h15] 26)) 39 cs
    simp only [World.size_alloc] at h
    exact h.below hb1 (by simp)
  have BT := hide bt; have BA := hide ba; clear bt ba
  have hlt : w.heap.size + 1 < w1.heap.size := by have := hb1.size; simp at this; omega
  have hbw : Below w.heap.size w w1 := (((Below.refl _ _).alloc (Nat.le_refl _) _).alloc (by simp) _).trans (hb1.mono (by simp; omega))
  have hbz := hbw.size
  clear hb1
  go_upto_region 3 with fail
  go_cut [5, 6] (fun s5 s6 wx => ∃ g5 g6 : Nat, s5 = .pointer (some ⟨g5, 0, none⟩) ∧ s6 = .pointer (some ⟨g6, 0, none⟩) ∧ g5 ≠ g6 ∧ w1.heap.size ≤ g5 ∧ w1.heap.size ≤ g6 ∧
    Row wx g5 26 #[.int .u64 h0, .int .u64 h1, .int .u64 h2, .int .u64 h3, .int .u64 h4, .int .u64 h5, .int .u64 h6, .int .u64 h7, .int .u64 h8, .int .u64 h9, .int .i64 h10, .int .i64 h11, .int .i64 h12, .int .i64 h13, .int .i64 h14, .int .i64 h15] ∧ Row wx g6 39 cs ∧ Row wx w.heap.size 26 #[.int .u64 h0, .int .u64 h1, .int .u64 h2, .int .u64 h3, .int .u64 h4, .int .u64 h5, .int .u64 h6, .int .u64 h7, .int .u64 h8, .int .u64 h9, .int .i64 h10, .int .i64 h11, .int .i64 h12, .int .i64 h13, .int .i64 h14, .int .i64 h15] ∧ Row wx (w.heap.size + 1) 39 cs ∧ Below w.heap.size w wx)
  case first =>
    refine wp_region_held_drew (S := fun w' => Row w' w.heap.size 26 #[.int .u64 h0, .int .u64 h1, .int .u64 h2, .int .u64 h3, .int .u64 h4, .int .u64 h5, .int .u64 h6, .int .u64 h7, .int .u64 h8, .int .u64 h9, .int .i64 h10, .int .i64 h11, .int .i64 h12, .int .i64 h13, .int .i64 h14, .int .i64 h15] ∧ Row w' (w.heap.size + 1) 39 cs) (by kernel_rfl) ?_ (fun hHeld => ?_)
    · exact ⟨BT.out, BA.out⟩
    refine take_yes (i := 0) (v := .agg #[.int .u64 h0, .int .u64 h1, .int .u64 h2, .int .u64 h3, .int .u64 h4, .int .u64 h5, .int .u64 h6, .int .u64 h7, .int .u64 h8, .int .u64 h9, .int .i64 h10, .int .i64 h11, .int .i64 h12, .int .i64 h13, .int .i64 h14, .int .i64 h15]) (some 9) rfl rfl (by kernel_rfl) (by kernel_rfl) (by kernel_rfl) (fun _ _ _ h => h) (by rfl) hHeld (fun _ hSw => exec_T hSw.1 rfl rfl rfl) ?_
    simp only [Act.put, List.setIfInBounds_toArray, List.set_cons_zero, List.set_cons_succ]
    refine take_yes (i := 1) (v := .agg cs) (some 10) rfl rfl (by kernel_rfl) (by kernel_rfl) (by kernel_rfl) (fun _ _ _ h => h) (by rfl) hHeld (fun _ hSw => exec_A hSw.2 rfl rfl hs) ?_
    simp only [Act.put, List.setIfInBounds_toArray, List.set_cons_zero, List.set_cons_succ]
    refine wpAnyH_ready (rs := [2, 3]) (by kernel_rfl) (by simp) ?_
    refine AllReadyH.cons rfl (fun K hK => ?_) ?_
    · skip
      go_simp
      refine hK.out _ _ ⟨(BT.out.alloc _).drew, (BA.out.alloc _).drew⟩ (fun hHeld2 => ?_)
      clear hHeld hK K
      have hHeld := hHeld2
      clear hHeld2
      (try simp only [Act.put, List.setIfInBounds_toArray, List.set_cons_zero, List.set_cons_succ])
      refine wpAnyH_ready (rs := [3]) (by kernel_rfl) (by simp) ?_
      refine AllReadyH.cons rfl (fun K hK => ?_) AllReadyH.nil
      go_simp
      refine hK.out _ _ ⟨((BT.out.alloc _).alloc _).drew, ((BA.out.alloc _).alloc _).drew⟩ (fun hHeld2 => ?_)
      clear hHeld hK K
      have hHeld := hHeld2
      clear hHeld2
      (try simp only [Act.put, List.setIfInBounds_toArray, List.set_cons_zero, List.set_cons_succ])
      have z26 : Row (((w1.alloc (.cells #[.int .u64 0, .int .u64 0, .int .u64 0, .int .u64 0, .int .u64 0, .int .u64 0, .int .u64 0, .int .u64 0, .int .u64 0, .int .u64 0, .int .i64 0, .int .i64 0, .int .i64 0, .int .i64 0, .int .i64 0, .int .i64 0] 26)).alloc (.cells #[.int .u64 0, .int .u64 0, .int .i64 0, .int .i64 0, .int .u64 0, .int .u64 0, .int .u64 0, .int .u64 0, .int .u64 0, .int .u64 0, .int .u64 0, .int .u64 0, .int .i64 0, .int .i64 0, .int .u8 0, .int .u8 0, .int .u8 0, .int .u8 0, .int .u8 0, .int .u8 0, .int .u8 0, .int .u8 0, .int .u8 0, .int .u8 0, .int .u8 0, .int .u8 0, .int .u8 0, .int .u8 0, .int .u8 0, .int .u8 0, .int .u8 0, .int .u8 0, .int .u8 0, .int .u8 0, .int .u8 0, .int .u8 0, .int .u8 0, .int .u8 0, .int .u8 0, .int .u8 0, .int .u8 0, .int .u8 0, .int .u8 0, .int .u8 0, .int .u8 0, .int .u8 0] 39)).drew) w1.heap.size 26 #[.int .u64 0, .int .u64 0, .int .u64 0, .int .u64 0, .int .u64 0, .int .u64 0, .int .u64 0, .int .u64 0, .int .u64 0, .int .u64 0, .int .i64 0, .int .i64 0, .int .i64 0, .int .i64 0, .int .i64 0, .int .i64 0] := ((Row.new w1 26 _).alloc (.cells #[.int .u64 0, .int .u64 0, .int .i64 0, .int .i64 0, .int .u64 0, .int .u64 0, .int .u64 0, .int .u64 0, .int .u64 0, .int .u64 0, .int .u64 0, .int .u64 0, .int .i64 0, .int .i64 0, .int .u8 0, .int .u8 0, .int .u8 0, .int .u8 0, .int .u8 0, .int .u8 0, .int .u8 0, .int .u8 0, .int .u8 0, .int .u8 0, .int .u8 0, .int .u8 0, .int .u8 0, .int .u8 0, .int .u8 0, .int .u8 0, .int .u8 0, .int .u8 0, .int .u8 0, .int .u8 0, .int .u8 0, .int .u8 0, .int .u8 0, .int .u8 0, .int .u8 0, .int .u8 0, .int .u8 0, .int .u8 0, .int .u8 0, .int .u8 0, .int .u8 0, .int .u8 0] 39)).drew
      have z39 : Row (((w1.alloc (.cells #[.int .u64 0, .int .u64 0, .int .u64 0, .int .u64 0, .int .u64 0, .int .u64 0, .int .u64 0, .int .u64 0, .int .u64 0, .int .u64 0, .int .i64 0, .int .i64 0, .int .i64 0, .int .i64 0, .int .i64 0, .int .i64 0] 26)).alloc (.cells #[.int .u64 0, .int .u64 0, .int .i64 0, .int .i64 0, .int .u64 0, .int .u64 0, .int .u64 0, .int .u64 0, .int .u64 0, .int .u64 0, .int .u64 0, .int .u64 0, .int .i64 0, .int .i64 0, .int .u8 0, .int .u8 0, .int .u8 0, .int .u8 0, .int .u8 0, .int .u8 0, .int .u8 0, .int .u8 0, .int .u8 0, .int .u8 0, .int .u8 0, .int .u8 0, .int .u8 0, .int .u8 0, .int .u8 0, .int .u8 0, .int .u8 0, .int .u8 0, .int .u8 0, .int .u8 0, .int .u8 0, .int .u8 0, .int .u8 0, .int .u8 0, .int .u8 0, .int .u8 0, .int .u8 0, .int .u8 0, .int .u8 0, .int .u8 0, .int .u8 0, .int .u8 0] 39)).drew) (w1.heap.size + 1) 39 #[.int .u64 0, .int .u64 0, .int .i64 0, .int .i64 0, .int .u64 0, .int .u64 0, .int .u64 0, .int .u64 0, .int .u64 0, .int .u64 0, .int .u64 0, .int .u64 0, .int .i64 0, .int .i64 0, .int .u8 0, .int .u8 0, .int .u8 0, .int .u8 0, .int .u8 0, .int .u8 0, .int .u8 0, .int .u8 0, .int .u8 0, .int .u8 0, .int .u8 0, .int .u8 0, .int .u8 0, .int .u8 0, .int .u8 0, .int .u8 0, .int .u8 0, .int .u8 0, .int .u8 0, .int .u8 0, .int .u8 0, .int .u8 0, .int .u8 0, .int .u8 0, .int .u8 0, .int .u8 0, .int .u8 0, .int .u8 0, .int .u8 0, .int .u8 0, .int .u8 0, .int .u8 0] := by
        have h := Row.new (w1.alloc (.cells #[.int .u64 0, .int .u64 0, .int .u64 0, .int .u64 0, .int .u64 0, .int .u64 0, .int .u64 0, .int .u64 0, .int .u64 0, .int .u64 0, .int .i64 0, .int .i64 0, .int .i64 0, .int .i64 0, .int .i64 0, .int .i64 0] 26)) 39 #[.int .u64 0, .int .u64 0, .int .i64 0, .int .i64 0, .int .u64 0, .int .u64 0, .int .u64 0, .int .u64 0, .int .u64 0, .int .u64 0, .int .u64 0, .int .u64 0, .int .i64 0, .int .i64 0, .int .u8 0, .int .u8 0, .int .u8 0, .int .u8 0, .int .u8 0, .int .u8 0, .int .u8 0, .int .u8 0, .int .u8 0, .int .u8 0, .int .u8 0, .int .u8 0, .int .u8 0, .int .u8 0, .int .u8 0, .int .u8 0, .int .u8 0, .int .u8 0, .int .u8 0, .int .u8 0, .int .u8 0, .int .u8 0, .int .u8 0, .int .u8 0, .int .u8 0, .int .u8 0, .int .u8 0, .int .u8 0, .int .u8 0, .int .u8 0, .int .u8 0, .int .u8 0]
        simp only [World.size_alloc] at h
        exact h.drew
      refine wpAnyH_ready (rs := [4]) (by kernel_rfl) (by simp) ?_
      refine AllReadyH.cons rfl (fun K hK => ?_) AllReadyH.nil
      rw [if_pos (by rfl)]
      refine wp_store_row 26 _ _ rfl w1.heap.size #[.int .u64 h0, .int .u64 h1, .int .u64 h2, .int .u64 h3, .int .u64 h4, .int .u64 h5, .int .u64 h6, .int .u64 h7, .int .u64 h8, .int .u64 h9, .int .i64 h10, .int .i64 h11, .int .i64 h12, .int .i64 h13, .int .i64 h14, .int .i64 h15] rfl rfl 26 _ z26 (by rw [info26]; rfl) rfl (by simp [Value.oneCell']) ?_
      refine hK.out _ _ ⟨(((BT.out.alloc _).alloc _).drew).apart (by omega) _, (((BA.out.alloc _).alloc _).drew).apart (by omega) _⟩ (fun hHeld2 => ?_)
      clear hHeld hK K
      have hHeld := hHeld2
      clear hHeld2
      (try simp only [Act.put, List.setIfInBounds_toArray, List.set_cons_zero, List.set_cons_succ])
      refine wpAnyH_ready (rs := [5]) (by kernel_rfl) (by simp) ?_
      refine AllReadyH.cons rfl (fun K hK => ?_) AllReadyH.nil
      rw [if_pos (by rfl)]
      refine wp_store_row 39 _ _ rfl (w1.heap.size + 1) cs rfl rfl 39 _ (z39.apart (by omega) _) (by rw [info39, hs]) (by rw [hs]; rfl) hone ?_
      refine hK.out _ _ ⟨((((BT.out.alloc _).alloc _).drew).apart (by omega) _).apart (by omega) _, ((((BA.out.alloc _).alloc _).drew).apart (by omega) _).apart (by omega) _⟩ (fun hHeld2 => ?_)
      clear hHeld hK K
      have hHeld := hHeld2
      clear hHeld2
      (try simp only [Act.put, List.setIfInBounds_toArray, List.set_cons_zero, List.set_cons_succ])
      refine wpAnyH_done (by kernel_rfl) ?_ _
      go_wp2_with fail
      go_meet
      exact ⟨w1.heap.size, w1.heap.size + 1, rfl, rfl, by omega, by omega, by omega, (z26.whole _).apart (by omega) _, (z39.apart (by omega) _).whole _, hHeld.1, hHeld.2,
        below_setRow (below_setRow ((((hbw.alloc hbz _).alloc (by simp; omega) _)).drew) (by omega) _) (by omega) _⟩
    refine AllReadyH.cons rfl (fun K hK => ?_) AllReadyH.nil
    · skip
      go_simp
      refine hK.out _ _ ⟨(BT.out.alloc _).drew, (BA.out.alloc _).drew⟩ (fun hHeld2 => ?_)
      clear hHeld hK K
      have hHeld := hHeld2
      clear hHeld2
      (try simp only [Act.put, List.setIfInBounds_toArray, List.set_cons_zero, List.set_cons_succ])
      refine wpAnyH_ready (rs := [2]) (by kernel_rfl) (by simp) ?_
      refine AllReadyH.cons rfl (fun K hK => ?_) AllReadyH.nil
      go_simp
      refine hK.out _ _ ⟨((BT.out.alloc _).alloc _).drew, ((BA.out.alloc _).alloc _).drew⟩ (fun hHeld2 => ?_)
      clear hHeld hK K
      have hHeld := hHeld2
      clear hHeld2
      (try simp only [Act.put, List.setIfInBounds_toArray, List.set_cons_zero, List.set_cons_succ])
      have z26 : Row (((w1.alloc (.cells #[.int .u64 0, .int .u64 0, .int .i64 0, .int .i64 0, .int .u64 0, .int .u64 0, .int .u64 0, .int .u64 0, .int .u64 0, .int .u64 0, .int .u64 0, .int .u64 0, .int .i64 0, .int .i64 0, .int .u8 0, .int .u8 0, .int .u8 0, .int .u8 0, .int .u8 0, .int .u8 0, .int .u8 0, .int .u8 0, .int .u8 0, .int .u8 0, .int .u8 0, .int .u8 0, .int .u8 0, .int .u8 0, .int .u8 0, .int .u8 0, .int .u8 0, .int .u8 0, .int .u8 0, .int .u8 0, .int .u8 0, .int .u8 0, .int .u8 0, .int .u8 0, .int .u8 0, .int .u8 0, .int .u8 0, .int .u8 0, .int .u8 0, .int .u8 0, .int .u8 0, .int .u8 0] 39)).alloc (.cells #[.int .u64 0, .int .u64 0, .int .u64 0, .int .u64 0, .int .u64 0, .int .u64 0, .int .u64 0, .int .u64 0, .int .u64 0, .int .u64 0, .int .i64 0, .int .i64 0, .int .i64 0, .int .i64 0, .int .i64 0, .int .i64 0] 26)).drew) (w1.heap.size + 1) 26 #[.int .u64 0, .int .u64 0, .int .u64 0, .int .u64 0, .int .u64 0, .int .u64 0, .int .u64 0, .int .u64 0, .int .u64 0, .int .u64 0, .int .i64 0, .int .i64 0, .int .i64 0, .int .i64 0, .int .i64 0, .int .i64 0] := by
        have h := Row.new (w1.alloc (.cells #[.int .u64 0, .int .u64 0, .int .i64 0, .int .i64 0, .int .u64 0, .int .u64 0, .int .u64 0, .int .u64 0, .int .u64 0, .int .u64 0, .int .u64 0, .int .u64 0, .int .i64 0, .int .i64 0, .int .u8 0, .int .u8 0, .int .u8 0, .int .u8 0, .int .u8 0, .int .u8 0, .int .u8 0, .int .u8 0, .int .u8 0, .int .u8 0, .int .u8 0, .int .u8 0, .int .u8 0, .int .u8 0, .int .u8 0, .int .u8 0, .int .u8 0, .int .u8 0, .int .u8 0, .int .u8 0, .int .u8 0, .int .u8 0, .int .u8 0, .int .u8 0, .int .u8 0, .int .u8 0, .int .u8 0, .int .u8 0, .int .u8 0, .int .u8 0, .int .u8 0, .int .u8 0] 39)) 26 #[.int .u64 0, .int .u64 0, .int .u64 0, .int .u64 0, .int .u64 0, .int .u64 0, .int .u64 0, .int .u64 0, .int .u64 0, .int .u64 0, .int .i64 0, .int .i64 0, .int .i64 0, .int .i64 0, .int .i64 0, .int .i64 0]
        simp only [World.size_alloc] at h
        exact h.drew
      have z39 : Row (((w1.alloc (.cells #[.int .u64 0, .int .u64 0, .int .i64 0, .int .i64 0, .int .u64 0, .int .u64 0, .int .u64 0, .int .u64 0, .int .u64 0, .int .u64 0, .int .u64 0, .int .u64 0, .int .i64 0, .int .i64 0, .int .u8 0, .int .u8 0, .int .u8 0, .int .u8 0, .int .u8 0, .int .u8 0, .int .u8 0, .int .u8 0, .int .u8 0, .int .u8 0, .int .u8 0, .int .u8 0, .int .u8 0, .int .u8 0, .int .u8 0, .int .u8 0, .int .u8 0, .int .u8 0, .int .u8 0, .int .u8 0, .int .u8 0, .int .u8 0, .int .u8 0, .int .u8 0, .int .u8 0, .int .u8 0, .int .u8 0, .int .u8 0, .int .u8 0, .int .u8 0, .int .u8 0, .int .u8 0] 39)).alloc (.cells #[.int .u64 0, .int .u64 0, .int .u64 0, .int .u64 0, .int .u64 0, .int .u64 0, .int .u64 0, .int .u64 0, .int .u64 0, .int .u64 0, .int .i64 0, .int .i64 0, .int .i64 0, .int .i64 0, .int .i64 0, .int .i64 0] 26)).drew) w1.heap.size 39 #[.int .u64 0, .int .u64 0, .int .i64 0, .int .i64 0, .int .u64 0, .int .u64 0, .int .u64 0, .int .u64 0, .int .u64 0, .int .u64 0, .int .u64 0, .int .u64 0, .int .i64 0, .int .i64 0, .int .u8 0, .int .u8 0, .int .u8 0, .int .u8 0, .int .u8 0, .int .u8 0, .int .u8 0, .int .u8 0, .int .u8 0, .int .u8 0, .int .u8 0, .int .u8 0, .int .u8 0, .int .u8 0, .int .u8 0, .int .u8 0, .int .u8 0, .int .u8 0, .int .u8 0, .int .u8 0, .int .u8 0, .int .u8 0, .int .u8 0, .int .u8 0, .int .u8 0, .int .u8 0, .int .u8 0, .int .u8 0, .int .u8 0, .int .u8 0, .int .u8 0, .int .u8 0] := ((Row.new w1 39 _).alloc (.cells #[.int .u64 0, .int .u64 0, .int .u64 0, .int .u64 0, .int .u64 0, .int .u64 0, .int .u64 0, .int .u64 0, .int .u64 0, .int .u64 0, .int .i64 0, .int .i64 0, .int .i64 0, .int .i64 0, .int .i64 0, .int .i64 0] 26)).drew
      refine wpAnyH_ready (rs := [4]) (by kernel_rfl) (by simp) ?_
      refine AllReadyH.cons rfl (fun K hK => ?_) AllReadyH.nil
      rw [if_pos (by rfl)]
      refine wp_store_row 26 _ _ rfl (w1.heap.size + 1) #[.int .u64 h0, .int .u64 h1, .int .u64 h2, .int .u64 h3, .int .u64 h4, .int .u64 h5, .int .u64 h6, .int .u64 h7, .int .u64 h8, .int .u64 h9, .int .i64 h10, .int .i64 h11, .int .i64 h12, .int .i64 h13, .int .i64 h14, .int .i64 h15] rfl rfl 26 _ z26 (by rw [info26]; rfl) rfl (by simp [Value.oneCell']) ?_
      refine hK.out _ _ ⟨(((BT.out.alloc _).alloc _).drew).apart (by omega) _, (((BA.out.alloc _).alloc _).drew).apart (by omega) _⟩ (fun hHeld2 => ?_)
      clear hHeld hK K
      have hHeld := hHeld2
      clear hHeld2
      (try simp only [Act.put, List.setIfInBounds_toArray, List.set_cons_zero, List.set_cons_succ])
      refine wpAnyH_ready (rs := [5]) (by kernel_rfl) (by simp) ?_
      refine AllReadyH.cons rfl (fun K hK => ?_) AllReadyH.nil
      rw [if_pos (by rfl)]
      refine wp_store_row 39 _ _ rfl w1.heap.size cs rfl rfl 39 _ (z39.apart (by omega) _) (by rw [info39, hs]) (by rw [hs]; rfl) hone ?_
      refine hK.out _ _ ⟨((((BT.out.alloc _).alloc _).drew).apart (by omega) _).apart (by omega) _, ((((BA.out.alloc _).alloc _).drew).apart (by omega) _).apart (by omega) _⟩ (fun hHeld2 => ?_)
      clear hHeld hK K
      have hHeld := hHeld2
      clear hHeld2
      (try simp only [Act.put, List.setIfInBounds_toArray, List.set_cons_zero, List.set_cons_succ])
      refine wpAnyH_done (by kernel_rfl) ?_ _
      go_wp2_with fail
      go_meet
      exact ⟨w1.heap.size + 1, w1.heap.size, rfl, rfl, by omega, by omega, by omega, (z26.whole _).apart (by omega) _, (z39.apart (by omega) _).whole _, hHeld.1, hHeld.2,
        below_setRow (below_setRow ((((hbw.alloc hbz _).alloc (by simp; omega) _)).drew) (by omega) _) (by omega) _⟩
  case rest =>
    obtain ⟨g5, g6, rfl, rfl, h56, hg5, hg6, r5, r6, rt, ra, hB⟩ := hcut
    clear BT BA
    have hT5 : w.heap.size ≠ g5 := by omega
    have hA5 : w.heap.size + 1 ≠ g5 := by omega
    have hT6 : w.heap.size ≠ g6 := by omega
    have hA6 : w.heap.size + 1 ≠ g6 := by omega
    have c12 : wc.cell? ⟨g5, 12, none⟩ = some (.int .i64 h12) := (r5.cell 12).trans rfl
    have z12 : wc.frozen? ⟨g5, 12, none⟩ = false := r5.frozen 12
    have R5 := hide r5; have R6 := hide r6; have RT := hide rt; have RA := hide ra; clear r5 r6 rt ra
    go_upto_region 4 with fail
    go_cut [13] (fun _ wx => wx = (wc.setCell ⟨g5, 12, none⟩ (.int .i64 (bits .xor .i64 h12 1))))
    case first =>
      go_wp2_with fail
      go_meet
      exact rfl
    obtain rfl := hcut
    have r5 : Row (wc.setCell ⟨g5, 12, none⟩ (.int .i64 (bits .xor .i64 h12 1))) g5 26 #[.int .u64 h0, .int .u64 h1, .int .u64 h2, .int .u64 h3, .int .u64 h4, .int .u64 h5, .int .u64 h6, .int .u64 h7, .int .u64 h8, .int .u64 h9, .int .i64 h10, .int .i64 h11, .int .i64 (bits .xor .i64 h12 1), .int .i64 h13, .int .i64 h14, .int .i64 h15] := (R5.out.set_ 12 _)
    have r6 : Row (wc.setCell ⟨g5, 12, none⟩ (.int .i64 (bits .xor .i64 h12 1))) g6 39 cs := (R6.out.far h56.symm _)
    have rt : Row (wc.setCell ⟨g5, 12, none⟩ (.int .i64 (bits .xor .i64 h12 1))) w.heap.size 26 #[.int .u64 h0, .int .u64 h1, .int .u64 h2, .int .u64 h3, .int .u64 h4, .int .u64 h5, .int .u64 h6, .int .u64 h7, .int .u64 h8, .int .u64 h9, .int .i64 h10, .int .i64 h11, .int .i64 h12, .int .i64 h13, .int .i64 h14, .int .i64 h15] := (RT.out.far hT5 _)
    have ra : Row (wc.setCell ⟨g5, 12, none⟩ (.int .i64 (bits .xor .i64 h12 1))) (w.heap.size + 1) 39 cs := (RA.out.far hA5 _)
    have hB1 : Below w.heap.size w (wc.setCell ⟨g5, 12, none⟩ (.int .i64 (bits .xor .i64 h12 1))) := (hB.setCell (p := ⟨g5, 12, none⟩) (by dsimp only; omega) _)
    clear hB R5 R6 RT RA c12 z12
    generalize (wc.setCell ⟨g5, 12, none⟩ (.int .i64 (bits .xor .i64 h12 1))) = W1 at r5 r6 rt ra hB1 ⊢
    have hB := hB1
    clear hB1
    have c13 : W1.cell? ⟨g5, 13, none⟩ = some (.int .i64 h13) := (r5.cell 13).trans rfl
    have z13 : W1.frozen? ⟨g5, 13, none⟩ = false := r5.frozen 13
    have c15 : W1.cell? ⟨g5, 15, none⟩ = some (.int .i64 h15) := (r5.cell 15).trans rfl
    have z15 : W1.frozen? ⟨g5, 15, none⟩ = false := r5.frozen 15
    have R5 := hide r5; have R6 := hide r6; have RT := hide rt; have RA := hide ra; clear r5 r6 rt ra
    go_upto_region 5 with fail
    go_cut [15] (fun _ wx => wx = ((W1.setCell ⟨g5, 13, none⟩ (.int .i64 9)).setCell ⟨g5, 15, none⟩ (.int .i64 4)))
    case first =>
      go_wp2_with fail
      go_meet
      exact rfl
    obtain rfl := hcut
    have r5 : Row ((W1.setCell ⟨g5, 13, none⟩ (.int .i64 9)).setCell ⟨g5, 15, none⟩ (.int .i64 4)) g5 26 #[.int .u64 h0, .int .u64 h1, .int .u64 h2, .int .u64 h3, .int .u64 h4, .int .u64 h5, .int .u64 h6, .int .u64 h7, .int .u64 h8, .int .u64 h9, .int .i64 h10, .int .i64 h11, .int .i64 (bits .xor .i64 h12 1), .int .i64 9, .int .i64 h14, .int .i64 4] := ((R5.out.set_ 13 _).set_ 15 _)
    have r6 : Row ((W1.setCell ⟨g5, 13, none⟩ (.int .i64 9)).setCell ⟨g5, 15, none⟩ (.int .i64 4)) g6 39 cs := ((R6.out.far h56.symm _).far h56.symm _)
    have rt : Row ((W1.setCell ⟨g5, 13, none⟩ (.int .i64 9)).setCell ⟨g5, 15, none⟩ (.int .i64 4)) w.heap.size 26 #[.int .u64 h0, .int .u64 h1, .int .u64 h2, .int .u64 h3, .int .u64 h4, .int .u64 h5, .int .u64 h6, .int .u64 h7, .int .u64 h8, .int .u64 h9, .int .i64 h10, .int .i64 h11, .int .i64 h12, .int .i64 h13, .int .i64 h14, .int .i64 h15] := ((RT.out.far hT5 _).far hT5 _)
    have ra : Row ((W1.setCell ⟨g5, 13, none⟩ (.int .i64 9)).setCell ⟨g5, 15, none⟩ (.int .i64 4)) (w.heap.size + 1) 39 cs := ((RA.out.far hA5 _).far hA5 _)
    have hB1 : Below w.heap.size w ((W1.setCell ⟨g5, 13, none⟩ (.int .i64 9)).setCell ⟨g5, 15, none⟩ (.int .i64 4)) := ((hB.setCell (p := ⟨g5, 13, none⟩) (by dsimp only; omega) _).setCell (p := ⟨g5, 15, none⟩) (by dsimp only; omega) _)
    clear hB R5 R6 RT RA c13 z13 c15 z15
    generalize ((W1.setCell ⟨g5, 13, none⟩ (.int .i64 9)).setCell ⟨g5, 15, none⟩ (.int .i64 4)) = W2 at r5 r6 rt ra hB1 ⊢
    have hB := hB1
    clear hB1
    have c3 : W2.cell? ⟨g6, 3, none⟩ = some (.int .i64 f) := (r6.cell 3).trans (by simp [k3, k13])
    have z3 : W2.frozen? ⟨g6, 3, none⟩ = false := r6.frozen 3
    have R5 := hide r5; have R6 := hide r6; have RT := hide rt; have RA := hide ra; clear r5 r6 rt ra
    go_upto_region 6 with fail
    go_cut [19] (fun _ wx => wx = (W2.setCell ⟨g6, 3, none⟩ (.int .i64 (bits .or .i64 f 8))))
    case first =>
      go_wp2_with fail
      go_meet
      exact rfl
    obtain rfl := hcut
    have r5 : Row (W2.setCell ⟨g6, 3, none⟩ (.int .i64 (bits .or .i64 f 8))) g5 26 #[.int .u64 h0, .int .u64 h1, .int .u64 h2, .int .u64 h3, .int .u64 h4, .int .u64 h5, .int .u64 h6, .int .u64 h7, .int .u64 h8, .int .u64 h9, .int .i64 h10, .int .i64 h11, .int .i64 (bits .xor .i64 h12 1), .int .i64 9, .int .i64 h14, .int .i64 4] := (R5.out.far h56 _)
    have r6 : Row (W2.setCell ⟨g6, 3, none⟩ (.int .i64 (bits .or .i64 f 8))) g6 39 (cs.setIfInBounds 3 (.int .i64 (bits .or .i64 f 8))) := (R6.out.set_ 3 _)
    have rt : Row (W2.setCell ⟨g6, 3, none⟩ (.int .i64 (bits .or .i64 f 8))) w.heap.size 26 #[.int .u64 h0, .int .u64 h1, .int .u64 h2, .int .u64 h3, .int .u64 h4, .int .u64 h5, .int .u64 h6, .int .u64 h7, .int .u64 h8, .int .u64 h9, .int .i64 h10, .int .i64 h11, .int .i64 h12, .int .i64 h13, .int .i64 h14, .int .i64 h15] := (RT.out.far hT6 _)
    have ra : Row (W2.setCell ⟨g6, 3, none⟩ (.int .i64 (bits .or .i64 f 8))) (w.heap.size + 1) 39 cs := (RA.out.far hA6 _)
    have hB1 : Below w.heap.size w (W2.setCell ⟨g6, 3, none⟩ (.int .i64 (bits .or .i64 f 8))) := (hB.setCell (p := ⟨g6, 3, none⟩) (by dsimp only; omega) _)
    clear hB R5 R6 RT RA c3 z3
    generalize (W2.setCell ⟨g6, 3, none⟩ (.int .i64 (bits .or .i64 f 8))) = W3 at r5 r6 rt ra hB1 ⊢
    have hB := hB1
    clear hB1
    have c3 : W3.cell? ⟨(w.heap.size + 1), 3, none⟩ = some (.int .i64 f) := (ra.cell 3).trans (by simp [k3, k13])
    have z3 : W3.frozen? ⟨(w.heap.size + 1), 3, none⟩ = false := ra.frozen 3
    have R5 := hide r5; have R6 := hide r6; have RT := hide rt; have RA := hide ra; clear r5 r6 rt ra
    go_upto_region 7 with fail
    go_cut [23] (fun _ wx => wx = (W3.setCell ⟨(w.heap.size + 1), 3, none⟩ (.int .i64 (bits .andNot .i64 f 8))))
    case first =>
      go_wp2_with fail
      go_meet
      exact rfl
    obtain rfl := hcut
    have r5 : Row (W3.setCell ⟨(w.heap.size + 1), 3, none⟩ (.int .i64 (bits .andNot .i64 f 8))) g5 26 #[.int .u64 h0, .int .u64 h1, .int .u64 h2, .int .u64 h3, .int .u64 h4, .int .u64 h5, .int .u64 h6, .int .u64 h7, .int .u64 h8, .int .u64 h9, .int .i64 h10, .int .i64 h11, .int .i64 (bits .xor .i64 h12 1), .int .i64 9, .int .i64 h14, .int .i64 4] := (R5.out.far hA5.symm _)
    have r6 : Row (W3.setCell ⟨(w.heap.size + 1), 3, none⟩ (.int .i64 (bits .andNot .i64 f 8))) g6 39 (cs.setIfInBounds 3 (.int .i64 (bits .or .i64 f 8))) := (R6.out.far hA6.symm _)
    have rt : Row (W3.setCell ⟨(w.heap.size + 1), 3, none⟩ (.int .i64 (bits .andNot .i64 f 8))) w.heap.size 26 #[.int .u64 h0, .int .u64 h1, .int .u64 h2, .int .u64 h3, .int .u64 h4, .int .u64 h5, .int .u64 h6, .int .u64 h7, .int .u64 h8, .int .u64 h9, .int .i64 h10, .int .i64 h11, .int .i64 h12, .int .i64 h13, .int .i64 h14, .int .i64 h15] := (RT.out.far (by dsimp only; omega) _)
    have ra : Row (W3.setCell ⟨(w.heap.size + 1), 3, none⟩ (.int .i64 (bits .andNot .i64 f 8))) (w.heap.size + 1) 39 (cs.setIfInBounds 3 (.int .i64 (bits .andNot .i64 f 8))) := (RA.out.set_ 3 _)
    have hB1 : Below w.heap.size w (W3.setCell ⟨(w.heap.size + 1), 3, none⟩ (.int .i64 (bits .andNot .i64 f 8))) := (hB.setCell (p := ⟨(w.heap.size + 1), 3, none⟩) (by dsimp only; omega) _)
    clear hB R5 R6 RT RA c3 z3
    generalize (W3.setCell ⟨(w.heap.size + 1), 3, none⟩ (.int .i64 (bits .andNot .i64 f 8))) = W4 at r5 r6 rt ra hB1 ⊢
    have hB := hB1
    clear hB1
    have c13 : W4.cell? ⟨g6, 13, none⟩ = some (.int .i64 n) := (r6.cell 13).trans (by simp [k3, k13])
    have z13 : W4.frozen? ⟨g6, 13, none⟩ = false := r6.frozen 13
    have R5 := hide r5; have R6 := hide r6; have RT := hide rt; have RA := hide ra; clear r5 r6 rt ra
    go_upto_region 8 with fail
    go_cut [27] (fun _ wx => ∃ V : Int, wx = (W4.setCell ⟨g6, 13, none⟩ (.int .i64 V)))
    case first =>
      go_wp2_with fail
      go_meet
      exact ⟨_, rfl⟩
    obtain ⟨V, rfl⟩ := hcut
    have r5 : Row (W4.setCell ⟨g6, 13, none⟩ (.int .i64 V)) g5 26 #[.int .u64 h0, .int .u64 h1, .int .u64 h2, .int .u64 h3, .int .u64 h4, .int .u64 h5, .int .u64 h6, .int .u64 h7, .int .u64 h8, .int .u64 h9, .int .i64 h10, .int .i64 h11, .int .i64 (bits .xor .i64 h12 1), .int .i64 9, .int .i64 h14, .int .i64 4] := (R5.out.far h56 _)
    have r6 : Row (W4.setCell ⟨g6, 13, none⟩ (.int .i64 V)) g6 39 ((cs.setIfInBounds 3 (.int .i64 (bits .or .i64 f 8))).setIfInBounds 13 (.int .i64 V)) := (R6.out.set_ 13 _)
    have rt : Row (W4.setCell ⟨g6, 13, none⟩ (.int .i64 V)) w.heap.size 26 #[.int .u64 h0, .int .u64 h1, .int .u64 h2, .int .u64 h3, .int .u64 h4, .int .u64 h5, .int .u64 h6, .int .u64 h7, .int .u64 h8, .int .u64 h9, .int .i64 h10, .int .i64 h11, .int .i64 h12, .int .i64 h13, .int .i64 h14, .int .i64 h15] := (RT.out.far hT6 _)
    have ra : Row (W4.setCell ⟨g6, 13, none⟩ (.int .i64 V)) (w.heap.size + 1) 39 (cs.setIfInBounds 3 (.int .i64 (bits .andNot .i64 f 8))) := (RA.out.far hA6 _)
    have hB1 : Below w.heap.size w (W4.setCell ⟨g6, 13, none⟩ (.int .i64 V)) := (hB.setCell (p := ⟨g6, 13, none⟩) (by dsimp only; omega) _)
    clear hB R5 R6 RT RA c13 z13
    generalize (W4.setCell ⟨g6, 13, none⟩ (.int .i64 V)) = W5 at r5 r6 rt ra hB1 ⊢
    have hB := hB1
    clear hB1
    have a2 : (cs.setIfInBounds 3 (.int .i64 (bits .andNot .i64 f 8)))[2]? = some (.int .i64 l) := by simp [k2]
    have a3 : (cs.setIfInBounds 3 (.int .i64 (bits .andNot .i64 f 8)))[3]? = some (.int .i64 (bits .andNot .i64 f 8)) := by simp [hs]
    have sa : (cs.setIfInBounds 3 (.int .i64 (bits .andNot .i64 f 8))).size = 46 := by simp [hs]
    have b2 : ((cs.setIfInBounds 3 (.int .i64 (bits .or .i64 f 8))).setIfInBounds 13 (.int .i64 V))[2]? = some (.int .i64 l) := by simp [k2]
    have b3 : ((cs.setIfInBounds 3 (.int .i64 (bits .or .i64 f 8))).setIfInBounds 13 (.int .i64 V))[3]? = some (.int .i64 (bits .or .i64 f 8)) := by simp [hs]
    have sb : ((cs.setIfInBounds 3 (.int .i64 (bits .or .i64 f 8))).setIfInBounds 13 (.int .i64 V)).size = 46 := by simp [hs]
    generalize (cs.setIfInBounds 3 (.int .i64 (bits .andNot .i64 f 8))) = A at ra a2 a3 sa
    generalize ((cs.setIfInBounds 3 (.int .i64 (bits .or .i64 f 8))).setIfInBounds 13 (.int .i64 V)) = B at r6 b2 b3 sb
    clear k2 k3 k13 hs hone
    have e1 : rcode h2 h3 h4 h5 h6 h7 h8 h9 h10 h11 h12 h2 h3 h4 h5 h6 h7 h8 h9 h10 h11 h12 = 14 := by simp [rcode, nEq]
    have e2 : rcode h2 h3 h4 h5 h6 h7 h8 h9 h10 h11 (bits .xor .i64 h12 1) h2 h3 h4 h5 h6 h7 h8 h9 h10 h11 h12 = 14 := by simp [rcode, nEq, flags_xor1]
    have e3 : acode l (bits .andNot .i64 f 8) l (bits .or .i64 f 8) = 14 := by simp [acode, flags_closed]
    have e4 : acode l (bits .andNot .i64 f 8) l (bits .andNot .i64 f 8) = 14 := by simp [acode]
    have E1 := hide e1; have E2 := hide e2; have E3 := hide e3; have E4 := hide e4; clear e1 e2 e3 e4
    have R5 := hide r5; have R6 := hide r6; have RT := hide rt; have RA := hide ra; clear r5 r6 rt ra
    have A2 := hide a2; have A3 := hide a3; have B2 := hide b2; have B3 := hide b3; clear a2 a3 b2 b3
    have hB0 := hB.size
    go_wp2_with (first | (refine load_T RT.out rfl rfl rfl rfl ?_) | (refine load_T R5.out rfl rfl rfl rfl ?_) | (refine load_A RA.out rfl rfl rfl sa ?_) | (refine load_A R6.out rfl rfl rfl sb ?_) | fail)
    refine (repeat_any _ _ _ _ _ _ _ _ _ _ _ _ _ _ _ _ _ _ _ _ _ _ _ _ _ _ _ _ _ _ _ _ _).mono ?_
    rintro e v1 ⟨rfl, hb1⟩
    rw [E1.out]
    have r5 := R5.out.below hb1 R5.out.lt; have r6 := R6.out.below hb1 R6.out.lt; have rt := RT.out.below hb1 RT.out.lt; have ra := RA.out.below hb1 RA.out.lt
    clear R5 R6 RT RA
    have R5 := hide r5; have R6 := hide r6; have RT := hide rt; have RA := hide ra; clear r5 r6 rt ra
    have hB1 := hB.trans (hb1.mono hB0); have hs1 := hB1.size
    go_wp2_with (first | (refine load_T RT.out rfl rfl rfl rfl ?_) | (refine load_T R5.out rfl rfl rfl rfl ?_) | (refine load_A RA.out rfl rfl rfl sa ?_) | (refine load_A R6.out rfl rfl rfl sb ?_) | fail)
    refine (repeat_any _ _ _ _ _ _ _ _ _ _ _ _ _ _ _ _ _ _ _ _ _ _ _ _ _ _ _ _ _ _ _ _ _).mono ?_
    rintro e v2 ⟨rfl, hb2⟩
    rw [E2.out]
    have r5 := R5.out.below hb2 R5.out.lt; have r6 := R6.out.below hb2 R6.out.lt; have rt := RT.out.below hb2 RT.out.lt; have ra := RA.out.below hb2 RA.out.lt
    clear R5 R6 RT RA
    have R5 := hide r5; have R6 := hide r6; have RT := hide rt; have RA := hide ra; clear r5 r6 rt ra
    have hB2 := hB1.trans (hb2.mono hs1); have hs2 := hB2.size
    go_wp2_with (first | (refine load_T RT.out rfl rfl rfl rfl ?_) | (refine load_T R5.out rfl rfl rfl rfl ?_) | (refine load_A RA.out rfl rfl rfl sa ?_) | (refine load_A R6.out rfl rfl rfl sb ?_) | fail)
    refine (again_any A B l _ l _ A2.out A3.out B2.out B3.out _).mono ?_
    rintro e v3 ⟨rfl, hb3⟩
    rw [E3.out]
    have r5 := R5.out.below hb3 R5.out.lt; have r6 := R6.out.below hb3 R6.out.lt; have rt := RT.out.below hb3 RT.out.lt; have ra := RA.out.below hb3 RA.out.lt
    clear R5 R6 RT RA
    have R5 := hide r5; have R6 := hide r6; have RT := hide rt; have RA := hide ra; clear r5 r6 rt ra
    have hB3 := hB2.trans (hb3.mono hs2); have hs3 := hB3.size
    go_wp2_with (first | (refine load_A RA.out rfl rfl rfl sa ?_) | fail)
    refine (again_any A A l _ l _ A2.out A3.out A2.out A3.out _).mono ?_
    rintro e v4 ⟨rfl, hb4⟩
    rw [E4.out]
    go_wp2
    go_ret
    exact ⟨rfl, hB3.trans (hb4.mono hs3)⟩
end Go.Proofs.Ytedejbanhhonbaa
