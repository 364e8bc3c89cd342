/- The contract of rule.Transfer: what it answers, as a plain function of the transfer's numbers. -/
import Derived.Test.YtedejbanhhonbaaX1
import Derived.Deep.DeepCutAuto
import Derived.Deep.CutBlock
namespace Go.Proofs.Ytedejbanhhonbaa
open Go.RowKit

/-- Flags that may not be. -/
def badF (f : Int) : Bool :=
  decide (f < 0) || decide (255 < f) || !oneB f || ((bits .and .i64 f 192 != 0) && (bits .and .i64 f 2 == 0)) || ((bits .and .i64 f 48 != 0) && (bits .and .i64 f 12 != 0))
/-- A pending number that may not be. -/
def badP (ih il ph pl f : Int) : Bool :=
  ((bits .and .i64 f 12 != 0) != !(nEq ph pl 0 0)) || ((bits .and .i64 f 12 != 0) && nEq ph pl ih il)
/-- A timeout that may not be. -/
def badT (tm f : Int) : Bool := (tm != 0) && (bits .and .i64 f 2 == 0)
/-- rule.Transfer's answer. -/
def tcode (ih il ph pl tm f : Int) : Int :=
  if nEq ih il 0 0 = true then 3
  else if badF f = true then 4
  else if badP ih il ph pl f = true then 18
  else if badT tm f = true then 19
  else 0

/-- The cells of a transfer's block that are read. -/
def TCells (g : Nat) (h0 h1 h8 h9 h10 f : Int) (w : World) : Prop :=
  w.cell? ⟨g, 0, none⟩ = some (.int .u64 h0) ∧ w.cell? ⟨g, 1, none⟩ = some (.int .u64 h1) ∧ w.cell? ⟨g, 8, none⟩ = some (.int .u64 h8) ∧ w.cell? ⟨g, 9, none⟩ = some (.int .u64 h9) ∧
    w.cell? ⟨g, 10, none⟩ = some (.int .i64 h10) ∧ w.cell? ⟨g, 12, none⟩ = some (.int .i64 f) ∧ g < w.heap.size
theorem TCells.alloc {g : Nat} {h0 h1 h8 h9 h10 f : Int} {w : World} (h : TCells g h0 h1 h8 h9 h10 f w) (o : Obj) : TCells g h0 h1 h8 h9 h10 f (w.alloc o) := by
  obtain ⟨a, b, c, d, e, k, hg⟩ := h
  have q : ∀ i, (w.alloc o).cell? ⟨g, i, none⟩ = w.cell? ⟨g, i, none⟩ := fun i => World.cell?_alloc_lt w o ⟨g, i, none⟩ hg
  exact ⟨by rw [q, a], by rw [q, b], by rw [q, c], by rw [q, d], by rw [q, e], by rw [q, k], by simp; omega⟩

attribute [local go_sem high] eqNum
set_option maxHeartbeats 1000000 in
/-- rule.Transfer, at whatever transfer. -/
theorem transfer_any (f h0 h1 h2 h3 h4 h5 h6 h7 h8 h9 h10 h11 h12 h13 h14 : Int) (w : World) :
    Calls Try.prog 11 #[.agg #[.int .u64 h0, .int .u64 h1, .int .u64 h2, .int .u64 h3, .int .u64 h4, .int .u64 h5, .int .u64 h6, .int .u64 h7, .int .u64 h8, .int .u64 h9, .int .i64 h10, .int .i64 h11, .int .i64 f, .int .i64 h12, .int .i64 h13, .int .i64 h14]] w fun e w' => e = .returned (.int .i64 (tcode h0 h1 h8 h9 h10 f)) ∧ Below w.heap.size w w' := by
  go_enter Try.func11, Try.ntmps11
  go_wp2
  go_cut [18] (fun s wx => ∃ b : Bool, s = .bool b ∧ b = nEq h0 h1 0 0 ∧ Below w.heap.size w wx ∧ TCells w.heap.size h0 h1 h8 h9 h10 f wx)
  case first =>
    go_region_held3 (fun w' => w'.cell? ⟨w.heap.size, 0, none⟩ = some (.int .u64 h0) ∧ w'.cell? ⟨w.heap.size, 1, none⟩ = some (.int .u64 h1)) (simp [go_sem, World.cell?_alloc_past])
      ((go_at_call 21; refine (zero_any _).mono ?_; rintro e w' ⟨rfl, o1, o2, rfl⟩))
    go_wp2_with fail
    go_meet
    exact ⟨_, rfl, rfl, by repeat (first | exact Below.refl _ _ | apply Below.drew | (refine Below.alloc ?_ (by simp <;> omega) _)), by simp [TCells, go_sem, World.cell?_alloc_past]⟩
  case rest =>
    obtain ⟨b, rfl, hb, hB, hC⟩ := hcut
    have Hb := hide hb; clear hb
    obtain ⟨c0, c1, c8, c9, c10, c12, cg⟩ := hC
    cases b
    · go_upto_region 6 with fail
      go_cut [3, 4, 5, 23] (fun s3 _ _ s wx => ∃ b : Bool, s = .bool b ∧ b = badF f ∧ s3 = .bool (bits .and .i64 f 12 != 0) ∧ Below w.heap.size w wx ∧ TCells w.heap.size h0 h1 h8 h9 h10 f wx)
      case first =>
        have hC : TCells w.heap.size h0 h1 h8 h9 h10 f wc := ⟨c0, c1, c8, c9, c10, c12, cg⟩
        have HC := hide hC; clear hC
        by_cases hf0 : f < 0
        · go_wp2
          go_meet
          have hC := unhide HC
          exact ⟨_, rfl, by simp [badF, *], by first | rfl | simp [*], by first | exact hB | exact hB.alloc (Nat.le_of_lt cg) _, by first | exact hC | exact hC.alloc _⟩
        by_cases hf1 : 255 < f
        · go_wp2
          go_meet
          have hC := unhide HC
          exact ⟨_, rfl, by simp [badF, *], by first | rfl | simp [*], by first | exact hB | exact hB.alloc (Nat.le_of_lt cg) _, by first | exact hC | exact hC.alloc _⟩
        rcases Bool.eq_false_or_eq_true (oneB f) with ho | ho
        rotate_left
        · go_wp2_with (go_at_call 22; refine (one_any f _ _ (by simp [go_sem]) (by simp [go_sem]) (by simp [go_sem])).mono ?_; rintro e w' ⟨rfl, rfl⟩)
          go_meet
          have hC := unhide HC
          exact ⟨_, rfl, by simp [badF, *], by first | rfl | simp [*], by first | exact hB | exact hB.alloc (Nat.le_of_lt cg) _, by first | exact hC | exact hC.alloc _⟩
        rcases Bool.eq_false_or_eq_true (bits .and .i64 f 192 != 0) with hc | hc <;>
          rcases Bool.eq_false_or_eq_true (bits .and .i64 f 48 != 0) with hb | hb
        all_goals
          go_wp2_with (go_at_call 22; refine (one_any f _ _ (by simp [go_sem]) (by simp [go_sem]) (by simp [go_sem])).mono ?_; rintro e w' ⟨rfl, rfl⟩)
        all_goals
          go_meet
          have hC := unhide HC
          have hn0 : (f < 0 ∨ 255 < f) = False := by simp; omega
          refine ⟨_, rfl, ?_, by first | rfl | simp [*], by first | exact hB | exact hB.alloc (Nat.le_of_lt cg) _, by first | exact hC | exact hC.alloc _⟩
          first
            | (simp [badF, *]; done)
            | (have := beq_eq_false_iff_ne.2 ‹¬ bits BinOp.and .i64 f 2 = 0›; simp [badF, *]; done)
      case rest =>
        obtain ⟨b, rfl, hb, rfl, hB, hC⟩ := hcut
        have Hd := hide hb; clear hb
        obtain ⟨c0, c1, c8, c9, c10, c12, cg⟩ := hC
        cases b
        · generalize hsec : (bits .and .i64 f 12 != 0) = sec
          have Hsec := hide hsec; clear hsec
          go_upto_region 8 with fail
          go_cut [54] (fun s wx => ∃ b : Bool, s = .bool b ∧ b = badP h0 h1 h8 h9 f ∧ Below w.heap.size w wx ∧ TCells w.heap.size h0 h1 h8 h9 h10 f wx)
          case first =>
            have hC : TCells w.heap.size h0 h1 h8 h9 h10 f wc := ⟨c0, c1, c8, c9, c10, c12, cg⟩
            have HC := hide hC; clear hC
            cases sec
            · rcases Bool.eq_false_or_eq_true (nEq h8 h9 0 0) with hpz | hpz
              · skip
                refine wp_region_held_drew (S := fun w' => w'.cell? ⟨w.heap.size, 8, none⟩ = some (.int .u64 h8) ∧ w'.cell? ⟨w.heap.size, 9, none⟩ = some (.int .u64 h9)) (by kernel_rfl) ?_ (fun hHeld => ?_)
                · exact ⟨c8, c9⟩
                refine take_yes (i := 0) (v := ?_) (some 55) rfl rfl (by kernel_rfl) (by kernel_rfl) (by kernel_rfl) (fun _ _ _ h => h) (by rfl) hHeld ?_ ?_
                rotate_left
                · intro w hSw; (try dsimp only at hSw); go_simp; (try with_reducible rfl)
                simp only [Act.put, List.setIfInBounds_toArray, List.set_cons_zero, List.set_cons_succ]
                refine take_yes (i := 1) (v := ?_) (some 56) rfl rfl (by kernel_rfl) (by kernel_rfl) (by kernel_rfl) (fun _ _ _ h => h) (by rfl) hHeld ?_ ?_
                rotate_left
                · intro w hSw; (try dsimp only at hSw); go_simp; (try with_reducible rfl)
                simp only [Act.put, List.setIfInBounds_toArray, List.set_cons_zero, List.set_cons_succ]
                refine take_yes (i := 2) (v := ?_) (some 57) rfl rfl (by kernel_rfl) (by kernel_rfl) (by kernel_rfl) (fun _ _ _ h => h) (by rfl) hHeld ?_ ?_
                rotate_left
                · intro w hSw; (try dsimp only at hSw); go_simp; (try with_reducible rfl)
                simp only [Act.put, List.setIfInBounds_toArray, List.set_cons_zero, List.set_cons_succ]
                refine wpAnyH_ready (rs := [3]) (by kernel_rfl) (by simp) ?_
                refine AllReadyH.cons rfl (fun K hK => ?_) AllReadyH.nil
                go_simp
                go_at_call 21
                refine (zero_any _).mono ?_
                rintro e w' ⟨rfl, p1, p2, rfl⟩
                refine hK.out _ _ ?_ (fun hHeld2 => ?_)
                · exact ⟨by simp [go_sem, World.cell?_alloc_past, *], by simp [go_sem, World.cell?_alloc_past, *]⟩
                clear hHeld hK K
                have hHeld := hHeld2
                clear hHeld2
                (try simp only [Act.put, List.setIfInBounds_toArray, List.set_cons_zero, List.set_cons_succ])
                refine take_yes (i := 4) (v := ?_) (some 59) rfl rfl (by kernel_rfl) (by kernel_rfl) (by kernel_rfl) (fun _ _ _ h => h) (by rfl) hHeld ?_ ?_
                rotate_left
                · intro w hSw; (try dsimp only at hSw); go_simp; (try with_reducible rfl)
                simp only [Act.put, List.setIfInBounds_toArray, List.set_cons_zero, List.set_cons_succ]
                refine take_yes (i := 5) (v := ?_) (some 60) rfl rfl (by kernel_rfl) (by kernel_rfl) (by kernel_rfl) (fun _ _ _ h => h) (by rfl) hHeld ?_ ?_
                rotate_left
                · intro w hSw; (try dsimp only at hSw); go_simp; (try with_reducible rfl)
                simp only [Act.put, List.setIfInBounds_toArray, List.set_cons_zero, List.set_cons_succ]
                refine take_yes (i := 6) (v := ?_) (some 61) rfl rfl (by kernel_rfl) (by kernel_rfl) (by kernel_rfl) (fun _ _ _ h => h) (by rfl) hHeld ?_ ?_
                rotate_left
                · intro w hSw; (try dsimp only at hSw); go_simp; (try with_reducible rfl)
                simp only [Act.put, List.setIfInBounds_toArray, List.set_cons_zero, List.set_cons_succ]
                refine take_yes (i := 7) (v := ?_) (some 62) rfl rfl (by kernel_rfl) (by kernel_rfl) (by kernel_rfl) (fun _ _ _ h => h) (by rfl) hHeld ?_ ?_
                rotate_left
                · intro w hSw; (try dsimp only at hSw); go_simp; (try with_reducible rfl)
                simp only [Act.put, List.setIfInBounds_toArray, List.set_cons_zero, List.set_cons_succ]
                refine take_yes (i := 8) (v := ?_) (some 63) rfl rfl (by kernel_rfl) (by kernel_rfl) (by kernel_rfl) (fun _ _ _ h => h) (by rfl) hHeld ?_ ?_
                rotate_left
                · intro w hSw; (try dsimp only at hSw); go_simp; (try with_reducible rfl)
                simp only [Act.put, List.setIfInBounds_toArray, List.set_cons_zero, List.set_cons_succ]
                refine take_no (i := 9) (some 64) rfl rfl (by kernel_rfl) (by kernel_rfl) (by kernel_rfl) (fun _ _ _ h => h) (by rfl) hHeld ?_
                simp only [Act.put, List.setIfInBounds_toArray, List.set_cons_zero, List.set_cons_succ]
                refine take_no (i := 10) (some 65) rfl rfl (by kernel_rfl) (by kernel_rfl) (by kernel_rfl) (fun _ _ _ h => h) (by rfl) hHeld ?_
                simp only [Act.put, List.setIfInBounds_toArray, List.set_cons_zero, List.set_cons_succ]
                refine take_no (i := 11) (some 66) rfl rfl (by kernel_rfl) (by kernel_rfl) (by kernel_rfl) (fun _ _ _ h => h) (by rfl) hHeld ?_
                simp only [Act.put, List.setIfInBounds_toArray, List.set_cons_zero, List.set_cons_succ]
                refine take_no (i := 12) (some 67) rfl rfl (by kernel_rfl) (by kernel_rfl) (by kernel_rfl) (fun _ _ _ h => h) (by rfl) hHeld ?_
                simp only [Act.put, List.setIfInBounds_toArray, List.set_cons_zero, List.set_cons_succ]
                refine take_no (i := 13) (some 68) rfl rfl (by kernel_rfl) (by kernel_rfl) (by kernel_rfl) (fun _ _ _ h => h) (by rfl) hHeld ?_
                simp only [Act.put, List.setIfInBounds_toArray, List.set_cons_zero, List.set_cons_succ]
                refine take_yes (i := 14) (v := ?_) (some 69) rfl rfl (by kernel_rfl) (by kernel_rfl) (by kernel_rfl) (fun _ _ _ h => h) (by rfl) hHeld ?_ ?_
                rotate_left
                · intro w hSw; (try dsimp only at hSw); go_simp; (try with_reducible rfl)
                simp only [Act.put, List.setIfInBounds_toArray, List.set_cons_zero, List.set_cons_succ]
                refine take_yes (i := 15) (v := ?_) (some 70) rfl rfl (by kernel_rfl) (by kernel_rfl) (by kernel_rfl) (fun _ _ _ h => h) (by rfl) hHeld ?_ ?_
                rotate_left
                · intro w hSw; (try dsimp only at hSw); go_simp; (try with_reducible rfl)
                simp only [Act.put, List.setIfInBounds_toArray, List.set_cons_zero, List.set_cons_succ]
                refine take_yes (i := 16) (v := ?_) (some 54) rfl rfl (by kernel_rfl) (by kernel_rfl) (by kernel_rfl) (fun _ _ _ h => h) (by rfl) hHeld ?_ ?_
                rotate_left
                · intro w hSw; (try dsimp only at hSw); go_simp; (try with_reducible rfl)
                simp only [Act.put, List.setIfInBounds_toArray, List.set_cons_zero, List.set_cons_succ]
                refine wpAnyH_done (by kernel_rfl) ?_ _
                have hs := unhide Hsec
                go_wp2_with fail
                go_meet
                have hC := unhide HC
                exact ⟨_, rfl, by simp [badP, *], (((hB.alloc (Nat.le_of_lt cg) _).alloc (by simp; omega) _).drew), (hC.alloc _).alloc _⟩
              · skip
                refine wp_region_held_drew (S := fun w' => w'.cell? ⟨w.heap.size, 8, none⟩ = some (.int .u64 h8) ∧ w'.cell? ⟨w.heap.size, 9, none⟩ = some (.int .u64 h9)) (by kernel_rfl) ?_ (fun hHeld => ?_)
                · exact ⟨c8, c9⟩
                refine take_yes (i := 0) (v := ?_) (some 55) rfl rfl (by kernel_rfl) (by kernel_rfl) (by kernel_rfl) (fun _ _ _ h => h) (by rfl) hHeld ?_ ?_
                rotate_left
                · intro w hSw; (try dsimp only at hSw); go_simp; (try with_reducible rfl)
                simp only [Act.put, List.setIfInBounds_toArray, List.set_cons_zero, List.set_cons_succ]
                refine take_yes (i := 1) (v := ?_) (some 56) rfl rfl (by kernel_rfl) (by kernel_rfl) (by kernel_rfl) (fun _ _ _ h => h) (by rfl) hHeld ?_ ?_
                rotate_left
                · intro w hSw; (try dsimp only at hSw); go_simp; (try with_reducible rfl)
                simp only [Act.put, List.setIfInBounds_toArray, List.set_cons_zero, List.set_cons_succ]
                refine take_yes (i := 2) (v := ?_) (some 57) rfl rfl (by kernel_rfl) (by kernel_rfl) (by kernel_rfl) (fun _ _ _ h => h) (by rfl) hHeld ?_ ?_
                rotate_left
                · intro w hSw; (try dsimp only at hSw); go_simp; (try with_reducible rfl)
                simp only [Act.put, List.setIfInBounds_toArray, List.set_cons_zero, List.set_cons_succ]
                refine wpAnyH_ready (rs := [3]) (by kernel_rfl) (by simp) ?_
                refine AllReadyH.cons rfl (fun K hK => ?_) AllReadyH.nil
                go_simp
                go_at_call 21
                refine (zero_any _).mono ?_
                rintro e w' ⟨rfl, p1, p2, rfl⟩
                refine hK.out _ _ ?_ (fun hHeld2 => ?_)
                · exact ⟨by simp [go_sem, World.cell?_alloc_past, *], by simp [go_sem, World.cell?_alloc_past, *]⟩
                clear hHeld hK K
                have hHeld := hHeld2
                clear hHeld2
                (try simp only [Act.put, List.setIfInBounds_toArray, List.set_cons_zero, List.set_cons_succ])
                refine take_yes (i := 4) (v := ?_) (some 59) rfl rfl (by kernel_rfl) (by kernel_rfl) (by kernel_rfl) (fun _ _ _ h => h) (by rfl) hHeld ?_ ?_
                rotate_left
                · intro w hSw; (try dsimp only at hSw); go_simp; (try with_reducible rfl)
                simp only [Act.put, List.setIfInBounds_toArray, List.set_cons_zero, List.set_cons_succ]
                refine take_yes (i := 5) (v := ?_) (some 60) rfl rfl (by kernel_rfl) (by kernel_rfl) (by kernel_rfl) (fun _ _ _ h => h) (by rfl) hHeld ?_ ?_
                rotate_left
                · intro w hSw; (try dsimp only at hSw); go_simp; (try with_reducible rfl)
                simp only [Act.put, List.setIfInBounds_toArray, List.set_cons_zero, List.set_cons_succ]
                refine take_yes (i := 6) (v := ?_) (some 61) rfl rfl (by kernel_rfl) (by kernel_rfl) (by kernel_rfl) (fun _ _ _ h => h) (by rfl) hHeld ?_ ?_
                rotate_left
                · intro w hSw; (try dsimp only at hSw); go_simp; (try with_reducible rfl)
                simp only [Act.put, List.setIfInBounds_toArray, List.set_cons_zero, List.set_cons_succ]
                refine take_no (i := 7) (some 62) rfl rfl (by kernel_rfl) (by kernel_rfl) (by kernel_rfl) (fun _ _ _ h => h) (by rfl) hHeld ?_
                simp only [Act.put, List.setIfInBounds_toArray, List.set_cons_zero, List.set_cons_succ]
                refine take_no (i := 8) (some 63) rfl rfl (by kernel_rfl) (by kernel_rfl) (by kernel_rfl) (fun _ _ _ h => h) (by rfl) hHeld ?_
                simp only [Act.put, List.setIfInBounds_toArray, List.set_cons_zero, List.set_cons_succ]
                refine take_no (i := 9) (some 64) rfl rfl (by kernel_rfl) (by kernel_rfl) (by kernel_rfl) (fun _ _ _ h => h) (by rfl) hHeld ?_
                simp only [Act.put, List.setIfInBounds_toArray, List.set_cons_zero, List.set_cons_succ]
                refine take_no (i := 10) (some 65) rfl rfl (by kernel_rfl) (by kernel_rfl) (by kernel_rfl) (fun _ _ _ h => h) (by rfl) hHeld ?_
                simp only [Act.put, List.setIfInBounds_toArray, List.set_cons_zero, List.set_cons_succ]
                refine take_no (i := 11) (some 66) rfl rfl (by kernel_rfl) (by kernel_rfl) (by kernel_rfl) (fun _ _ _ h => h) (by rfl) hHeld ?_
                simp only [Act.put, List.setIfInBounds_toArray, List.set_cons_zero, List.set_cons_succ]
                refine take_no (i := 12) (some 67) rfl rfl (by kernel_rfl) (by kernel_rfl) (by kernel_rfl) (fun _ _ _ h => h) (by rfl) hHeld ?_
                simp only [Act.put, List.setIfInBounds_toArray, List.set_cons_zero, List.set_cons_succ]
                refine take_no (i := 13) (some 68) rfl rfl (by kernel_rfl) (by kernel_rfl) (by kernel_rfl) (fun _ _ _ h => h) (by rfl) hHeld ?_
                simp only [Act.put, List.setIfInBounds_toArray, List.set_cons_zero, List.set_cons_succ]
                refine take_no (i := 14) (some 69) rfl rfl (by kernel_rfl) (by kernel_rfl) (by kernel_rfl) (fun _ _ _ h => h) (by rfl) hHeld ?_
                simp only [Act.put, List.setIfInBounds_toArray, List.set_cons_zero, List.set_cons_succ]
                refine take_yes (i := 15) (v := ?_) (some 70) rfl rfl (by kernel_rfl) (by kernel_rfl) (by kernel_rfl) (fun _ _ _ h => h) (by rfl) hHeld ?_ ?_
                rotate_left
                · intro w hSw; (try dsimp only at hSw); go_simp; (try with_reducible rfl)
                simp only [Act.put, List.setIfInBounds_toArray, List.set_cons_zero, List.set_cons_succ]
                refine take_yes (i := 16) (v := ?_) (some 54) rfl rfl (by kernel_rfl) (by kernel_rfl) (by kernel_rfl) (fun _ _ _ h => h) (by rfl) hHeld ?_ ?_
                rotate_left
                · intro w hSw; (try dsimp only at hSw); go_simp; (try with_reducible rfl)
                simp only [Act.put, List.setIfInBounds_toArray, List.set_cons_zero, List.set_cons_succ]
                refine wpAnyH_done (by kernel_rfl) ?_ _
                have hs := unhide Hsec
                go_wp2_with fail
                go_meet
                have hC := unhide HC
                exact ⟨_, rfl, by simp [badP, *], (((hB.alloc (Nat.le_of_lt cg) _).alloc (by simp; omega) _).drew), (hC.alloc _).alloc _⟩
            · rcases Bool.eq_false_or_eq_true (nEq h8 h9 0 0) with hpz | hpz
              · skip
                refine wp_region_held_drew (S := fun w' => w'.cell? ⟨w.heap.size, 8, none⟩ = some (.int .u64 h8) ∧ w'.cell? ⟨w.heap.size, 9, none⟩ = some (.int .u64 h9)) (by kernel_rfl) ?_ (fun hHeld => ?_)
                · exact ⟨c8, c9⟩
                refine take_yes (i := 0) (v := ?_) (some 55) rfl rfl (by kernel_rfl) (by kernel_rfl) (by kernel_rfl) (fun _ _ _ h => h) (by rfl) hHeld ?_ ?_
                rotate_left
                · intro w hSw; (try dsimp only at hSw); go_simp; (try with_reducible rfl)
                simp only [Act.put, List.setIfInBounds_toArray, List.set_cons_zero, List.set_cons_succ]
                refine take_yes (i := 1) (v := ?_) (some 56) rfl rfl (by kernel_rfl) (by kernel_rfl) (by kernel_rfl) (fun _ _ _ h => h) (by rfl) hHeld ?_ ?_
                rotate_left
                · intro w hSw; (try dsimp only at hSw); go_simp; (try with_reducible rfl)
                simp only [Act.put, List.setIfInBounds_toArray, List.set_cons_zero, List.set_cons_succ]
                refine take_yes (i := 2) (v := ?_) (some 57) rfl rfl (by kernel_rfl) (by kernel_rfl) (by kernel_rfl) (fun _ _ _ h => h) (by rfl) hHeld ?_ ?_
                rotate_left
                · intro w hSw; (try dsimp only at hSw); go_simp; (try with_reducible rfl)
                simp only [Act.put, List.setIfInBounds_toArray, List.set_cons_zero, List.set_cons_succ]
                refine wpAnyH_ready (rs := [3]) (by kernel_rfl) (by simp) ?_
                refine AllReadyH.cons rfl (fun K hK => ?_) AllReadyH.nil
                go_simp
                go_at_call 21
                refine (zero_any _).mono ?_
                rintro e w' ⟨rfl, p1, p2, rfl⟩
                refine hK.out _ _ ?_ (fun hHeld2 => ?_)
                · exact ⟨by simp [go_sem, World.cell?_alloc_past, *], by simp [go_sem, World.cell?_alloc_past, *]⟩
                clear hHeld hK K
                have hHeld := hHeld2
                clear hHeld2
                (try simp only [Act.put, List.setIfInBounds_toArray, List.set_cons_zero, List.set_cons_succ])
                refine take_yes (i := 4) (v := ?_) (some 59) rfl rfl (by kernel_rfl) (by kernel_rfl) (by kernel_rfl) (fun _ _ _ h => h) (by rfl) hHeld ?_ ?_
                rotate_left
                · intro w hSw; (try dsimp only at hSw); go_simp; (try with_reducible rfl)
                simp only [Act.put, List.setIfInBounds_toArray, List.set_cons_zero, List.set_cons_succ]
                refine take_yes (i := 5) (v := ?_) (some 60) rfl rfl (by kernel_rfl) (by kernel_rfl) (by kernel_rfl) (fun _ _ _ h => h) (by rfl) hHeld ?_ ?_
                rotate_left
                · intro w hSw; (try dsimp only at hSw); go_simp; (try with_reducible rfl)
                simp only [Act.put, List.setIfInBounds_toArray, List.set_cons_zero, List.set_cons_succ]
                refine take_yes (i := 6) (v := ?_) (some 61) rfl rfl (by kernel_rfl) (by kernel_rfl) (by kernel_rfl) (fun _ _ _ h => h) (by rfl) hHeld ?_ ?_
                rotate_left
                · intro w hSw; (try dsimp only at hSw); go_simp; (try with_reducible rfl)
                simp only [Act.put, List.setIfInBounds_toArray, List.set_cons_zero, List.set_cons_succ]
                refine take_no (i := 7) (some 62) rfl rfl (by kernel_rfl) (by kernel_rfl) (by kernel_rfl) (fun _ _ _ h => h) (by rfl) hHeld ?_
                simp only [Act.put, List.setIfInBounds_toArray, List.set_cons_zero, List.set_cons_succ]
                refine take_no (i := 8) (some 63) rfl rfl (by kernel_rfl) (by kernel_rfl) (by kernel_rfl) (fun _ _ _ h => h) (by rfl) hHeld ?_
                simp only [Act.put, List.setIfInBounds_toArray, List.set_cons_zero, List.set_cons_succ]
                refine take_no (i := 9) (some 64) rfl rfl (by kernel_rfl) (by kernel_rfl) (by kernel_rfl) (fun _ _ _ h => h) (by rfl) hHeld ?_
                simp only [Act.put, List.setIfInBounds_toArray, List.set_cons_zero, List.set_cons_succ]
                refine take_no (i := 10) (some 65) rfl rfl (by kernel_rfl) (by kernel_rfl) (by kernel_rfl) (fun _ _ _ h => h) (by rfl) hHeld ?_
                simp only [Act.put, List.setIfInBounds_toArray, List.set_cons_zero, List.set_cons_succ]
                refine take_no (i := 11) (some 66) rfl rfl (by kernel_rfl) (by kernel_rfl) (by kernel_rfl) (fun _ _ _ h => h) (by rfl) hHeld ?_
                simp only [Act.put, List.setIfInBounds_toArray, List.set_cons_zero, List.set_cons_succ]
                refine take_no (i := 12) (some 67) rfl rfl (by kernel_rfl) (by kernel_rfl) (by kernel_rfl) (fun _ _ _ h => h) (by rfl) hHeld ?_
                simp only [Act.put, List.setIfInBounds_toArray, List.set_cons_zero, List.set_cons_succ]
                refine take_no (i := 13) (some 68) rfl rfl (by kernel_rfl) (by kernel_rfl) (by kernel_rfl) (fun _ _ _ h => h) (by rfl) hHeld ?_
                simp only [Act.put, List.setIfInBounds_toArray, List.set_cons_zero, List.set_cons_succ]
                refine take_no (i := 14) (some 69) rfl rfl (by kernel_rfl) (by kernel_rfl) (by kernel_rfl) (fun _ _ _ h => h) (by rfl) hHeld ?_
                simp only [Act.put, List.setIfInBounds_toArray, List.set_cons_zero, List.set_cons_succ]
                refine take_yes (i := 15) (v := ?_) (some 70) rfl rfl (by kernel_rfl) (by kernel_rfl) (by kernel_rfl) (fun _ _ _ h => h) (by rfl) hHeld ?_ ?_
                rotate_left
                · intro w hSw; (try dsimp only at hSw); go_simp; (try with_reducible rfl)
                simp only [Act.put, List.setIfInBounds_toArray, List.set_cons_zero, List.set_cons_succ]
                refine take_yes (i := 16) (v := ?_) (some 54) rfl rfl (by kernel_rfl) (by kernel_rfl) (by kernel_rfl) (fun _ _ _ h => h) (by rfl) hHeld ?_ ?_
                rotate_left
                · intro w hSw; (try dsimp only at hSw); go_simp; (try with_reducible rfl)
                simp only [Act.put, List.setIfInBounds_toArray, List.set_cons_zero, List.set_cons_succ]
                refine wpAnyH_done (by kernel_rfl) ?_ _
                have hs := unhide Hsec
                go_wp2_with fail
                go_meet
                have hC := unhide HC
                exact ⟨_, rfl, by simp [badP, *], (((hB.alloc (Nat.le_of_lt cg) _).alloc (by simp; omega) _).drew), (hC.alloc _).alloc _⟩
              · skip
                go_region_held3 (fun w' => w'.cell? ⟨w.heap.size, 0, none⟩ = some (.int .u64 h0) ∧ w'.cell? ⟨w.heap.size, 1, none⟩ = some (.int .u64 h1) ∧ w'.cell? ⟨w.heap.size, 8, none⟩ = some (.int .u64 h8) ∧ w'.cell? ⟨w.heap.size, 9, none⟩ = some (.int .u64 h9)) (simp [go_sem, World.cell?_alloc_past, *])
                  ((go_at_call 21; refine (zero_any _).mono ?_; rintro e w' ⟨rfl, p1, p2, rfl⟩))
                have hs := unhide Hsec
                go_wp2_with fail
                go_meet
                have hC := unhide HC
                exact ⟨_, rfl, by simp [badP, *], (((hB.alloc (Nat.le_of_lt cg) _).alloc (by simp; omega) _).drew), (hC.alloc _).alloc _⟩
          case rest =>
            obtain ⟨b, rfl, hb, hB, hC⟩ := hcut
            have Hp := hide hb; clear hb
            obtain ⟨c0, c1, c8, c9, c10, c12, cg⟩ := hC
            cases b
            · rcases Bool.eq_false_or_eq_true (h10 != 0) with ht | ht <;> rcases Bool.eq_false_or_eq_true (bits .and .i64 f 2 == 0) with h2 | h2
              all_goals
                go_wp2
                go_ret
                exact ⟨by rw [tcode, ← Hb.out, ← Hd.out, ← Hp.out, badT, ht, h2]; rfl, hB⟩
            · go_wp2
              go_ret
              exact ⟨by rw [tcode, ← Hb.out, ← Hd.out, ← Hp.out]; rfl, hB⟩
        · go_wp2
          go_ret
          exact ⟨by rw [tcode, ← Hb.out, ← Hd.out]; rfl, hB⟩
    · go_wp2
      go_ret
      exact ⟨by rw [tcode, ← Hb.out]; rfl, hB⟩
end Go.Proofs.Ytedejbanhhonbaa
