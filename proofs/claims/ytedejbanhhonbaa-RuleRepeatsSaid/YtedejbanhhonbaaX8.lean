/- The walk of the law RuleRepeats: it returns true at whatever transfer and numbers. -/
import Derived.Test.YtedejbanhhonbaaX3
import Derived.Test.YtedejbanhhonbaaX5
import Derived.Test.YtedejbanhhonbaaX7
import Derived.Test.YtedejbanhhonbaaA2
import Derived.Test.YtedejbanhhonbaaB1
import Derived.Deep.DeepCutAuto
import Derived.Deep.CutBlock
namespace Go.Proofs.Ytedejbanhhonbaa
open Go.RowKit
attribute [local go_sem high] eqNum

theorem bcell {W W1 : World} (hb : Below W.heap.size W W1) : (∀ b o, b < W.heap.size → W1.cell? ⟨b, o, none⟩ = W.cell? ⟨b, o, none⟩) ∧ (∀ b o, b < W.heap.size → W1.frozen? ⟨b, o, none⟩ = W.frozen? ⟨b, o, none⟩) :=
  ⟨fun b o h => hb.cell (p := ⟨b, o, none⟩) h, fun b o h => hb.frozen (p := ⟨b, o, none⟩) h⟩
theorem cells_at {w w1 : World} {cs ds : Array Value} {t u : TypeId} (hb : Below ((w.alloc (.cells cs t)).alloc (.cells ds u)).heap.size ((w.alloc (.cells cs t)).alloc (.cells ds u)) w1) (i : Nat) : w1.cell? ⟨w.heap.size, i, none⟩ = cs[i]? := by
  rw [hb.cell (p := ⟨w.heap.size, i, none⟩) (by simp; omega)]
  simp [go_sem, World.cell?_alloc_past]
theorem nEq_refl (a b : Int) : nEq a b a b = true := by simp [nEq]
theorem nEq_hi {a b c d : Int} (h : c ≠ a) : nEq a b c d = false := by simp [nEq, Ne.symm h]
theorem nEq_lo {a b c d : Int} (h : d ≠ b) : nEq a b c d = false := by simp [nEq, Ne.symm h]
theorem bne_of {a b : Int} (h : b ≠ a) : (a != b) = true := by rw [bne_iff_ne]; exact h.symm
theorem mask255 (f : Int) : 0 ≤ bits .and .i64 f 255 ∧ bits .and .i64 f 255 ≤ 255 := by
  have key : ∀ t : Nat, t ≤ 255 → 0 ≤ IntKind.i64.wrap (t : Int) ∧ IntKind.i64.wrap (t : Int) ≤ 255 := by
    intro t ht
    rw [IntKind.wrap_i64]
    omega
  have h := key (BitVec.ofInt 64 f &&& BitVec.ofInt 64 255).toNat (by rw [BitVec.toNat_and]; exact Nat.and_le_right)
  exact h

set_option maxRecDepth 100000 in
set_option maxHeartbeats 4000000 in
/-- RuleRepeats, walked. -/
theorem repeats_walk (h0 h1 h2 h3 h4 h5 h6 h7 h8 h9 h10 h11 h12 h13 h14 h15 n x y : Int) (w0 : Word h0) (w1 : Word h1) (w2 : Word h2) (w3 : Word h3) (w4 : Word h4) (w5 : Word h5) (w6 : Word h6) (w7 : Word h7) (w8 : Word h8) (w9 : Word h9) (w10 : Sixty h10) (w11 : Sixty h11) (w12 : Sixty h12) (w13 : Sixty h13) (w14 : Sixty h14) (w15 : Sixty h15) (w : World) :
    Calls Try.prog 5 #[.agg #[.int .u64 h0, .int .u64 h1, .int .u64 h2, .int .u64 h3, .int .u64 h4, .int .u64 h5, .int .u64 h6, .int .u64 h7, .int .u64 h8, .int .u64 h9, .int .i64 h10, .int .i64 h11, .int .i64 h12, .int .i64 h13, .int .i64 h14, .int .i64 h15], .int .i64 n, .agg #[.int .u64 x, .int .u64 y]] w fun e w' => e = .returned (.bool true) ∧ Below w.heap.size w w' := by
  have fl1 : (bits .andNot .i64 h12 1 != bits .andNot .i64 (bits .xor .i64 h12 1) 1) = false := by rw [flags_xor1]; simp
  have fl2 := bne_of (flags_xor2 h12)
  have nd : nEq h2 h3 h2 (bits .xor .u64 h3 1) = false := nEq_lo (xor_ne_u 1 w3.1 w3.2 (by decide))
  have nc : nEq h4 h5 (bits .xor .u64 h4 1) h5 = false := nEq_hi (xor_ne_u 1 w4.1 w4.2 (by decide))
  have na : nEq h6 h7 h6 (bits .xor .u64 h7 4) = false := nEq_lo (xor_ne_u 4 w7.1 w7.2 (by decide))
  have np : nEq h8 h9 h8 (bits .xor .u64 h9 1) = false := nEq_lo (xor_ne_u 1 w9.1 w9.2 (by decide))
  have nt := bne_of (xor_ne_i 1 w10.1 w10.2 (by decide))
  have nl1 := bne_of (xor_ne_i 1 w11.1 w11.2 (by decide))
  have nl2 := bne_of (xor_ne_i 2 w11.1 w11.2 (by decide))
  have nl12 := bne_of (xor12_ne w11.1 w11.2)
  have FL1 := hide fl1; clear fl1
  have FL2 := hide fl2; clear fl2
  have ND := hide nd; clear nd
  have NC := hide nc; clear nc
  have NA := hide na; clear na
  have NP := hide np; clear np
  have NT := hide nt; clear nt
  have NL1 := hide nl1; clear nl1
  have NL2 := hide nl2; clear nl2
  have NL12 := hide nl12; clear nl12
  clear w0 w1 w2 w3 w4 w5 w6 w7 w8 w9 w10 w11 w12 w13 w14 w15
  obtain ⟨m0, m1⟩ := mask255 n
  go_enter Try.func5, Try.ntmps5
  go_wp2_with fail
  refine (fit_any _).mono ?_
  rintro e w1 ⟨rfl, hb1⟩
  have bt : w1.heap[w.heap.size]? = some (.cells #[.int .u64 h0, .int .u64 h1, .int .u64 h2, .int .u64 h3, .int .u64 h4, .int .u64 h5, .int .u64 h6, .int .u64 h7, .int .u64 h8, .int .u64 h9, .int .i64 h10, .int .i64 h11, .int .i64 h12, .int .i64 h13, .int .i64 h14, .int .i64 h15] 26 (0, 0)) := row_below (row_alloc (row_new w _) (by simp)) hb1 (by simp; omega)
  have BT := hide bt; clear bt
  have hlt : w.heap.size < w1.heap.size := by have := hb1.size; simp at this; omega
  have hbw : Below w.heap.size w w1 := (((Below.refl _ _).alloc (Nat.le_refl _) _).alloc (by simp) _).trans (hb1.mono (by simp; omega))
  have hbz := hbw.size
  clear hb1
  go_upto_region 6 with (first | (refine load_T BT.out rfl rfl rfl rfl ?_) | (refine store_T rfl rfl rfl rfl rfl rfl rfl ?_))
  have q0 : 0 ≤ bits .and .i64 n 255 % 9 := by omega
  have q1 : bits .and .i64 n 255 % 9 ≤ 8 := by omega
  generalize bits .and .i64 n 255 % 9 = m at q0 q1 ⊢
  clear m0 m1
  go_upto_block 0 with fail
  go_cut [8] (fun s wx => ∃ o0 o1 o2 o3 o4 o5 o6 o7 o8 o9 o10 o11 o12 o13 o14 o15 p q : Int, wx = w1.alloc (.cells #[.int .u64 o0, .int .u64 o1, .int .u64 o2, .int .u64 o3, .int .u64 o4, .int .u64 o5, .int .u64 o6, .int .u64 o7, .int .u64 o8, .int .u64 o9, .int .i64 o10, .int .i64 o11, .int .i64 o12, .int .i64 o13, .int .i64 o14, .int .i64 o15] 26) ∧ s = .int .i64 p ∧
    rcode h2 h3 h4 h5 h6 h7 h8 h9 h10 h11 h12 o2 o3 o4 o5 o6 o7 o8 o9 o10 (bits .xor .i64 o11 2) o12 = q ∧ rcode h2 h3 h4 h5 h6 h7 h8 h9 h10 h11 h12 o2 o3 o4 o5 o6 o7 o8 o9 o10 o11 o12 = p ∧ ((p = 14 ∧ q = 7) ∨ ((p == 14) = false ∧ q = p)))
  case first =>
    have hm : m = 0 ∨ m = 1 ∨ m = 2 ∨ m = 3 ∨ m = 4 ∨ m = 5 ∨ m = 6 ∨ m = 7 ∨ m = 8 := by omega
    rcases hm with rfl | rfl | rfl | rfl | rfl | rfl | rfl | rfl | rfl
    · as_aux_lemma =>
          go_wp2
          go_meet
          exact ⟨h0, h1, h2, h3, h4, h5, h6, h7, h8, h9, h10, h11, (bits .xor .i64 h12 1), h13, h14, h15, 14, 7, rfl, rfl, by simp only [rcode, nEq_refl, bne_self_eq_false, FL1.out, NL2.out]; rfl, by simp only [rcode, nEq_refl, bne_self_eq_false, FL1.out]; rfl, .inl ⟨rfl, rfl⟩⟩
    · as_aux_lemma =>
          go_wp2
          go_meet
          exact ⟨h0, h1, h2, h3, h4, h5, h6, h7, h8, h9, h10, h11, (bits .xor .i64 h12 2), h13, h14, h15, 8, 8, rfl, rfl, by simp only [rcode, nEq_refl, bne_self_eq_false, FL2.out, NL2.out]; rfl, by simp only [rcode, nEq_refl, bne_self_eq_false, FL2.out]; rfl, .inr ⟨rfl, rfl⟩⟩
    · as_aux_lemma =>
          go_wp2
          go_meet
          exact ⟨h0, h1, h2, (bits .xor .u64 h3 1), h4, h5, h6, h7, h8, h9, h10, h11, h12, h13, h14, h15, 9, 9, rfl, rfl, by simp only [rcode, nEq_refl, bne_self_eq_false, ND.out, NL2.out]; rfl, by simp only [rcode, nEq_refl, bne_self_eq_false, ND.out]; rfl, .inr ⟨rfl, rfl⟩⟩
    · as_aux_lemma =>
          go_wp2
          go_meet
          exact ⟨h0, h1, h2, h3, (bits .xor .u64 h4 1), h5, h6, h7, h8, h9, h10, h11, h12, h13, h14, h15, 10, 10, rfl, rfl, by simp only [rcode, nEq_refl, bne_self_eq_false, NC.out, NL2.out]; rfl, by simp only [rcode, nEq_refl, bne_self_eq_false, NC.out]; rfl, .inr ⟨rfl, rfl⟩⟩
    · as_aux_lemma =>
          go_wp2
          go_meet
          exact ⟨h0, h1, h2, h3, h4, h5, h6, (bits .xor .u64 h7 4), h8, h9, h10, h11, h12, h13, h14, h15, 11, 11, rfl, rfl, by simp only [rcode, nEq_refl, bne_self_eq_false, NA.out, NL2.out]; rfl, by simp only [rcode, nEq_refl, bne_self_eq_false, NA.out]; rfl, .inr ⟨rfl, rfl⟩⟩
    · as_aux_lemma =>
          go_wp2
          go_meet
          exact ⟨h0, h1, h2, h3, h4, h5, h6, h7, h8, (bits .xor .u64 h9 1), h10, h11, h12, h13, h14, h15, 12, 12, rfl, rfl, by simp only [rcode, nEq_refl, bne_self_eq_false, NP.out, NL2.out]; rfl, by simp only [rcode, nEq_refl, bne_self_eq_false, NP.out]; rfl, .inr ⟨rfl, rfl⟩⟩
    · as_aux_lemma =>
          go_wp2
          go_meet
          exact ⟨h0, h1, h2, h3, h4, h5, h6, h7, h8, h9, (bits .xor .i64 h10 1), h11, h12, h13, h14, h15, 13, 13, rfl, rfl, by simp only [rcode, nEq_refl, bne_self_eq_false, NT.out, NL2.out]; rfl, by simp only [rcode, nEq_refl, bne_self_eq_false, NT.out]; rfl, .inr ⟨rfl, rfl⟩⟩
    · as_aux_lemma =>
          go_wp2
          go_meet
          exact ⟨h0, h1, h2, h3, h4, h5, h6, h7, h8, h9, h10, (bits .xor .i64 h11 1), h12, h13, h14, h15, 7, 7, rfl, rfl, by simp only [rcode, nEq_refl, bne_self_eq_false, NL12.out]; rfl, by simp only [rcode, nEq_refl, bne_self_eq_false, NL1.out]; rfl, .inr ⟨rfl, rfl⟩⟩
    · as_aux_lemma =>
          go_wp2
          go_meet
          exact ⟨h0, h1, h2, h3, h4, h5, h6, h7, h8, h9, h10, h11, h12, 7, 8, 2, 14, 7, rfl, rfl, by simp only [rcode, nEq_refl, bne_self_eq_false, NL2.out]; rfl, by simp only [rcode, nEq_refl, bne_self_eq_false]; rfl, .inl ⟨rfl, rfl⟩⟩
  case rest =>
   as_aux_lemma =>
    obtain ⟨o0, o1, o2, o3, o4, o5, o6, o7, o8, o9, o10, o11, o12, o13, o14, o15, p, q, rfl, rfl, e1, e2, e3⟩ := hcut
    have E1 := hide e1; have E2 := hide e2; clear e1 e2
    have bo : (w1.alloc (.cells #[.int .u64 o0, .int .u64 o1, .int .u64 o2, .int .u64 o3, .int .u64 o4, .int .u64 o5, .int .u64 o6, .int .u64 o7, .int .u64 o8, .int .u64 o9, .int .i64 o10, .int .i64 o11, .int .i64 o12, .int .i64 o13, .int .i64 o14, .int .i64 o15] 26)).heap[w1.heap.size]? = some (.cells #[.int .u64 o0, .int .u64 o1, .int .u64 o2, .int .u64 o3, .int .u64 o4, .int .u64 o5, .int .u64 o6, .int .u64 o7, .int .u64 o8, .int .u64 o9, .int .i64 o10, .int .i64 o11, .int .i64 o12, .int .i64 o13, .int .i64 o14, .int .i64 o15] 26 (0, 0)) := row_new w1 _
    have BO := hide bo; clear bo
    go_upto_region 33 with (first | (refine load_T BO.out rfl rfl rfl rfl ?_) | (refine store_T rfl rfl rfl rfl rfl rfl rfl ?_))
    have bt : ((w1.alloc (.cells #[.int .u64 o0, .int .u64 o1, .int .u64 o2, .int .u64 o3, .int .u64 o4, .int .u64 o5, .int .u64 o6, .int .u64 o7, .int .u64 o8, .int .u64 o9, .int .i64 o10, .int .i64 o11, .int .i64 o12, .int .i64 o13, .int .i64 o14, .int .i64 o15] 26)).alloc (.cells #[.int .u64 o0, .int .u64 o1, .int .u64 o2, .int .u64 o3, .int .u64 o4, .int .u64 o5, .int .u64 o6, .int .u64 o7, .int .u64 o8, .int .u64 o9, .int .i64 o10, .int .i64 (bits .xor .i64 o11 2), .int .i64 o12, .int .i64 o13, .int .i64 o14, .int .i64 o15] 26)).heap[w.heap.size]? = some (.cells #[.int .u64 h0, .int .u64 h1, .int .u64 h2, .int .u64 h3, .int .u64 h4, .int .u64 h5, .int .u64 h6, .int .u64 h7, .int .u64 h8, .int .u64 h9, .int .i64 h10, .int .i64 h11, .int .i64 h12, .int .i64 h13, .int .i64 h14, .int .i64 h15] 26 (0, 0)) := row_alloc (row_alloc BT.out hlt) (by simp; omega)
    have bo : ((w1.alloc (.cells #[.int .u64 o0, .int .u64 o1, .int .u64 o2, .int .u64 o3, .int .u64 o4, .int .u64 o5, .int .u64 o6, .int .u64 o7, .int .u64 o8, .int .u64 o9, .int .i64 o10, .int .i64 o11, .int .i64 o12, .int .i64 o13, .int .i64 o14, .int .i64 o15] 26)).alloc (.cells #[.int .u64 o0, .int .u64 o1, .int .u64 o2, .int .u64 o3, .int .u64 o4, .int .u64 o5, .int .u64 o6, .int .u64 o7, .int .u64 o8, .int .u64 o9, .int .i64 o10, .int .i64 (bits .xor .i64 o11 2), .int .i64 o12, .int .i64 o13, .int .i64 o14, .int .i64 o15] 26)).heap[w1.heap.size]? = some (.cells #[.int .u64 o0, .int .u64 o1, .int .u64 o2, .int .u64 o3, .int .u64 o4, .int .u64 o5, .int .u64 o6, .int .u64 o7, .int .u64 o8, .int .u64 o9, .int .i64 o10, .int .i64 o11, .int .i64 o12, .int .i64 o13, .int .i64 o14, .int .i64 o15] 26 (0, 0)) := row_alloc BO.out (by simp)
    have bb : ((w1.alloc (.cells #[.int .u64 o0, .int .u64 o1, .int .u64 o2, .int .u64 o3, .int .u64 o4, .int .u64 o5, .int .u64 o6, .int .u64 o7, .int .u64 o8, .int .u64 o9, .int .i64 o10, .int .i64 o11, .int .i64 o12, .int .i64 o13, .int .i64 o14, .int .i64 o15] 26)).alloc (.cells #[.int .u64 o0, .int .u64 o1, .int .u64 o2, .int .u64 o3, .int .u64 o4, .int .u64 o5, .int .u64 o6, .int .u64 o7, .int .u64 o8, .int .u64 o9, .int .i64 o10, .int .i64 (bits .xor .i64 o11 2), .int .i64 o12, .int .i64 o13, .int .i64 o14, .int .i64 o15] 26)).heap[w1.heap.size + 1]? = some (.cells #[.int .u64 o0, .int .u64 o1, .int .u64 o2, .int .u64 o3, .int .u64 o4, .int .u64 o5, .int .u64 o6, .int .u64 o7, .int .u64 o8, .int .u64 o9, .int .i64 o10, .int .i64 (bits .xor .i64 o11 2), .int .i64 o12, .int .i64 o13, .int .i64 o14, .int .i64 o15] 26 (0, 0)) := heap_alloc2_new w1 _ _
    have hB2 : Below w.heap.size w ((w1.alloc (.cells #[.int .u64 o0, .int .u64 o1, .int .u64 o2, .int .u64 o3, .int .u64 o4, .int .u64 o5, .int .u64 o6, .int .u64 o7, .int .u64 o8, .int .u64 o9, .int .i64 o10, .int .i64 o11, .int .i64 o12, .int .i64 o13, .int .i64 o14, .int .i64 o15] 26)).alloc (.cells #[.int .u64 o0, .int .u64 o1, .int .u64 o2, .int .u64 o3, .int .u64 o4, .int .u64 o5, .int .u64 o6, .int .u64 o7, .int .u64 o8, .int .u64 o9, .int .i64 o10, .int .i64 (bits .xor .i64 o11 2), .int .i64 o12, .int .i64 o13, .int .i64 o14, .int .i64 o15] 26)) := (hbw.alloc hbz _).alloc (by simp; omega) _
    have hl2 : w1.heap.size + 1 < ((w1.alloc (.cells #[.int .u64 o0, .int .u64 o1, .int .u64 o2, .int .u64 o3, .int .u64 o4, .int .u64 o5, .int .u64 o6, .int .u64 o7, .int .u64 o8, .int .u64 o9, .int .i64 o10, .int .i64 o11, .int .i64 o12, .int .i64 o13, .int .i64 o14, .int .i64 o15] 26)).alloc (.cells #[.int .u64 o0, .int .u64 o1, .int .u64 o2, .int .u64 o3, .int .u64 o4, .int .u64 o5, .int .u64 o6, .int .u64 o7, .int .u64 o8, .int .u64 o9, .int .i64 o10, .int .i64 (bits .xor .i64 o11 2), .int .i64 o12, .int .i64 o13, .int .i64 o14, .int .i64 o15] 26)).heap.size := by simp
    clear BT BO
    generalize ((w1.alloc (.cells #[.int .u64 o0, .int .u64 o1, .int .u64 o2, .int .u64 o3, .int .u64 o4, .int .u64 o5, .int .u64 o6, .int .u64 o7, .int .u64 o8, .int .u64 o9, .int .i64 o10, .int .i64 o11, .int .i64 o12, .int .i64 o13, .int .i64 o14, .int .i64 o15] 26)).alloc (.cells #[.int .u64 o0, .int .u64 o1, .int .u64 o2, .int .u64 o3, .int .u64 o4, .int .u64 o5, .int .u64 o6, .int .u64 o7, .int .u64 o8, .int .u64 o9, .int .i64 o10, .int .i64 (bits .xor .i64 o11 2), .int .i64 o12, .int .i64 o13, .int .i64 o14, .int .i64 o15] 26)) = W at bt bo bb hB2 hl2 ⊢
    have BT := hide bt; have BO := hide bo; have BB := hide bb; clear bt bo bb
    have hz2 := hB2.size
    rcases e3 with ⟨rfl, rfl⟩ | ⟨e3, rfl⟩
    all_goals
     as_aux_lemma =>
      go_wp2_with (first | (refine load_T BT.out rfl rfl rfl rfl ?_) | (refine load_T BB.out rfl rfl rfl rfl ?_) | fail)
      refine (repeat_any _ _ _ _ _ _ _ _ _ _ _ _ _ _ _ _ _ _ _ _ _ _ _ _ _ _ _ _ _ _ _ _ _).mono ?_
      rintro e w2 ⟨rfl, hb2⟩
      rw [E1.out]
      have bt := row_below BT.out hb2 (by omega)
      have bo := row_below BO.out hb2 (by omega)
      clear BT BO BB
      have BT := hide bt; have BO := hide bo; clear bt bo
      go_wp2_with (first | (refine load_T BT.out rfl rfl rfl rfl ?_) | (refine load_T BO.out rfl rfl rfl rfl ?_) | fail)
      refine (repeat_any _ _ _ _ _ _ _ _ _ _ _ _ _ _ _ _ _ _ _ _ _ _ _ _ _ _ _ _ _ _ _ _ _).mono ?_
      rintro e w3 ⟨rfl, hb3⟩
      rw [E2.out]
      go_wp2
      go_ret
      exact ⟨rfl, (hB2.trans (hb2.mono hz2)).trans (hb3.mono (Nat.le_trans hz2 hb2.size))⟩
end Go.Proofs.Ytedejbanhhonbaa
