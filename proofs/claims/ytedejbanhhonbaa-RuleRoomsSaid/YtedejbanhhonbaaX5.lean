/- What the arguments of the laws look like as values: numbers of 128 bits, transfers, accounts. -/
import Derived.Test.YtedejbanhhonbaaA1
import Derived.ProofKit
import Derived.Carry
namespace Go.Proofs.Ytedejbanhhonbaa
open Go.ChangeShapes Go.WideShapes Go.ChangeAt Go.RowKit

theorem own : ownKnob Try.prog.godebug = none := by kernel_rfl
theorem laidOut : laidOutB Try.prog = true := by kernel_rfl
theorem cells24 : Try.prog.cellsOf 24 = 2 := by kernel_rfl
theorem cells26 : Try.prog.cellsOf 26 = 16 := by kernel_rfl
theorem cells39 : Try.prog.cellsOf 39 = 46 := by kernel_rfl
theorem cells22 : Try.prog.cellsOf 22 = 1 := by kernel_rfl
theorem cells3 : Try.prog.cellsOf 3 = 1 := by kernel_rfl

/-- A word of 64 bits; a whole number of 64 bits with its sign. -/
def Word (x : Int) : Prop := 0 ≤ x ∧ x < 18446744073709551616
def Sixty (x : Int) : Prop := -9223372036854775808 ≤ x ∧ x < 9223372036854775808
theorem word_of_wf {x : Int} (h : (Lit.int .u64 x).wf = true) : Word x := by
  simp [Lit.wf, IntKind.min, IntKind.max, IntKind.signed, IntKind.bits] at h
  exact ⟨by omega, by omega⟩
theorem sixty_of_wf {x : Int} (h : (Lit.int .i64 x).wf = true) : Sixty x := by
  simp [Lit.wf, IntKind.min, IntKind.max, IntKind.signed, IntKind.bits] at h
  exact ⟨by omega, by omega⟩
theorem cons_of {α : Type} {n : Nat} {l : List α} (h : l.length = n + 1) : ∃ x l', l = x :: l' ∧ l'.length = n := by
  match l, h with
  | x :: l', h => exact ⟨x, l', rfl, by simpa using h⟩
theorem list2 {α : Type} {l : List α} (h : l.length = 2) : ∃ x0 x1, l = [x0, x1] := by
  obtain ⟨x0, l0, rfl, h0⟩ := cons_of h
  obtain ⟨x1, l1, rfl, h1⟩ := cons_of h0
  obtain rfl := List.eq_nil_of_length_eq_zero h1
  exact ⟨x0, x1, rfl⟩
theorem list16 {α : Type} {l : List α} (h : l.length = 16) : ∃ x0 x1 x2 x3 x4 x5 x6 x7 x8 x9 x10 x11 x12 x13 x14 x15, l = [x0, x1, x2, x3, x4, x5, x6, x7, x8, x9, x10, x11, x12, x13, x14, x15] := by
  obtain ⟨x0, l0, rfl, h0⟩ := cons_of h
  obtain ⟨x1, l1, rfl, h1⟩ := cons_of h0
  obtain ⟨x2, l2, rfl, h2⟩ := cons_of h1
  obtain ⟨x3, l3, rfl, h3⟩ := cons_of h2
  obtain ⟨x4, l4, rfl, h4⟩ := cons_of h3
  obtain ⟨x5, l5, rfl, h5⟩ := cons_of h4
  obtain ⟨x6, l6, rfl, h6⟩ := cons_of h5
  obtain ⟨x7, l7, rfl, h7⟩ := cons_of h6
  obtain ⟨x8, l8, rfl, h8⟩ := cons_of h7
  obtain ⟨x9, l9, rfl, h9⟩ := cons_of h8
  obtain ⟨x10, l10, rfl, h10⟩ := cons_of h9
  obtain ⟨x11, l11, rfl, h11⟩ := cons_of h10
  obtain ⟨x12, l12, rfl, h12⟩ := cons_of h11
  obtain ⟨x13, l13, rfl, h13⟩ := cons_of h12
  obtain ⟨x14, l14, rfl, h14⟩ := cons_of h13
  obtain ⟨x15, l15, rfl, h15⟩ := cons_of h14
  obtain rfl := List.eq_nil_of_length_eq_zero h15
  exact ⟨x0, x1, x2, x3, x4, x5, x6, x7, x8, x9, x10, x11, x12, x13, x14, x15, rfl⟩
theorem list46 {α : Type} {l : List α} (h : l.length = 46) : ∃ x0 x1 x2 x3 x4 x5 x6 x7 x8 x9 x10 x11 x12 x13 x14 x15 x16 x17 x18 x19 x20 x21 x22 x23 x24 x25 x26 x27 x28 x29 x30 x31 x32 x33 x34 x35 x36 x37 x38 x39 x40 x41 x42 x43 x44 x45, l = [x0, x1, x2, x3, x4, x5, x6, x7, x8, x9, x10, x11, x12, x13, x14, x15, x16, x17, x18, x19, x20, x21, x22, x23, x24, x25, x26, x27, x28, x29, x30, x31, x32, x33, x34, x35, x36, x37, x38, x39, x40, x41, x42, x43, x44, x45] := by
  obtain ⟨x0, l0, rfl, h0⟩ := cons_of h
  obtain ⟨x1, l1, rfl, h1⟩ := cons_of h0
  obtain ⟨x2, l2, rfl, h2⟩ := cons_of h1
  obtain ⟨x3, l3, rfl, h3⟩ := cons_of h2
  obtain ⟨x4, l4, rfl, h4⟩ := cons_of h3
  obtain ⟨x5, l5, rfl, h5⟩ := cons_of h4
  obtain ⟨x6, l6, rfl, h6⟩ := cons_of h5
  obtain ⟨x7, l7, rfl, h7⟩ := cons_of h6
  obtain ⟨x8, l8, rfl, h8⟩ := cons_of h7
  obtain ⟨x9, l9, rfl, h9⟩ := cons_of h8
  obtain ⟨x10, l10, rfl, h10⟩ := cons_of h9
  obtain ⟨x11, l11, rfl, h11⟩ := cons_of h10
  obtain ⟨x12, l12, rfl, h12⟩ := cons_of h11
  obtain ⟨x13, l13, rfl, h13⟩ := cons_of h12
  obtain ⟨x14, l14, rfl, h14⟩ := cons_of h13
  obtain ⟨x15, l15, rfl, h15⟩ := cons_of h14
  obtain ⟨x16, l16, rfl, h16⟩ := cons_of h15
  obtain ⟨x17, l17, rfl, h17⟩ := cons_of h16
  obtain ⟨x18, l18, rfl, h18⟩ := cons_of h17
  obtain ⟨x19, l19, rfl, h19⟩ := cons_of h18
  obtain ⟨x20, l20, rfl, h20⟩ := cons_of h19
  obtain ⟨x21, l21, rfl, h21⟩ := cons_of h20
  obtain ⟨x22, l22, rfl, h22⟩ := cons_of h21
  obtain ⟨x23, l23, rfl, h23⟩ := cons_of h22
  obtain ⟨x24, l24, rfl, h24⟩ := cons_of h23
  obtain ⟨x25, l25, rfl, h25⟩ := cons_of h24
  obtain ⟨x26, l26, rfl, h26⟩ := cons_of h25
  obtain ⟨x27, l27, rfl, h27⟩ := cons_of h26
  obtain ⟨x28, l28, rfl, h28⟩ := cons_of h27
  obtain ⟨x29, l29, rfl, h29⟩ := cons_of h28
  obtain ⟨x30, l30, rfl, h30⟩ := cons_of h29
  obtain ⟨x31, l31, rfl, h31⟩ := cons_of h30
  obtain ⟨x32, l32, rfl, h32⟩ := cons_of h31
  obtain ⟨x33, l33, rfl, h33⟩ := cons_of h32
  obtain ⟨x34, l34, rfl, h34⟩ := cons_of h33
  obtain ⟨x35, l35, rfl, h35⟩ := cons_of h34
  obtain ⟨x36, l36, rfl, h36⟩ := cons_of h35
  obtain ⟨x37, l37, rfl, h37⟩ := cons_of h36
  obtain ⟨x38, l38, rfl, h38⟩ := cons_of h37
  obtain ⟨x39, l39, rfl, h39⟩ := cons_of h38
  obtain ⟨x40, l40, rfl, h40⟩ := cons_of h39
  obtain ⟨x41, l41, rfl, h41⟩ := cons_of h40
  obtain ⟨x42, l42, rfl, h42⟩ := cons_of h41
  obtain ⟨x43, l43, rfl, h43⟩ := cons_of h42
  obtain ⟨x44, l44, rfl, h44⟩ := cons_of h43
  obtain ⟨x45, l45, rfl, h45⟩ := cons_of h44
  obtain rfl := List.eq_nil_of_length_eq_zero h45
  exact ⟨x0, x1, x2, x3, x4, x5, x6, x7, x8, x9, x10, x11, x12, x13, x14, x15, x16, x17, x18, x19, x20, x21, x22, x23, x24, x25, x26, x27, x28, x29, x30, x31, x32, x33, x34, x35, x36, x37, x38, x39, x40, x41, x42, x43, x44, x45, rfl⟩

section
variable {H : Type} {enc : TypeId × Value → H} {w : World} {base : Nat} {spare : Nat → Bool} {held : Bool} {fuel : Nat}
theorem word_open {cs : List Value} {x : DataW H × List MemPlace} (h : DataW.trod enc Try.prog w base spare held fuel 22 cs = some x) : ∃ a : Int, cs = [.int .u64 a] ∧ Word a := by
  obtain ⟨a, e, _, hw⟩ := DataW.trod_int Try.underlying22 h
  exact ⟨a, e, word_of_wf hw⟩
theorem int_open {cs : List Value} {x : DataW H × List MemPlace} (h : DataW.trod enc Try.prog w base spare held fuel 3 cs = some x) : ∃ a : Int, cs = [.int .i64 a] ∧ Sixty a := by
  obtain ⟨a, e, _, hw⟩ := DataW.trod_int Try.underlying3 h
  exact ⟨a, e, sixty_of_wf hw⟩
/-- Each field of a struct that reads, reads. -/
theorem fields_open {t : TypeId} {fs : Array Field} {cs : List Value} {x : DataW H × List MemPlace} (ht : Try.prog.underlying t = some (.struct fs)) (h : DataW.trod enc Try.prog w base spare held fuel t cs = some x) :
    cs.length = Try.prog.cellsOf t ∧ ∃ n, ∀ (i : Nat) (f : Field), fs[i]? = some f → ∃ y, DataW.trod enc Try.prog w base spare held n f.type ((cs.drop f.offset).take (Try.prog.cellsOf f.type)) = some y := by
  obtain ⟨xs, n, _, _, hl, hx, hf⟩ := DataW.trod_struct ht h
  refine ⟨hl, n, fun i f hi => ?_⟩
  have hlt : i < xs.length := by rw [hx]; exact (Array.getElem?_eq_some_iff.1 hi).1
  exact ⟨xs[i], (hf i f hi).trans (List.getElem?_eq_getElem hlt)⟩
theorem num_open {cs : List Value} {x : DataW H × List MemPlace} (h : DataW.trod enc Try.prog w base spare held fuel 24 cs = some x) : ∃ a b : Int, cs = [.int .u64 a, .int .u64 b] ∧ Word a ∧ Word b := by
  obtain ⟨hl, n, hf⟩ := fields_open Try.underlying24 h
  rw [cells24] at hl
  obtain ⟨c0, c1, rfl⟩ := list2 hl
  obtain ⟨y0, g0⟩ := hf 0 _ rfl
  obtain ⟨y1, g1⟩ := hf 1 _ rfl
  have k0 : DataW.trod enc Try.prog w base spare held n 22 ((List.drop 0 [c0, c1]).take (Try.prog.cellsOf 22)) = some y0 := g0
  have k1 : DataW.trod enc Try.prog w base spare held n 22 ((List.drop 1 [c0, c1]).take (Try.prog.cellsOf 22)) = some y1 := g1
  rw [cells22] at k0 k1
  obtain ⟨a, e0, w0⟩ := word_open k0
  obtain ⟨b, e1, w1⟩ := word_open k1
  obtain rfl : c0 = .int .u64 a := by simpa using e0
  obtain rfl : c1 = .int .u64 b := by simpa using e1
  exact ⟨a, b, rfl, w0, w1⟩
theorem transfer_cells {cs : List Value} {x : DataW H × List MemPlace} (h : DataW.trod enc Try.prog w base spare held fuel 26 cs = some x) :
    ∃ a0 a1 a2 a3 a4 a5 a6 a7 a8 a9 a10 a11 a12 a13 a14 a15 : Int, cs = [.int .u64 a0, .int .u64 a1, .int .u64 a2, .int .u64 a3, .int .u64 a4, .int .u64 a5, .int .u64 a6, .int .u64 a7, .int .u64 a8, .int .u64 a9, .int .i64 a10, .int .i64 a11, .int .i64 a12, .int .i64 a13, .int .i64 a14, .int .i64 a15] ∧ Word a0 ∧ Word a1 ∧ Word a2 ∧ Word a3 ∧ Word a4 ∧ Word a5 ∧ Word a6 ∧ Word a7 ∧ Word a8 ∧ Word a9 ∧ Sixty a10 ∧ Sixty a11 ∧ Sixty a12 ∧ Sixty a13 ∧ Sixty a14 ∧ Sixty a15 := by
  obtain ⟨hl, n, hf⟩ := fields_open Try.underlying26 h
  rw [cells26] at hl
  obtain ⟨c0, c1, c2, c3, c4, c5, c6, c7, c8, c9, c10, c11, c12, c13, c14, c15, rfl⟩ := list16 hl
  obtain ⟨y0, g0⟩ := hf 0 _ rfl
  have k0 : DataW.trod enc Try.prog w base spare held n 24 ((List.drop 0 _).take (Try.prog.cellsOf 24)) = some y0 := g0
  clear g0
  rw [cells24] at k0
  obtain ⟨a0, a1, e0, w0, w1⟩ := num_open k0
  obtain ⟨rfl, rfl⟩ : c0 = .int .u64 a0 ∧ c1 = .int .u64 a1 := by simpa using e0
  clear k0 e0
  obtain ⟨y1, g1⟩ := hf 1 _ rfl
  have k1 : DataW.trod enc Try.prog w base spare held n 24 ((List.drop 2 _).take (Try.prog.cellsOf 24)) = some y1 := g1
  clear g1
  rw [cells24] at k1
  obtain ⟨a2, a3, e1, w2, w3⟩ := num_open k1
  obtain ⟨rfl, rfl⟩ : c2 = .int .u64 a2 ∧ c3 = .int .u64 a3 := by simpa using e1
  clear k1 e1
  obtain ⟨y2, g2⟩ := hf 2 _ rfl
  have k2 : DataW.trod enc Try.prog w base spare held n 24 ((List.drop 4 _).take (Try.prog.cellsOf 24)) = some y2 := g2
  clear g2
  rw [cells24] at k2
  obtain ⟨a4, a5, e2, w4, w5⟩ := num_open k2
  obtain ⟨rfl, rfl⟩ : c4 = .int .u64 a4 ∧ c5 = .int .u64 a5 := by simpa using e2
  clear k2 e2
  obtain ⟨y3, g3⟩ := hf 3 _ rfl
  have k3 : DataW.trod enc Try.prog w base spare held n 24 ((List.drop 6 _).take (Try.prog.cellsOf 24)) = some y3 := g3
  clear g3
  rw [cells24] at k3
  obtain ⟨a6, a7, e3, w6, w7⟩ := num_open k3
  obtain ⟨rfl, rfl⟩ : c6 = .int .u64 a6 ∧ c7 = .int .u64 a7 := by simpa using e3
  clear k3 e3
  obtain ⟨y4, g4⟩ := hf 4 _ rfl
  have k4 : DataW.trod enc Try.prog w base spare held n 24 ((List.drop 8 _).take (Try.prog.cellsOf 24)) = some y4 := g4
  clear g4
  rw [cells24] at k4
  obtain ⟨a8, a9, e4, w8, w9⟩ := num_open k4
  obtain ⟨rfl, rfl⟩ : c8 = .int .u64 a8 ∧ c9 = .int .u64 a9 := by simpa using e4
  clear k4 e4
  obtain ⟨y5, g5⟩ := hf 5 _ rfl
  have k5 : DataW.trod enc Try.prog w base spare held n 3 ((List.drop 10 _).take (Try.prog.cellsOf 3)) = some y5 := g5
  clear g5
  rw [cells3] at k5
  obtain ⟨a10, e5, w10⟩ := int_open k5
  obtain rfl : c10 = .int .i64 a10 := by simpa using e5
  clear k5 e5
  obtain ⟨y6, g6⟩ := hf 6 _ rfl
  have k6 : DataW.trod enc Try.prog w base spare held n 3 ((List.drop 11 _).take (Try.prog.cellsOf 3)) = some y6 := g6
  clear g6
  rw [cells3] at k6
  obtain ⟨a11, e6, w11⟩ := int_open k6
  obtain rfl : c11 = .int .i64 a11 := by simpa using e6
  clear k6 e6
  obtain ⟨y7, g7⟩ := hf 7 _ rfl
  have k7 : DataW.trod enc Try.prog w base spare held n 3 ((List.drop 12 _).take (Try.prog.cellsOf 3)) = some y7 := g7
  clear g7
  rw [cells3] at k7
  obtain ⟨a12, e7, w12⟩ := int_open k7
  obtain rfl : c12 = .int .i64 a12 := by simpa using e7
  clear k7 e7
  obtain ⟨y8, g8⟩ := hf 8 _ rfl
  have k8 : DataW.trod enc Try.prog w base spare held n 3 ((List.drop 13 _).take (Try.prog.cellsOf 3)) = some y8 := g8
  clear g8
  rw [cells3] at k8
  obtain ⟨a13, e8, w13⟩ := int_open k8
  obtain rfl : c13 = .int .i64 a13 := by simpa using e8
  clear k8 e8
  obtain ⟨y9, g9⟩ := hf 9 _ rfl
  have k9 : DataW.trod enc Try.prog w base spare held n 3 ((List.drop 14 _).take (Try.prog.cellsOf 3)) = some y9 := g9
  clear g9
  rw [cells3] at k9
  obtain ⟨a14, e9, w14⟩ := int_open k9
  obtain rfl : c14 = .int .i64 a14 := by simpa using e9
  clear k9 e9
  obtain ⟨y10, g10⟩ := hf 10 _ rfl
  have k10 : DataW.trod enc Try.prog w base spare held n 3 ((List.drop 15 _).take (Try.prog.cellsOf 3)) = some y10 := g10
  clear g10
  rw [cells3] at k10
  obtain ⟨a15, e10, w15⟩ := int_open k10
  obtain rfl : c15 = .int .i64 a15 := by simpa using e10
  clear k10 e10
  exact ⟨a0, a1, a2, a3, a4, a5, a6, a7, a8, a9, a10, a11, a12, a13, a14, a15, rfl, w0, w1, w2, w3, w4, w5, w6, w7, w8, w9, w10, w11, w12, w13, w14, w15⟩
theorem account_cells {cs : List Value} {x : DataW H × List MemPlace} (h : DataW.trod enc Try.prog w base spare held fuel 39 cs = some x) :
    ∃ a0 a1 a2 a3 a4 a5 a6 a7 a8 a9 a10 a11 a12 a13 : Int, ∃ r0 r1 r2 r3 r4 r5 r6 r7 r8 r9 r10 r11 r12 r13 r14 r15 r16 r17 r18 r19 r20 r21 r22 r23 r24 r25 r26 r27 r28 r29 r30 r31 : Value, cs = [.int .u64 a0, .int .u64 a1, .int .i64 a2, .int .i64 a3, .int .u64 a4, .int .u64 a5, .int .u64 a6, .int .u64 a7, .int .u64 a8, .int .u64 a9, .int .u64 a10, .int .u64 a11, .int .i64 a12, .int .i64 a13, r0, r1, r2, r3, r4, r5, r6, r7, r8, r9, r10, r11, r12, r13, r14, r15, r16, r17, r18, r19, r20, r21, r22, r23, r24, r25, r26, r27, r28, r29, r30, r31] ∧ Word a0 ∧ Word a1 ∧ Sixty a2 ∧ Sixty a3 ∧ Word a4 ∧ Word a5 ∧ Word a6 ∧ Word a7 ∧ Word a8 ∧ Word a9 ∧ Word a10 ∧ Word a11 ∧ Sixty a12 ∧ Sixty a13 := by
  obtain ⟨hl, n, hf⟩ := fields_open Try.underlying39 h
  rw [cells39] at hl
  obtain ⟨c0, c1, c2, c3, c4, c5, c6, c7, c8, c9, c10, c11, c12, c13, r0, r1, r2, r3, r4, r5, r6, r7, r8, r9, r10, r11, r12, r13, r14, r15, r16, r17, r18, r19, r20, r21, r22, r23, r24, r25, r26, r27, r28, r29, r30, r31, rfl⟩ := list46 hl
  obtain ⟨y0, g0⟩ := hf 0 _ rfl
  have k0 : DataW.trod enc Try.prog w base spare held n 24 ((List.drop 0 _).take (Try.prog.cellsOf 24)) = some y0 := g0
  clear g0
  rw [cells24] at k0
  obtain ⟨a0, a1, e0, w0, w1⟩ := num_open k0
  obtain ⟨rfl, rfl⟩ : c0 = .int .u64 a0 ∧ c1 = .int .u64 a1 := by simpa using e0
  clear k0 e0
  obtain ⟨y1, g1⟩ := hf 1 _ rfl
  have k1 : DataW.trod enc Try.prog w base spare held n 3 ((List.drop 2 _).take (Try.prog.cellsOf 3)) = some y1 := g1
  clear g1
  rw [cells3] at k1
  obtain ⟨a2, e1, w2⟩ := int_open k1
  obtain rfl : c2 = .int .i64 a2 := by simpa using e1
  clear k1 e1
  obtain ⟨y2, g2⟩ := hf 2 _ rfl
  have k2 : DataW.trod enc Try.prog w base spare held n 3 ((List.drop 3 _).take (Try.prog.cellsOf 3)) = some y2 := g2
  clear g2
  rw [cells3] at k2
  obtain ⟨a3, e2, w3⟩ := int_open k2
  obtain rfl : c3 = .int .i64 a3 := by simpa using e2
  clear k2 e2
  obtain ⟨y3, g3⟩ := hf 3 _ rfl
  have k3 : DataW.trod enc Try.prog w base spare held n 24 ((List.drop 4 _).take (Try.prog.cellsOf 24)) = some y3 := g3
  clear g3
  rw [cells24] at k3
  obtain ⟨a4, a5, e3, w4, w5⟩ := num_open k3
  obtain ⟨rfl, rfl⟩ : c4 = .int .u64 a4 ∧ c5 = .int .u64 a5 := by simpa using e3
  clear k3 e3
  obtain ⟨y4, g4⟩ := hf 4 _ rfl
  have k4 : DataW.trod enc Try.prog w base spare held n 24 ((List.drop 6 _).take (Try.prog.cellsOf 24)) = some y4 := g4
  clear g4
  rw [cells24] at k4
  obtain ⟨a6, a7, e4, w6, w7⟩ := num_open k4
  obtain ⟨rfl, rfl⟩ : c6 = .int .u64 a6 ∧ c7 = .int .u64 a7 := by simpa using e4
  clear k4 e4
  obtain ⟨y5, g5⟩ := hf 5 _ rfl
  have k5 : DataW.trod enc Try.prog w base spare held n 24 ((List.drop 8 _).take (Try.prog.cellsOf 24)) = some y5 := g5
  clear g5
  rw [cells24] at k5
  obtain ⟨a8, a9, e5, w8, w9⟩ := num_open k5
  obtain ⟨rfl, rfl⟩ : c8 = .int .u64 a8 ∧ c9 = .int .u64 a9 := by simpa using e5
  clear k5 e5
  obtain ⟨y6, g6⟩ := hf 6 _ rfl
  have k6 : DataW.trod enc Try.prog w base spare held n 24 ((List.drop 10 _).take (Try.prog.cellsOf 24)) = some y6 := g6
  clear g6
  rw [cells24] at k6
  obtain ⟨a10, a11, e6, w10, w11⟩ := num_open k6
  obtain ⟨rfl, rfl⟩ : c10 = .int .u64 a10 ∧ c11 = .int .u64 a11 := by simpa using e6
  clear k6 e6
  obtain ⟨y7, g7⟩ := hf 7 _ rfl
  have k7 : DataW.trod enc Try.prog w base spare held n 3 ((List.drop 12 _).take (Try.prog.cellsOf 3)) = some y7 := g7
  clear g7
  rw [cells3] at k7
  obtain ⟨a12, e7, w12⟩ := int_open k7
  obtain rfl : c12 = .int .i64 a12 := by simpa using e7
  clear k7 e7
  obtain ⟨y8, g8⟩ := hf 8 _ rfl
  have k8 : DataW.trod enc Try.prog w base spare held n 3 ((List.drop 13 _).take (Try.prog.cellsOf 3)) = some y8 := g8
  clear g8
  rw [cells3] at k8
  obtain ⟨a13, e8, w13⟩ := int_open k8
  obtain rfl : c13 = .int .i64 a13 := by simpa using e8
  clear k8 e8
  exact ⟨a0, a1, a2, a3, a4, a5, a6, a7, a8, a9, a10, a11, a12, a13, r0, r1, r2, r3, r4, r5, r6, r7, r8, r9, r10, r11, r12, r13, r14, r15, r16, r17, r18, r19, r20, r21, r22, r23, r24, r25, r26, r27, r28, r29, r30, r31, rfl, w0, w1, w2, w3, w4, w5, w6, w7, w8, w9, w10, w11, w12, w13⟩
theorem open_num {r : Reach} {b0 : Nat} {v : Value} {d : DataW H} {p : List MemPlace} (hv : Value.okWide Try.prog w r b0 24 v) (h : DataW.Trod enc Try.prog w base spare held 24 v d p) :
    ∃ a0 a1 : Int, v = .agg #[.int .u64 a0, .int .u64 a1] ∧ Word a0 ∧ Word a1 := by
  obtain ⟨cs, rfl, _⟩ := okWide_struct Try.underlying24 hv
  obtain ⟨l⟩ := cs
  obtain ⟨fuel, hf⟩ := h
  obtain ⟨a0, a1, e, w0, w1⟩ := num_open hf
  have e' : l = _ := e
  subst e'
  exact ⟨a0, a1, rfl, w0, w1⟩
theorem open_transfer {r : Reach} {b0 : Nat} {v : Value} {d : DataW H} {p : List MemPlace} (hv : Value.okWide Try.prog w r b0 26 v) (h : DataW.Trod enc Try.prog w base spare held 26 v d p) :
    ∃ a0 a1 a2 a3 a4 a5 a6 a7 a8 a9 a10 a11 a12 a13 a14 a15 : Int, v = .agg #[.int .u64 a0, .int .u64 a1, .int .u64 a2, .int .u64 a3, .int .u64 a4, .int .u64 a5, .int .u64 a6, .int .u64 a7, .int .u64 a8, .int .u64 a9, .int .i64 a10, .int .i64 a11, .int .i64 a12, .int .i64 a13, .int .i64 a14, .int .i64 a15] ∧ Word a0 ∧ Word a1 ∧ Word a2 ∧ Word a3 ∧ Word a4 ∧ Word a5 ∧ Word a6 ∧ Word a7 ∧ Word a8 ∧ Word a9 ∧ Sixty a10 ∧ Sixty a11 ∧ Sixty a12 ∧ Sixty a13 ∧ Sixty a14 ∧ Sixty a15 := by
  obtain ⟨cs, rfl, _⟩ := okWide_struct Try.underlying26 hv
  obtain ⟨l⟩ := cs
  obtain ⟨fuel, hf⟩ := h
  obtain ⟨a0, a1, a2, a3, a4, a5, a6, a7, a8, a9, a10, a11, a12, a13, a14, a15, e, w0, w1, w2, w3, w4, w5, w6, w7, w8, w9, w10, w11, w12, w13, w14, w15⟩ := transfer_cells hf
  have e' : l = _ := e
  subst e'
  exact ⟨a0, a1, a2, a3, a4, a5, a6, a7, a8, a9, a10, a11, a12, a13, a14, a15, rfl, w0, w1, w2, w3, w4, w5, w6, w7, w8, w9, w10, w11, w12, w13, w14, w15⟩
theorem open_account {r : Reach} {b0 : Nat} {v : Value} {d : DataW H} {p : List MemPlace} (hv : Value.okWide Try.prog w r b0 39 v) (h : DataW.Trod enc Try.prog w base spare held 39 v d p) :
    ∃ a0 a1 a2 a3 a4 a5 a6 a7 a8 a9 a10 a11 a12 a13 : Int, ∃ r0 r1 r2 r3 r4 r5 r6 r7 r8 r9 r10 r11 r12 r13 r14 r15 r16 r17 r18 r19 r20 r21 r22 r23 r24 r25 r26 r27 r28 r29 r30 r31 : Value, v = .agg #[.int .u64 a0, .int .u64 a1, .int .i64 a2, .int .i64 a3, .int .u64 a4, .int .u64 a5, .int .u64 a6, .int .u64 a7, .int .u64 a8, .int .u64 a9, .int .u64 a10, .int .u64 a11, .int .i64 a12, .int .i64 a13, r0, r1, r2, r3, r4, r5, r6, r7, r8, r9, r10, r11, r12, r13, r14, r15, r16, r17, r18, r19, r20, r21, r22, r23, r24, r25, r26, r27, r28, r29, r30, r31] ∧ Word a0 ∧ Word a1 ∧ Sixty a2 ∧ Sixty a3 ∧ Word a4 ∧ Word a5 ∧ Word a6 ∧ Word a7 ∧ Word a8 ∧ Word a9 ∧ Word a10 ∧ Word a11 ∧ Sixty a12 ∧ Sixty a13 := by
  obtain ⟨cs, rfl, _⟩ := okWide_struct Try.underlying39 hv
  obtain ⟨l⟩ := cs
  obtain ⟨fuel, hf⟩ := h
  obtain ⟨a0, a1, a2, a3, a4, a5, a6, a7, a8, a9, a10, a11, a12, a13, r0, r1, r2, r3, r4, r5, r6, r7, r8, r9, r10, r11, r12, r13, r14, r15, r16, r17, r18, r19, r20, r21, r22, r23, r24, r25, r26, r27, r28, r29, r30, r31, e, w0, w1, w2, w3, w4, w5, w6, w7, w8, w9, w10, w11, w12, w13⟩ := account_cells hf
  have e' : l = _ := e
  subst e'
  exact ⟨a0, a1, a2, a3, a4, a5, a6, a7, a8, a9, a10, a11, a12, a13, r0, r1, r2, r3, r4, r5, r6, r7, r8, r9, r10, r11, r12, r13, r14, r15, r16, r17, r18, r19, r20, r21, r22, r23, r24, r25, r26, r27, r28, r29, r30, r31, rfl, w0, w1, w2, w3, w4, w5, w6, w7, w8, w9, w10, w11, w12, w13⟩
end
end Go.Proofs.Ytedejbanhhonbaa
