/- An account that is an argument, opened to its 46 cells, its root's 32 bytes too. -/
import Derived.Test.YtedejbanhhonbaaX5
import Derived.OpenShut
namespace Go.Proofs.Ytedejbanhhonbaa
open Go.ChangeShapes Go.WideShapes Go.ChangeAt Go.RowKit

theorem cells37 : Try.prog.cellsOf 37 = 32 := by kernel_rfl
theorem cells5 : Try.prog.cellsOf 5 = 1 := by kernel_rfl
theorem list32 {α : Type} {l : List α} (h : l.length = 32) : ∃ x0 x1 x2 x3 x4 x5 x6 x7 x8 x9 x10 x11 x12 x13 x14 x15 x16 x17 x18 x19 x20 x21 x22 x23 x24 x25 x26 x27 x28 x29 x30 x31, l = [x0, x1, x2, x3, x4, x5, x6, x7, x8, x9, x10, x11, x12, x13, x14, x15, x16, x17, x18, x19, x20, x21, x22, x23, x24, x25, x26, x27, x28, x29, x30, x31] := by
  obtain ⟨x0, l0, rfl, h0⟩ := cons_of h
  obtain ⟨x1, l1, rfl, h1⟩ := cons_of h0
  obtain ⟨x2, l2, rfl, h2⟩ := cons_of h1
  obtain ⟨x3, l3, rfl, h3⟩ := cons_of h2
  obtain ⟨x4, l4, rfl, h4⟩ := cons_of h3
  obtain ⟨x5, l5, rfl, h5⟩ := cons_of h4
  obtain ⟨x6, l6, rfl, h6⟩ := cons_of h5
  obtain ⟨x7, l7, rfl, h7⟩ := cons_of h6
  obtain ⟨x8, l8, rfl, h8⟩ := cons_of h7
  obtain ⟨x9, l9, rfl, h9⟩ := cons_of h8
  obtain ⟨x10, l10, rfl, h10⟩ := cons_of h9
  obtain ⟨x11, l11, rfl, h11⟩ := cons_of h10
  obtain ⟨x12, l12, rfl, h12⟩ := cons_of h11
  obtain ⟨x13, l13, rfl, h13⟩ := cons_of h12
  obtain ⟨x14, l14, rfl, h14⟩ := cons_of h13
  obtain ⟨x15, l15, rfl, h15⟩ := cons_of h14
  obtain ⟨x16, l16, rfl, h16⟩ := cons_of h15
  obtain ⟨x17, l17, rfl, h17⟩ := cons_of h16
  obtain ⟨x18, l18, rfl, h18⟩ := cons_of h17
  obtain ⟨x19, l19, rfl, h19⟩ := cons_of h18
  obtain ⟨x20, l20, rfl, h20⟩ := cons_of h19
  obtain ⟨x21, l21, rfl, h21⟩ := cons_of h20
  obtain ⟨x22, l22, rfl, h22⟩ := cons_of h21
  obtain ⟨x23, l23, rfl, h23⟩ := cons_of h22
  obtain ⟨x24, l24, rfl, h24⟩ := cons_of h23
  obtain ⟨x25, l25, rfl, h25⟩ := cons_of h24
  obtain ⟨x26, l26, rfl, h26⟩ := cons_of h25
  obtain ⟨x27, l27, rfl, h27⟩ := cons_of h26
  obtain ⟨x28, l28, rfl, h28⟩ := cons_of h27
  obtain ⟨x29, l29, rfl, h29⟩ := cons_of h28
  obtain ⟨x30, l30, rfl, h30⟩ := cons_of h29
  obtain ⟨x31, l31, rfl, h31⟩ := cons_of h30
  obtain rfl := List.eq_nil_of_length_eq_zero h31
  exact ⟨x0, x1, x2, x3, x4, x5, x6, x7, x8, x9, x10, x11, x12, x13, x14, x15, x16, x17, x18, x19, x20, x21, x22, x23, x24, x25, x26, x27, x28, x29, x30, x31, rfl⟩

theorem map_of {l : List Value} (h : ∀ v ∈ l, ∃ k : Int, v = .int .u8 k) : ∃ ks : List Int, l = ks.map (.int .u8) ∧ ks.length = l.length := by
  induction l with
  | nil => exact ⟨[], rfl, rfl⟩
  | cons v l ih =>
    obtain ⟨k, rfl⟩ := h v (by simp)
    obtain ⟨ks, rfl, hl⟩ := ih (fun u hu => h u (by simp [hu]))
    exact ⟨k :: ks, rfl, by simp⟩

section
variable {H : Type} {enc : TypeId × Value → H} {w : World} {base : Nat} {spare : Nat → Bool} {held : Bool} {fuel : Nat}
theorem root_open {cs : List Value} {x : DataW H × List MemPlace} (h : DataW.trod enc Try.prog w base spare held fuel 37 cs = some x) : ∃ ks : List Int, cs = ks.map (.int .u8) ∧ ks.length = 32 := by
  obtain ⟨xs, m, _, _, hl, hx, hf⟩ := DataW.trod_array Try.underlying37 h
  rw [cells37] at hl
  rw [cells5] at hf
  obtain ⟨ks, e, hk⟩ := map_of (l := cs) (fun v hv => by
    obtain ⟨i, hi, rfl⟩ := List.getElem_of_mem hv
    have g := (hf i (by omega)).trans (List.getElem?_eq_getElem (by omega))
    obtain ⟨n, e, _, _⟩ := DataW.trod_int Try.underlying5 g
    rw [Nat.mul_one, List.drop_eq_getElem_cons hi, List.take_succ_cons, List.take_zero] at e
    exact ⟨n, (List.cons.inj e).1⟩)
  exact ⟨ks, e, by omega⟩
theorem account_bytes {cs : List Value} {x : DataW H × List MemPlace} (h : DataW.trod enc Try.prog w base spare held fuel 39 cs = some x) :
    ∃ a0 a1 a2 a3 a4 a5 a6 a7 a8 a9 a10 a11 a12 a13 r0 r1 r2 r3 r4 r5 r6 r7 r8 r9 r10 r11 r12 r13 r14 r15 r16 r17 r18 r19 r20 r21 r22 r23 r24 r25 r26 r27 r28 r29 r30 r31 : Int, cs = [.int .u64 a0, .int .u64 a1, .int .i64 a2, .int .i64 a3, .int .u64 a4, .int .u64 a5, .int .u64 a6, .int .u64 a7, .int .u64 a8, .int .u64 a9, .int .u64 a10, .int .u64 a11, .int .i64 a12, .int .i64 a13, .int .u8 r0, .int .u8 r1, .int .u8 r2, .int .u8 r3, .int .u8 r4, .int .u8 r5, .int .u8 r6, .int .u8 r7, .int .u8 r8, .int .u8 r9, .int .u8 r10, .int .u8 r11, .int .u8 r12, .int .u8 r13, .int .u8 r14, .int .u8 r15, .int .u8 r16, .int .u8 r17, .int .u8 r18, .int .u8 r19, .int .u8 r20, .int .u8 r21, .int .u8 r22, .int .u8 r23, .int .u8 r24, .int .u8 r25, .int .u8 r26, .int .u8 r27, .int .u8 r28, .int .u8 r29, .int .u8 r30, .int .u8 r31] ∧ Word a0 ∧ Word a1 ∧ Sixty a2 ∧ Sixty a3 ∧ Word a4 ∧ Word a5 ∧ Word a6 ∧ Word a7 ∧ Word a8 ∧ Word a9 ∧ Word a10 ∧ Word a11 ∧ Sixty a12 ∧ Sixty a13 := by
  obtain ⟨a0, a1, a2, a3, a4, a5, a6, a7, a8, a9, a10, a11, a12, a13, s0, s1, s2, s3, s4, s5, s6, s7, s8, s9, s10, s11, s12, s13, s14, s15, s16, s17, s18, s19, s20, s21, s22, s23, s24, s25, s26, s27, s28, s29, s30, s31, rfl, w0, w1, w2, w3, w4, w5, w6, w7, w8, w9, w10, w11, w12, w13⟩ := account_cells h
  obtain ⟨_, n, hf⟩ := fields_open Try.underlying39 h
  obtain ⟨y, g⟩ := hf 9 _ rfl
  have k : DataW.trod enc Try.prog w base spare held n 37 ((List.drop 14 _).take (Try.prog.cellsOf 37)) = some y := g
  clear g
  rw [cells37] at k
  obtain ⟨ks, e, hl⟩ := root_open k
  obtain ⟨r0, r1, r2, r3, r4, r5, r6, r7, r8, r9, r10, r11, r12, r13, r14, r15, r16, r17, r18, r19, r20, r21, r22, r23, r24, r25, r26, r27, r28, r29, r30, r31, rfl⟩ := list32 hl
  simp at e
  obtain ⟨rfl, rfl, rfl, rfl, rfl, rfl, rfl, rfl, rfl, rfl, rfl, rfl, rfl, rfl, rfl, rfl, rfl, rfl, rfl, rfl, rfl, rfl, rfl, rfl, rfl, rfl, rfl, rfl, rfl, rfl, rfl, rfl⟩ := e
  exact ⟨a0, a1, a2, a3, a4, a5, a6, a7, a8, a9, a10, a11, a12, a13, r0, r1, r2, r3, r4, r5, r6, r7, r8, r9, r10, r11, r12, r13, r14, r15, r16, r17, r18, r19, r20, r21, r22, r23, r24, r25, r26, r27, r28, r29, r30, r31, rfl, w0, w1, w2, w3, w4, w5, w6, w7, w8, w9, w10, w11, w12, w13⟩
theorem open_account8 {r : Reach} {b0 : Nat} {v : Value} {d : DataW H} {p : List MemPlace} (hv : Value.okWide Try.prog w r b0 39 v) (h : DataW.Trod enc Try.prog w base spare held 39 v d p) :
    ∃ a0 a1 a2 a3 a4 a5 a6 a7 a8 a9 a10 a11 a12 a13 r0 r1 r2 r3 r4 r5 r6 r7 r8 r9 r10 r11 r12 r13 r14 r15 r16 r17 r18 r19 r20 r21 r22 r23 r24 r25 r26 r27 r28 r29 r30 r31 : Int, v = .agg #[.int .u64 a0, .int .u64 a1, .int .i64 a2, .int .i64 a3, .int .u64 a4, .int .u64 a5, .int .u64 a6, .int .u64 a7, .int .u64 a8, .int .u64 a9, .int .u64 a10, .int .u64 a11, .int .i64 a12, .int .i64 a13, .int .u8 r0, .int .u8 r1, .int .u8 r2, .int .u8 r3, .int .u8 r4, .int .u8 r5, .int .u8 r6, .int .u8 r7, .int .u8 r8, .int .u8 r9, .int .u8 r10, .int .u8 r11, .int .u8 r12, .int .u8 r13, .int .u8 r14, .int .u8 r15, .int .u8 r16, .int .u8 r17, .int .u8 r18, .int .u8 r19, .int .u8 r20, .int .u8 r21, .int .u8 r22, .int .u8 r23, .int .u8 r24, .int .u8 r25, .int .u8 r26, .int .u8 r27, .int .u8 r28, .int .u8 r29, .int .u8 r30, .int .u8 r31] ∧ Word a0 ∧ Word a1 ∧ Sixty a2 ∧ Sixty a3 ∧ Word a4 ∧ Word a5 ∧ Word a6 ∧ Word a7 ∧ Word a8 ∧ Word a9 ∧ Word a10 ∧ Word a11 ∧ Sixty a12 ∧ Sixty a13 := by
  obtain ⟨cs, rfl, _⟩ := okWide_struct Try.underlying39 hv
  obtain ⟨l⟩ := cs
  obtain ⟨fuel, hf⟩ := h
  obtain ⟨a0, a1, a2, a3, a4, a5, a6, a7, a8, a9, a10, a11, a12, a13, r0, r1, r2, r3, r4, r5, r6, r7, r8, r9, r10, r11, r12, r13, r14, r15, r16, r17, r18, r19, r20, r21, r22, r23, r24, r25, r26, r27, r28, r29, r30, r31, e, w0, w1, w2, w3, w4, w5, w6, w7, w8, w9, w10, w11, w12, w13⟩ := account_bytes hf
  have e' : l = _ := e
  subst e'
  exact ⟨a0, a1, a2, a3, a4, a5, a6, a7, a8, a9, a10, a11, a12, a13, r0, r1, r2, r3, r4, r5, r6, r7, r8, r9, r10, r11, r12, r13, r14, r15, r16, r17, r18, r19, r20, r21, r22, r23, r24, r25, r26, r27, r28, r29, r30, r31, rfl, w0, w1, w2, w3, w4, w5, w6, w7, w8, w9, w10, w11, w12, w13⟩
end
end Go.Proofs.Ytedejbanhhonbaa
