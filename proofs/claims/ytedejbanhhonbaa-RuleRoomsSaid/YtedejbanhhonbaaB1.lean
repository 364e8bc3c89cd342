/- Plain facts on the bits of whole numbers of 64 bits: what ^ 1, ^ 2, ^ 4, | 8, &^ 1, &^ 8, &^ 9 do to one another. -/
import Derived.Laws.BitsLemmas
namespace Go.Proofs.Ytedejbanhhonbaa

/-- The whole number of 64 bits, with its sign, that these bits are. -/
def vi (v : BitVec 64) : Int := IntKind.i64.wrap v.toNat
theorem vi_inj {u v : BitVec 64} (h : vi u = vi v) : u = v := by
  unfold vi at h
  rw [IntKind.wrap_i64, IntKind.wrap_i64] at h
  have h1 := u.isLt
  have h2 := v.isLt
  apply BitVec.eq_of_toNat_eq
  omega
theorem ofInt_vi (v : BitVec 64) : BitVec.ofInt 64 (vi v) = v := by
  apply vi_inj
  unfold vi
  have h1 := v.isLt
  rw [BitVec.toNat_ofInt]
  simp only [IntKind.wrap_i64]
  omega
theorem vi_ofInt {a : Int} (h0 : -9223372036854775808 ≤ a) (h1 : a < 9223372036854775808) : vi (BitVec.ofInt 64 a) = a := by
  unfold vi
  rw [BitVec.toNat_ofInt]
  simp only [IntKind.wrap_i64]
  omega
theorem xor_i (a b : Int) : bits .xor .i64 a b = vi (BitVec.ofInt 64 a ^^^ BitVec.ofInt 64 b) := rfl
theorem or_i (a b : Int) : bits .or .i64 a b = vi (BitVec.ofInt 64 a ||| BitVec.ofInt 64 b) := rfl
theorem andNot_i (a b : Int) : bits .andNot .i64 a b = vi (BitVec.ofInt 64 a &&& ~~~ BitVec.ofInt 64 b) := rfl

/-- The word of 64 bits that these bits are. -/
def vu (v : BitVec 64) : Int := IntKind.u64.wrap v.toNat
theorem vu_eq (v : BitVec 64) : vu v = v.toNat := by
  have h1 := v.isLt
  unfold vu
  simp [IntKind.wrap, IntKind.bits, IntKind.signed]
  omega
theorem vu_inj {u v : BitVec 64} (h : vu u = vu v) : u = v := by
  rw [vu_eq, vu_eq] at h
  apply BitVec.eq_of_toNat_eq
  omega
theorem vu_ofInt {a : Int} (h0 : 0 ≤ a) (h1 : a < 18446744073709551616) : vu (BitVec.ofInt 64 a) = a := by
  rw [vu_eq, BitVec.toNat_ofInt]
  omega
theorem xor_u (a b : Int) : bits .xor .u64 a b = vu (BitVec.ofInt 64 a ^^^ BitVec.ofInt 64 b) := rfl

theorem xor_ne (x c : BitVec 64) (hc : c ≠ 0#64) : x ^^^ c ≠ x := fun h => hc (by
  have h2 : x ^^^ (x ^^^ c) = x ^^^ x := by rw [h]
  rwa [← BitVec.xor_assoc, BitVec.xor_self, BitVec.zero_xor] at h2)
theorem xor_ne_i {a : Int} (c : Int) (h0 : -9223372036854775808 ≤ a) (h1 : a < 9223372036854775808) (hc : BitVec.ofInt 64 c ≠ 0#64) : bits .xor .i64 a c ≠ a := fun h => by
  rw [xor_i] at h
  rw [← vi_ofInt h0 h1, ofInt_vi] at h
  exact xor_ne _ _ hc (vi_inj h)
theorem xor_ne_u {a : Int} (c : Int) (h0 : 0 ≤ a) (h1 : a < 18446744073709551616) (hc : BitVec.ofInt 64 c ≠ 0#64) : bits .xor .u64 a c ≠ a := fun h => by
  rw [xor_u] at h
  have e := vu_ofInt h0 h1
  exact xor_ne _ _ hc (vu_inj (h.trans e.symm))
theorem xor12_ne {a : Int} (h0 : -9223372036854775808 ≤ a) (h1 : a < 9223372036854775808) : bits .xor .i64 (bits .xor .i64 a 1) 2 ≠ a := fun h => by
  rw [xor_i, xor_i, ofInt_vi, BitVec.xor_assoc] at h
  rw [← vi_ofInt h0 h1, ofInt_vi] at h
  exact xor_ne _ _ (by decide) (vi_inj h)
theorem flags_xor1 (f : Int) : bits .andNot .i64 (bits .xor .i64 f 1) 1 = bits .andNot .i64 f 1 := by
  rw [andNot_i, andNot_i, xor_i, ofInt_vi]
  congr 1
  generalize BitVec.ofInt 64 f = x
  apply BitVec.eq_of_getLsbD_eq
  intro i hi
  simp only [BitVec.getLsbD_and, BitVec.getLsbD_xor, BitVec.getLsbD_not]
  cases (BitVec.ofInt 64 1).getLsbD i <;> simp
theorem flags_xor2 (f : Int) : bits .andNot .i64 (bits .xor .i64 f 2) 1 ≠ bits .andNot .i64 f 1 := fun h => by
  rw [andNot_i, andNot_i, xor_i, ofInt_vi] at h
  have h1 := congrArg (fun v : BitVec 64 => v.getLsbD 1) (vi_inj h)
  simp only [BitVec.getLsbD_and, BitVec.getLsbD_xor, BitVec.getLsbD_not] at h1
  have e1 : (BitVec.ofInt 64 1).getLsbD 1 = false := by decide
  have e2 : (BitVec.ofInt 64 2).getLsbD 1 = true := by decide
  rw [e1, e2] at h1
  cases h2 : (BitVec.ofInt 64 f).getLsbD 1 <;> simp [h2] at h1
theorem flags_closed (f : Int) : bits .andNot .i64 (bits .or .i64 f 8) 9 = bits .andNot .i64 (bits .andNot .i64 f 8) 9 := by
  rw [andNot_i, andNot_i, andNot_i, or_i, ofInt_vi, ofInt_vi]
  congr 1
  generalize BitVec.ofInt 64 f = x
  have e : BitVec.ofInt 64 9 = BitVec.ofInt 64 1 ||| BitVec.ofInt 64 8 := by decide
  rw [e]
  apply BitVec.eq_of_getLsbD_eq
  intro i hi
  simp only [BitVec.getLsbD_and, BitVec.getLsbD_or, BitVec.getLsbD_not]
  cases (BitVec.ofInt 64 8).getLsbD i <;> cases x.getLsbD i <;> simp
#print axioms flags_closed
end Go.Proofs.Ytedejbanhhonbaa
