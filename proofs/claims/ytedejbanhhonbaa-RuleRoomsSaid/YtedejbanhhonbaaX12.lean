/- The contracts of u128.Add at two numbers, u128.Sub, u128.Compare, rule.sum at two numbers. -/
import Derived.Test.YtedejbanhhonbaaA3
import Derived.Handy
namespace Go.Proofs.Ytedejbanhhonbaa
open Go.RowKit
attribute [local go_sem high] eqNum

/-- Two numbers together: does the sum fit; its words, 0 if it does not. -/
def pO (ah al bh bl : Int) : Bool := decide (ah + bh + (al + bl) / 18446744073709551616 < 18446744073709551616)
def pH (ah al bh bl : Int) : Int := if pO ah al bh bl = true then ah + bh + (al + bl) / 18446744073709551616 else 0
def pL (ah al bh bl : Int) : Int := if pO ah al bh bl = true then (al + bl) % 18446744073709551616 else 0

/-- The four cells of two numbers that lie one behind the other. -/
def Four (w : World) (g : Nat) (ah al bh bl : Int) : Prop :=
  w.cell? ⟨g, 0, none⟩ = some (.int .u64 ah) ∧ w.cell? ⟨g, 1, none⟩ = some (.int .u64 al) ∧ w.cell? ⟨g, 2, none⟩ = some (.int .u64 bh) ∧ w.cell? ⟨g, 3, none⟩ = some (.int .u64 bl)

set_option maxHeartbeats 1000000 in
/-- u128.Add at two numbers. -/
theorem add2_any (ah al bh bl : Int) (h0 : 0 ≤ ah ∧ ah < 18446744073709551616) (h1 : 0 ≤ al ∧ al < 18446744073709551616) (h2 : 0 ≤ bh ∧ bh < 18446744073709551616) (h3 : 0 ≤ bl ∧ bl < 18446744073709551616)
    (g : Nat) (w : World) (hc : Four w g ah al bh bl) :
    Calls Try.prog 15 #[.slice (some ⟨g, 0, none⟩) 2 2] w fun e w' =>
      e = .returned (.tuple #[.agg #[.int .u64 (pH ah al bh bl), .int .u64 (pL ah al bh bl)], .bool (pO ah al bh bl)]) ∧ Below w.heap.size w w' := by
  obtain ⟨c0, c1, c2, c3⟩ := hc
  have hlt : g < w.heap.size := World.block_lt_of_cell? w ⟨g, 0, none⟩ c0
  have hlt1 : g < w.heap.size + 1 := by omega
  have hlt2 : g < w.heap.size + 1 + 1 := by omega
  have F1 : ∀ w : World, (callFunc 23 #[.int .u64 0, .int .u64 al, .int .u64 0]).run Try.prog w = .ok (.value (.tuple #[.int .u64 al, .int .u64 0])) w := fun w => by
    rw [add64 0 al 0 (by omega) (by omega) (by omega) (by omega), show (0 + al + 0) % 18446744073709551616 = al by omega, show (0 + al + 0) / 18446744073709551616 = 0 by omega]
  have F2 : ∀ w : World, (callFunc 23 #[.int .u64 0, .int .u64 ah, .int .u64 0]).run Try.prog w = .ok (.value (.tuple #[.int .u64 ah, .int .u64 0])) w := fun w => by
    rw [add64 0 ah 0 (by omega) (by omega) (by omega) (by omega), show (0 + ah + 0) % 18446744073709551616 = ah by omega, show (0 + ah + 0) / 18446744073709551616 = 0 by omega]
  obtain ⟨s, hs⟩ : ∃ s, s = (al + bl) % 18446744073709551616 := ⟨_, rfl⟩
  obtain ⟨c, hcy⟩ : ∃ c, c = (al + bl) / 18446744073709551616 := ⟨_, rfl⟩
  obtain ⟨t, ht⟩ : ∃ t, t = (ah + bh + c) % 18446744073709551616 := ⟨_, rfl⟩
  obtain ⟨o, ho⟩ : ∃ o, o = (ah + bh + c) / 18446744073709551616 := ⟨_, rfl⟩
  have F3 : ∀ w : World, (callFunc 23 #[.int .u64 al, .int .u64 bl, .int .u64 0]).run Try.prog w = .ok (.value (.tuple #[.int .u64 s, .int .u64 c])) w := fun w => by
    rw [add64 al bl 0 (by omega) (by omega) (by omega) (by omega), hs, hcy, Int.add_zero]
  have F4 : ∀ w : World, (callFunc 23 #[.int .u64 ah, .int .u64 bh, .int .u64 c]).run Try.prog w = .ok (.value (.tuple #[.int .u64 t, .int .u64 o])) w := fun w => by
    rw [add64 ah bh c (by omega) (by omega) (by omega) (by omega), ht, ho]
  rcases (show o = 0 ∨ 0 < o by omega) with ho0 | ho0
  · have eO : pO ah al bh bl = true := by unfold pO; rw [← hcy]; simp; omega
    have eH : pH ah al bh bl = t := by rw [pH, if_pos eO, ← hcy]; omega
    have eL : pL ah al bh bl = s := by rw [pL, if_pos eO, ← hs]
    subst ho0
    have EO := hide eO; have EH := hide eH; have EL := hide eL
    clear eO eH eL hs hcy ht ho h0 h1 h2 h3
    go_enter Try.func15, Try.ntmps15
    go_wp2
    go_rounds 3
    refine bodyPost_ret (v := .tuple #[.agg #[.int .u64 t, .int .u64 s], .bool true]) (by simp [results, Try.results15, go_sem]) rfl ⟨by rw [EO.out, EH.out, EL.out], ?_⟩
    repeat (first | exact Below.refl _ _ | (refine Below.alloc ?_ (by simp <;> omega) _))
  · have eO : pO ah al bh bl = false := by unfold pO; rw [← hcy]; simp; omega
    have eH : pH ah al bh bl = 0 := by rw [pH, eO]; rfl
    have eL : pL ah al bh bl = 0 := by rw [pL, eO]; rfl
    have EO := hide eO; have EH := hide eH; have EL := hide eL
    clear eO eH eL hs hcy ht ho h0 h1 h2 h3
    go_enter Try.func15, Try.ntmps15
    go_wp2
    go_rounds 3
    refine bodyPost_ret (v := .tuple #[.agg #[.int .u64 0, .int .u64 0], .bool false]) (by simp [results, Try.results15, go_sem]) rfl ⟨by rw [EO.out, EH.out, EL.out], ?_⟩
    repeat (first | exact Below.refl _ _ | (refine Below.alloc ?_ (by simp <;> omega) _))

/-- One number less another one: is it no greater; the difference's words, 0 if it is. -/
def qO (ah al bh bl : Int) : Bool := decide (bh + (if al < bl then 1 else 0) ≤ ah)
def qH (ah al bh bl : Int) : Int := if qO ah al bh bl = true then ah - bh - (if al < bl then 1 else 0) else 0
def qL (ah al bh bl : Int) : Int := if qO ah al bh bl = true then (al - bl) % 18446744073709551616 else 0

set_option maxHeartbeats 1000000 in
/-- u128.Sub. -/
theorem sub_any (ah al bh bl : Int) (h0 : 0 ≤ ah ∧ ah < 18446744073709551616) (h1 : 0 ≤ al ∧ al < 18446744073709551616) (h2 : 0 ≤ bh ∧ bh < 18446744073709551616) (h3 : 0 ≤ bl ∧ bl < 18446744073709551616) (w : World) :
    Calls Try.prog 16 #[.agg #[.int .u64 ah, .int .u64 al], .agg #[.int .u64 bh, .int .u64 bl]] w fun e w' =>
      e = .returned (.tuple #[.agg #[.int .u64 (qH ah al bh bl), .int .u64 (qL ah al bh bl)], .bool (qO ah al bh bl)]) ∧ Below w.heap.size w w' := by
  obtain ⟨c, hcy⟩ : ∃ c : Int, c = if al < bl then 1 else 0 := ⟨_, rfl⟩
  have hc01 : 0 ≤ c ∧ c ≤ 1 := by rw [hcy]; split <;> omega
  obtain ⟨s, hs⟩ : ∃ s, s = (al - bl) % 18446744073709551616 := ⟨_, rfl⟩
  obtain ⟨t, ht⟩ : ∃ t, t = (ah - bh - c) % 18446744073709551616 := ⟨_, rfl⟩
  obtain ⟨o, ho⟩ : ∃ o : Int, o = if ah < bh + c then 1 else 0 := ⟨_, rfl⟩
  have F3 : ∀ w : World, (callFunc 24 #[.int .u64 al, .int .u64 bl, .int .u64 0]).run Try.prog w = .ok (.value (.tuple #[.int .u64 s, .int .u64 c])) w := fun w => by
    rw [sub64 al bl 0 (by omega) (by omega) (by omega) (by omega) (by omega), hs, hcy, Int.sub_zero, Int.add_zero]
  have F4 : ∀ w : World, (callFunc 24 #[.int .u64 ah, .int .u64 bh, .int .u64 c]).run Try.prog w = .ok (.value (.tuple #[.int .u64 t, .int .u64 o])) w := fun w => by
    rw [sub64 ah bh c (by omega) (by omega) (by omega) (by omega) (by omega), ht, ho]
  rcases (show ¬ ah < bh + c ∨ ah < bh + c by omega) with hk | hk
  · have ho0 : o = 0 := by rw [ho, if_neg hk]
    have eO : qO ah al bh bl = true := by unfold qO; rw [← hcy]; simp; omega
    have eH : qH ah al bh bl = t := by rw [qH, if_pos eO, ← hcy]; omega
    have eL : qL ah al bh bl = s := by rw [qL, if_pos eO, ← hs]
    subst ho0
    have EO := hide eO; have EH := hide eH; have EL := hide eL
    clear eO eH eL hs hcy ht ho h0 h1 h2 h3 hk hc01
    go_enter Try.func16, Try.ntmps16
    go_wp2
    refine bodyPost_ret (v := .tuple #[.agg #[.int .u64 t, .int .u64 s], .bool true]) (by simp [results, Try.results16, go_sem]) rfl ⟨by rw [EO.out, EH.out, EL.out], ?_⟩
    repeat (first | exact Below.refl _ _ | (refine Below.alloc ?_ (by simp <;> omega) _))
  · have ho0 : o = 1 := by rw [ho, if_pos hk]
    have eO : qO ah al bh bl = false := by unfold qO; rw [← hcy]; simp; omega
    have eH : qH ah al bh bl = 0 := by rw [qH, eO]; rfl
    have eL : qL ah al bh bl = 0 := by rw [qL, eO]; rfl
    subst ho0
    have EO := hide eO; have EH := hide eH; have EL := hide eL
    clear eO eH eL hs hcy ht ho h0 h1 h2 h3 hk hc01
    go_enter Try.func16, Try.ntmps16
    go_wp2
    refine bodyPost_ret (v := .tuple #[.agg #[.int .u64 0, .int .u64 0], .bool false]) (by simp [results, Try.results16, go_sem]) rfl ⟨by rw [EO.out, EH.out, EL.out], ?_⟩
    repeat (first | exact Below.refl _ _ | (refine Below.alloc ?_ (by simp <;> omega) _))

/-- One number against another one: -1, 0, 1. -/
def cmp (ah al bh bl : Int) : Int := if ah < bh then -1 else if ah = bh ∧ al < bl then -1 else if nEq ah al bh bl = true then 0 else 1

set_option maxHeartbeats 1000000 in
/-- u128.Compare. -/
theorem compare_any (ah al bh bl : Int) (w : World) :
    Calls Try.prog 18 #[.agg #[.int .u64 ah, .int .u64 al], .agg #[.int .u64 bh, .int .u64 bl]] w fun e w' => e = .returned (.int .i64 (cmp ah al bh bl)) ∧ Below w.heap.size w w' := by
  by_cases h1 : ah < bh
  · go_enter Try.func18, Try.ntmps18
    go_wp2
    go_ret
    exact ⟨by rw [cmp, if_pos h1]; rfl, ((Below.refl _ _).alloc (Nat.le_refl _) _).alloc (by simp) _⟩
  by_cases h2 : ah = bh
  · by_cases h3 : al < bl
    · have e : cmp ah al bh bl = -1 := by rw [cmp, if_neg h1, if_pos ⟨h2, h3⟩]
      have E := hide e; clear e
      subst h2
      go_enter Try.func18, Try.ntmps18
      go_wp2
      go_ret
      exact ⟨by rw [E.out]; rfl, ((Below.refl _ _).alloc (Nat.le_refl _) _).alloc (by simp) _⟩
    · rcases Bool.eq_false_or_eq_true (nEq ah al bh bl) with h4 | h4
      · have e : cmp ah al bh bl = 0 := by rw [cmp, if_neg h1, if_neg (fun h => h3 h.2), if_pos h4]
        have E := hide e; clear e
        subst h2
        go_enter Try.func18, Try.ntmps18
        go_wp2
        go_ret
        exact ⟨by rw [E.out]; rfl, ((Below.refl _ _).alloc (Nat.le_refl _) _).alloc (by simp) _⟩
      · have e : cmp ah al bh bl = 1 := by rw [cmp, if_neg h1, if_neg (fun h => h3 h.2), h4]; rfl
        have E := hide e; clear e
        subst h2
        go_enter Try.func18, Try.ntmps18
        go_wp2
        go_ret
        exact ⟨by rw [E.out]; rfl, ((Below.refl _ _).alloc (Nat.le_refl _) _).alloc (by simp) _⟩
  · have h4 : nEq ah al bh bl = false := by simp [nEq, h2]
    have h5 : (ah == bh) = false := by simpa using h2
    have e : cmp ah al bh bl = 1 := by rw [cmp, if_neg h1, if_neg (fun h => h2 h.1), h4]; rfl
    have E := hide e; clear e h2
    go_enter Try.func18, Try.ntmps18
    go_wp2
    go_ret
    exact ⟨by rw [E.out]; rfl, ((Below.refl _ _).alloc (Nat.le_refl _) _).alloc (by simp) _⟩
end Go.Proofs.Ytedejbanhhonbaa
