/-
  No cell of these rows narrows 'for every input' (looked for: loops, veiled, ifaces, maps, wideKeys, modest, calm, conditions, laid).
  DERIVED. THE GIVEN ROWS OF THIS SEAT. 6 by the template 'for every input the law returns true; each argument reads behind the call as it read before'; 0 by the template 'total and deterministic' (their statements: YtedejbanhhonbaaTotals.lean).
  GIVEN WITH THE SEED: the statements are not yours to turn. If you find one false, say at which input.
  Laid BY PROGRAM, IN A SANDBOX (cutbox-rows.mjs): the forced cells as the released guide's own fill.sh prints them over the translation 4a9c01b2dbd99fe6… (all of the seat's roots in one cut). By AI agents, Wed Nov 11 2026. No macro, syntax, notation, axiom, sorry.
-/
import Derived.Test.YtedejbanhhonbaaChecked
import GoSem.Claim
import GoSem.ClaimJoined
import GoSem.ClaimMapViews
import Derived.JoinedTies
import Derived.KernelRfl
namespace Go.Proofs.Ytedejbanhhonbaa
/- THE CELL 'sum', in the pinned program and in every row, IS THE sha256 OF THE DUMP (.gsa) THAT YtedejbanhhonbaaProg.lean LOADS. Nothing in Lean hashes anything: it is a label: what it is worth is what the hold of that sum in a sandbox is worth. -/
noncomputable def Try.pinned : Pinned := { name := "ytedejbanhhonbaa", sum := "4a9c01b2dbd99fe62c0efc88d5d9bc4084357d2748482136b82e6e008128e618", checked := Try.checked }
namespace Rows
def none {H : Type} : Left H := { results := [], args := [] }

/-- 'paciolilaw09.RuleTransfers': WHATEVER THE INPUT: true; the input reads as it did. -/
def ruleTransfersSpec : ChangeSpec := { name := "ruleTransfers", fn := fun _ => fun
  | [d] => { results := [.lit (.bool true)], args := [d] }
  | _ => none }
def ruleTransfersRow : OpenClaim := { program := "ytedejbanhhonbaa", sum := "4a9c01b2dbd99fe62c0efc88d5d9bc4084357d2748482136b82e6e008128e618", func := "pacioli/paciolilaw09.RuleTransfers", spec := "ruleTransfers", apart := false }
def RuleTransfersSaid : Prop := ruleTransfersRow.holds Try.pinned (OpenSpec.ofChange ruleTransfersSpec)

/-- ITS FALSE NEIGHBOUR: 'it returns false'. Refute it at one input. -/
def ruleTransfersWrong : ChangeSpec := { name := "ruleTransfers", fn := fun _ => fun
  | [d] => { results := [.lit (.bool false)], args := [d] }
  | _ => none }
def RuleTransfersWrongFalsely : Prop := ruleTransfersRow.holds Try.pinned (OpenSpec.ofChange ruleTransfersWrong)

/-- 'paciolilaw09.RuleFlags': WHATEVER THE INPUT: true; the input reads as it did. -/
def ruleFlagsSpec : ChangeSpec := { name := "ruleFlags", fn := fun _ => fun
  | [d] => { results := [.lit (.bool true)], args := [d] }
  | _ => none }
def ruleFlagsRow : OpenClaim := { program := "ytedejbanhhonbaa", sum := "4a9c01b2dbd99fe62c0efc88d5d9bc4084357d2748482136b82e6e008128e618", func := "pacioli/paciolilaw09.RuleFlags", spec := "ruleFlags", apart := false }
def RuleFlagsSaid : Prop := ruleFlagsRow.holds Try.pinned (OpenSpec.ofChange ruleFlagsSpec)

/-- ITS FALSE NEIGHBOUR: 'it returns false'. Refute it at one input. -/
def ruleFlagsWrong : ChangeSpec := { name := "ruleFlags", fn := fun _ => fun
  | [d] => { results := [.lit (.bool false)], args := [d] }
  | _ => none }
def RuleFlagsWrongFalsely : Prop := ruleFlagsRow.holds Try.pinned (OpenSpec.ofChange ruleFlagsWrong)

/-- 'paciolilaw09.RuleRepeats': WHATEVER THE INPUT: true; the input reads as it did. -/
def ruleRepeatsSpec : ChangeSpec := { name := "ruleRepeats", fn := fun _ => fun
  | [d1, d2, d3] => { results := [.lit (.bool true)], args := [d1, d2, d3] }
  | _ => none }
def ruleRepeatsRow : OpenClaim := { program := "ytedejbanhhonbaa", sum := "4a9c01b2dbd99fe62c0efc88d5d9bc4084357d2748482136b82e6e008128e618", func := "pacioli/paciolilaw09.RuleRepeats", spec := "ruleRepeats", apart := false }
def RuleRepeatsSaid : Prop := ruleRepeatsRow.holds Try.pinned (OpenSpec.ofChange ruleRepeatsSpec)

/-- ITS FALSE NEIGHBOUR: 'it returns false'. Refute it at one input. -/
def ruleRepeatsWrong : ChangeSpec := { name := "ruleRepeats", fn := fun _ => fun
  | [d1, d2, d3] => { results := [.lit (.bool false)], args := [d1, d2, d3] }
  | _ => none }
def RuleRepeatsWrongFalsely : Prop := ruleRepeatsRow.holds Try.pinned (OpenSpec.ofChange ruleRepeatsWrong)

/-- 'paciolilaw09.RuleSelf': WHATEVER THE INPUT: true; the input reads as it did. -/
def ruleSelfSpec : ChangeSpec := { name := "ruleSelf", fn := fun _ => fun
  | [d1, d2] => { results := [.lit (.bool true)], args := [d1, d2] }
  | _ => none }
def ruleSelfRow : OpenClaim := { program := "ytedejbanhhonbaa", sum := "4a9c01b2dbd99fe62c0efc88d5d9bc4084357d2748482136b82e6e008128e618", func := "pacioli/paciolilaw09.RuleSelf", spec := "ruleSelf", apart := false }
def RuleSelfSaid : Prop := ruleSelfRow.holds Try.pinned (OpenSpec.ofChange ruleSelfSpec)

/-- ITS FALSE NEIGHBOUR: 'it returns false'. Refute it at one input. -/
def ruleSelfWrong : ChangeSpec := { name := "ruleSelf", fn := fun _ => fun
  | [d1, d2] => { results := [.lit (.bool false)], args := [d1, d2] }
  | _ => none }
def RuleSelfWrongFalsely : Prop := ruleSelfRow.holds Try.pinned (OpenSpec.ofChange ruleSelfWrong)

/-- 'paciolilaw09.RuleRooms': WHATEVER THE INPUT: true; the input reads as it did. -/
def ruleRoomsSpec : ChangeSpec := { name := "ruleRooms", fn := fun _ => fun
  | [d1, d2] => { results := [.lit (.bool true)], args := [d1, d2] }
  | _ => none }
def ruleRoomsRow : OpenClaim := { program := "ytedejbanhhonbaa", sum := "4a9c01b2dbd99fe62c0efc88d5d9bc4084357d2748482136b82e6e008128e618", func := "pacioli/paciolilaw09.RuleRooms", spec := "ruleRooms", inPlace := ["math/bits.Add64", "math/bits.Sub64"], apart := false }
def RuleRoomsSaid : Prop := ruleRoomsRow.holds Try.pinned (OpenSpec.ofChange ruleRoomsSpec)

/-- ITS FALSE NEIGHBOUR: 'it returns false'. Refute it at one input. -/
def ruleRoomsWrong : ChangeSpec := { name := "ruleRooms", fn := fun _ => fun
  | [d1, d2] => { results := [.lit (.bool false)], args := [d1, d2] }
  | _ => none }
def RuleRoomsWrongFalsely : Prop := ruleRoomsRow.holds Try.pinned (OpenSpec.ofChange ruleRoomsWrong)

/-- 'paciolilaw09.RuleLimits': WHATEVER THE INPUT: true; the input reads as it did. -/
def ruleLimitsSpec : ChangeSpec := { name := "ruleLimits", fn := fun _ => fun
  | [d] => { results := [.lit (.bool true)], args := [d] }
  | _ => none }
def ruleLimitsRow : OpenClaim := { program := "ytedejbanhhonbaa", sum := "4a9c01b2dbd99fe62c0efc88d5d9bc4084357d2748482136b82e6e008128e618", func := "pacioli/paciolilaw09.RuleLimits", spec := "ruleLimits", inPlace := ["math/bits.Add64", "math/bits.Sub64"], apart := false }
def RuleLimitsSaid : Prop := ruleLimitsRow.holds Try.pinned (OpenSpec.ofChange ruleLimitsSpec)

/-- ITS FALSE NEIGHBOUR: 'it returns false'. Refute it at one input. -/
def ruleLimitsWrong : ChangeSpec := { name := "ruleLimits", fn := fun _ => fun
  | [d] => { results := [.lit (.bool false)], args := [d] }
  | _ => none }
def RuleLimitsWrongFalsely : Prop := ruleLimitsRow.holds Try.pinned (OpenSpec.ofChange ruleLimitsWrong)

/- THE SECOND FORM. 'bulk': how many values and letters a reading holds, each counted each time it is reached (what is shared counts as often as it is met; a slice's spare places count too). A statement '..UptoSaid' is the law's where the arguments, and the package variables that the reading takes, are together of bulk at most 1048576: NARROWER than '..Said'. Prove '..Said' where nothing that the law and all that it calls make is longer than what came in: it says more and counts as full. Else prove '..UptoSaid'. A law counts once. -/
mutual
def uptoBulk {H : Type} : DataW H → Nat
  | .lit (.string bytes) => bytes.length + 1
  | .lit _ => 1
  | .nil => 1
  | .ptr d => uptoBulk d + 1
  | .slice elems spare => uptoBulkAll elems + uptoBulkAll spare + 1
  | .agg parts => uptoBulkAll parts + 1
  | .iface _ d => uptoBulk d + 1
  | .map entries => uptoBulkEntries entries + 1
  | .held _ => 1
def uptoBulkAll {H : Type} : List (DataW H) → Nat
  | [] => 0
  | d :: r => uptoBulk d + uptoBulkAll r
def uptoBulkEntries {H : Type} : List (Lit × DataW H) → Nat
  | [] => 0
  | x :: r => uptoBulkEntry x + uptoBulkEntries r
def uptoBulkEntry {H : Type} : Lit × DataW H → Nat
  | (.string bytes, d) => bytes.length + uptoBulk d + 1
  | (_, d) => uptoBulk d + 1
 end
def uptoSmall : (H : Type) → List (DataW H) → Bool := fun _ ds => decide (uptoBulkAll ds ≤ 1048576)
def OpenSpec.upto (s : _root_.Go.ChangeSpec) : _root_.Go.OpenSpec := { _root_.Go.OpenSpec.ofChange s with cond := some uptoSmall }

/-- 'paciolilaw09.RuleTransfers', WHERE WHAT IT READS IS OF BULK AT MOST 1048576: true; the input reads as it did. -/
def ruleTransfersUptoRow : OpenClaim := { program := "ytedejbanhhonbaa", sum := "4a9c01b2dbd99fe62c0efc88d5d9bc4084357d2748482136b82e6e008128e618", func := "pacioli/paciolilaw09.RuleTransfers", spec := "ruleTransfers", apart := false, narrowed := true }
def RuleTransfersUptoSaid : Prop := ruleTransfersUptoRow.holds Try.pinned (OpenSpec.upto ruleTransfersSpec)

/-- 'paciolilaw09.RuleFlags', WHERE WHAT IT READS IS OF BULK AT MOST 1048576: true; the input reads as it did. -/
def ruleFlagsUptoRow : OpenClaim := { program := "ytedejbanhhonbaa", sum := "4a9c01b2dbd99fe62c0efc88d5d9bc4084357d2748482136b82e6e008128e618", func := "pacioli/paciolilaw09.RuleFlags", spec := "ruleFlags", apart := false, narrowed := true }
def RuleFlagsUptoSaid : Prop := ruleFlagsUptoRow.holds Try.pinned (OpenSpec.upto ruleFlagsSpec)

/-- 'paciolilaw09.RuleRepeats', WHERE WHAT IT READS IS OF BULK AT MOST 1048576: true; the input reads as it did. -/
def ruleRepeatsUptoRow : OpenClaim := { program := "ytedejbanhhonbaa", sum := "4a9c01b2dbd99fe62c0efc88d5d9bc4084357d2748482136b82e6e008128e618", func := "pacioli/paciolilaw09.RuleRepeats", spec := "ruleRepeats", apart := false, narrowed := true }
def RuleRepeatsUptoSaid : Prop := ruleRepeatsUptoRow.holds Try.pinned (OpenSpec.upto ruleRepeatsSpec)

/-- 'paciolilaw09.RuleSelf', WHERE WHAT IT READS IS OF BULK AT MOST 1048576: true; the input reads as it did. -/
def ruleSelfUptoRow : OpenClaim := { program := "ytedejbanhhonbaa", sum := "4a9c01b2dbd99fe62c0efc88d5d9bc4084357d2748482136b82e6e008128e618", func := "pacioli/paciolilaw09.RuleSelf", spec := "ruleSelf", apart := false, narrowed := true }
def RuleSelfUptoSaid : Prop := ruleSelfUptoRow.holds Try.pinned (OpenSpec.upto ruleSelfSpec)

/-- 'paciolilaw09.RuleRooms', WHERE WHAT IT READS IS OF BULK AT MOST 1048576: true; the input reads as it did. -/
def ruleRoomsUptoRow : OpenClaim := { program := "ytedejbanhhonbaa", sum := "4a9c01b2dbd99fe62c0efc88d5d9bc4084357d2748482136b82e6e008128e618", func := "pacioli/paciolilaw09.RuleRooms", spec := "ruleRooms", inPlace := ["math/bits.Add64", "math/bits.Sub64"], apart := false, narrowed := true }
def RuleRoomsUptoSaid : Prop := ruleRoomsUptoRow.holds Try.pinned (OpenSpec.upto ruleRoomsSpec)

/-- 'paciolilaw09.RuleLimits', WHERE WHAT IT READS IS OF BULK AT MOST 1048576: true; the input reads as it did. -/
def ruleLimitsUptoRow : OpenClaim := { program := "ytedejbanhhonbaa", sum := "4a9c01b2dbd99fe62c0efc88d5d9bc4084357d2748482136b82e6e008128e618", func := "pacioli/paciolilaw09.RuleLimits", spec := "ruleLimits", inPlace := ["math/bits.Add64", "math/bits.Sub64"], apart := false, narrowed := true }
def RuleLimitsUptoSaid : Prop := ruleLimitsUptoRow.holds Try.pinned (OpenSpec.upto ruleLimitsSpec)

end Rows
end Go.Proofs.Ytedejbanhhonbaa
