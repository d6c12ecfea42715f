/-
  THE CARD OF BinaryRight: a circuit that is read of bytes is right and has the binary order (it is its own renumbering), and a fault that is told has a number and a place of the bytes, with no gates. Proved for every text that a caller can hold, with the listed library variables as the program's text lays them; no other condition.
-/
import Derived.Test.YtdmngdohlobogaaGreatDoorYLawRight
set_option linter.unusedVariables false
set_option linter.unusedSimpArgs false
namespace Go.Proofs.YtdmngdohlobogaaGreatDoor
open Go
set_option maxRecDepth 100000
theorem binaryRight_card_holds : Rows.BinaryRightCardSaid :=
 Claim7.holds_tied_plain_at .later [] [.data, .data, .data, .data, .sentinel, .sentinel, .pinned] true (true, "3b5eb4af48bddcf4897398b2dc9d29b8ba09fd727fd7e7fd707208ff862f4a27") true
  Right.over (fun _ h => by cases h) (by kernel_rfl) (fun _ h => by cases h) binaryRight_row_tie rfl ⟨rfl,rfl⟩ (by kernel_rfl) rfl
  (fun f fn hf hfn => by
   obtain rfl : f = 5 := Option.some.inj ((show Tryz.prog.funcNamed "trestle/trestlelaw05.BinaryRight" = some 5 by kernel_rfl).symm.trans hf) |>.symm
   obtain rfl : fn = Tryz.f5:=(Option.some.inj (Tryz.func5.symm.trans hfn)).symm
   exact ⟨by kernel_rfl,fun j t ht => by
    rw [Tryz.params5] at ht
    rcases j with _|j
    ·obtain rfl : 9 = t:=by simpa using ht
     exact (show Tryz.prog.wantsStandIn 9 = false by kernel_rfl)
    ·simp at ht⟩)
  (by kernel_rfl)
#print axioms binaryRight_card_holds
end Go.Proofs.YtdmngdohlobogaaGreatDoor

