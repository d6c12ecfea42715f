/-
  THE CARD OF VerdictBack: what a table tells is read as its rows; what is read is told as the text. Proved for every argument that a caller can hold, with the listed library variables as the program's text lays them; no other condition.
-/
import Derived.Test.YtifigmamaakigaaDoorBLawBack
set_option linter.unusedVariables false
set_option linter.unusedSimpArgs false
namespace Go.Proofs.YtifigmamaakigaaDoor
open Go
set_option maxRecDepth 100000
theorem verdictBack_card_holds : Rows.VerdictBackCardSaid :=
  Claim7.holds_tied_plain_at .later [] [.data, .data, .data, .data, .sentinel, .sentinel, .widerDeep, .pinned] true (true, "3e61d4019603407948ead464325f8d03ca404d5066eae36164af49c28bf73f9f") true
    Back.over (fun _ h => by cases h) (by kernel_rfl) (fun _ h => by cases h) verdictBack_row_tie rfl ⟨rfl,rfl⟩ (by kernel_rfl) rfl
    (fun f fn hf hfn => by
      obtain rfl : f = 4 := Option.some.inj ((show Tryd.prog.funcNamed "trestle/trestlelaw27.VerdictBack" = some 4 by kernel_rfl).symm.trans hf) |>.symm
      obtain rfl : fn = Tryd.f4:=(Option.some.inj (Tryd.func4.symm.trans hfn)).symm
      exact ⟨by kernel_rfl,fun j t ht => by
        rw [Tryd.params4] at ht
        rcases j with _|_|j
        · obtain rfl : 22 = t:=by simpa using ht
          exact (show Tryd.prog.wantsStandIn 22 = false by kernel_rfl)
        · obtain rfl : 9 = t:=by simpa using ht
          exact (show Tryd.prog.wantsStandIn 9 = false by kernel_rfl)
        · simp at ht⟩)
    (by kernel_rfl)
#print axioms verdictBack_card_holds
end Go.Proofs.YtifigmamaakigaaDoor

