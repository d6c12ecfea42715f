/-
  THE CARD OF VerdictMerges: merging what was merged changes nothing; each property stands once, in order; rows in another order say the same kinds and, where unknown, depths; what is merged in the end does not hang on what was merged ahead. Proved for every argument that a caller can hold, with the listed library variables as the program's text lays them; no other condition.
-/
import Derived.Test.YtifigmamaakigaaDoorMLawMerges
set_option linter.unusedVariables false
set_option linter.unusedSimpArgs false
namespace Go.Proofs.YtifigmamaakigaaDoor
open Go
set_option maxRecDepth 100000
theorem verdictMerges_card_holds : Rows.VerdictMergesCardSaid :=
  Claim7.holds_tied_plain_at .later [] [.data, .data, .data, .data, .sentinel, .sentinel, .widerDeep, .pinned] true (true, "3e61d4019603407948ead464325f8d03ca404d5066eae36164af49c28bf73f9f") true
    Merges.over (fun _ h => by cases h) (by kernel_rfl) (fun _ h => by cases h) verdictMerges_row_tie rfl ⟨rfl,rfl⟩ (by kernel_rfl) rfl
    (fun f fn hf hfn => by
      obtain rfl : f = 3 := Option.some.inj ((show Tryd.prog.funcNamed "trestle/trestlelaw27.VerdictMerges" = some 3 by kernel_rfl).symm.trans hf) |>.symm
      obtain rfl : fn = Tryd.f3:=(Option.some.inj (Tryd.func3.symm.trans hfn)).symm
      exact ⟨by kernel_rfl,fun j t ht => by
        rw [Tryd.params3] at ht
        rcases j with _|_|j
        · obtain rfl : 22 = t:=by simpa using ht
          exact (show Tryd.prog.wantsStandIn 22 = false by kernel_rfl)
        · obtain rfl : 3 = t:=by simpa using ht
          exact (show Tryd.prog.wantsStandIn 3 = false by kernel_rfl)
        · simp at ht⟩)
    (by kernel_rfl)
#print axioms verdictMerges_card_holds
end Go.Proofs.YtifigmamaakigaaDoor

